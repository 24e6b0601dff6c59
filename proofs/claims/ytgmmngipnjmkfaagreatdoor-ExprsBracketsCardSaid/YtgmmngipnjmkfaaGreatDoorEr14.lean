/- Lemmas of the proof (cut to what it uses, by wip/trim.py). -/
import Derived.Test.YtgmmngipnjmkfaaGreatDoorEr3
import Derived.Test.YtgmmngipnjmkfaaGreatDoorEr6
import Derived.Test.YtgmmngipnjmkfaaGreatDoorEr8
import Derived.Test.YtgmmngipnjmkfaaGreatDoorEr12
import Derived.Test.YtgmmngipnjmkfaaGreatDoorEr13
section
namespace Go.Proofs.YtgmmngipnjmkfaaGreatDoor.Q
open Go.Proofs.YtgmmngipnjmkfaaGreatDoor.Hand
open Go.RowKit Go.Proofs.YtgmmngipnjmkfaaGreatDoorW.PrintWords Go.Proofs.YtgmmngipnjmkfaaGreatDoorW.PrintLast Go.Proofs.YtgmmngipnjmkfaaGreatDoorW.PrintMore
attribute [local go_sem] zcy zcz zdb zdc zcp zcq zc0 zc1
set_option linter.unusedVariables false
set_option linter.unusedSimpArgs false
mutual
def zae.j0 : Nat → List (S43) → List (S33) → Bool → Int → ByteArray → Int → Option (Bool)
  | 0, _, _, _, _, _, _ => none
  | k + 1, x0, x1, x42, x408000, x408001, x408002 => if x42 = true then ((zaz.f k).bind fun t423 => (some t423)) else ((zcl.f x0).bind fun bt424 => (if bt424.2 = 0 then (zae.j1 k x0 x1 bt424.1 bt424.2 (decide ((bt424.1.size : Int) > 390)) x408000 x408001 x408002) else (zae.j1 k x0 x1 bt424.1 bt424.2 true x408000 x408001 x408002)))
def zae.j1 : Nat → List (S43) → List (S33) → ByteArray → Int → Bool → Int → ByteArray → Int → Option (Bool)
  | 0, _, _, _, _, _, _, _, _ => none
  | k + 1, x0, x1, x7, x8, x55, x408000, x408001, x408002 => if x55 = true then (if x8 = 0 then ((zaz.f k).bind fun t426 => (some t426)) else (some false)) else (if 1 + x7.size ≤ 9223372036854775807 then (if ((⟨#[40]⟩ : ByteArray) ++ x7).size + 1 ≤ 9223372036854775807 then ((zbe.f k (((⟨#[40]⟩ : ByteArray) ++ x7) ++ (⟨#[41]⟩ : ByteArray))).bind fun bt427 => (if bt427.2.2 = 0 then (zae.j2 k x0 x1 bt427.1 bt427.2.2 (decide ((bt427.1.length : Int) > 150)) x408000 x408001 x408002) else (zae.j2 k x0 x1 bt427.1 bt427.2.2 true x408000 x408001 x408002))) else (none)) else (none))
def zae.j2 : Nat → List (S43) → List (S33) → List (S33) → Int → Bool → Int → ByteArray → Int → Option (Bool)
  | 0, _, _, _, _, _, _, _, _ => none
  | k + 1, x0, x1, x9, x11, x75, x408000, x408001, x408002 => if x75 = true then (if x11 = 0 then ((zaz.f k).bind fun t432 => (some t432)) else (some false)) else ((some (([] : List (S33)) : List (S33))).bind fun y433 => (if y433.length + x1.length < 4398046511104 then ((some (y433 ++ x1 : List (S33))).bind fun y436 => (if y436.length + x9.length < 4398046511104 then ((some (y436 ++ x9 : List (S33))).bind fun y439 => ((za5.f k y439 (x1.length : Int)).bind fun bt442 => ((zcm.f x0 bt442.1).bind fun bt447 => (if bt442.2.2 = 0 then (if bt447.2 = 0 then (if bt447.1 = true then (zae.j3 k x1 y439 bt442.1 bt442.2.1 (bt442.2.1 != (y439.length : Int)) x408000 x408001 x408002) else (zae.j3 k x1 y439 bt442.1 bt442.2.1 true x408000 x408001 x408002)) else (zae.j3 k x1 y439 bt442.1 bt442.2.1 true x408000 x408001 x408002)) else (zae.j3 k x1 y439 bt442.1 bt442.2.1 true x408000 x408001 x408002))))) else (none))) else (none)))
def zae.j3 : Nat → List (S33) → List (S33) → List (S43) → Int → Bool → Int → ByteArray → Int → Option (Bool)
  | 0, _, _, _, _, _, _, _, _ => none
  | k + 1, x1, x12, x13, x14, x115, x408000, x408001, x408002 => if x115 = true then (some false) else (if x408000 = 1 then (zae.j4 k x1 x12 x13 x14 true x408000 x408001 x408002) else (if x408001.toList = ([107] : List UInt8) then (zae.j4 k x1 x12 x13 x14 true x408000 x408001 x408002) else (if x408001.toList = ([41] : List UInt8) then (zae.j4 k x1 x12 x13 x14 true x408000 x408001 x408002) else (zae.j4 k x1 x12 x13 x14 (x408001.toList == ([40] : List UInt8)) x408000 x408001 x408002))))
def zae.j4 : Nat → List (S33) → List (S33) → List (S43) → Int → Bool → Int → ByteArray → Int → Option (Bool)
  | 0, _, _, _, _, _, _, _, _ => none
  | k + 1, x1, x12, x13, x14, x133, x408000, x408001, x408002 => if x133 = true then ((some (([(⟨x408000, x408001, x408002⟩ : S33)] : List (S33)) : List (S33))).bind fun y449 => (if x12.length + y449.length < 4398046511104 then ((za5.f k (x12 ++ y449) (x1.length : Int)).bind fun bt455 => (if bt455.2.2 = 0 then (if bt455.2.1 = x14 then ((za7.f k x13 bt455.1).bind fun t460 => (if t460 = true then ((zaz.f k).bind fun t461 => (some t461)) else (some false))) else (some false)) else (some false))) else (none))) else ((zaz.f k).bind fun t462 => (some t462))
end
def zae.f (k : Nat) (l0 : List (S43)) (l1 : List (S33)) (a2_0 : Int) (a2_1 : ByteArray) (a2_2 : Int) : Option (Bool) := (zb2.f l0).bind fun t408 => (if t408 = true then (zae.j0 k l0 l1 true a2_0 a2_1 a2_2) else ((zbx.f k l0).bind fun t409 => (if t409 = 0 then (if (l1.length : Int) > 30 then (zae.j0 k l0 l1 true a2_0 a2_1 a2_2) else ((some (([] : List (S33)) : List (S33))).bind fun y410 => (if y410.length + l1.length < 4398046511104 then ((some (y410 ++ l1 : List (S33))).bind fun y413 => ((some (([(⟨a2_0, a2_1, a2_2⟩ : S33)] : List (S33)) : List (S33))).bind fun y416 => (if y413.length + y416.length < 4398046511104 then ((zax.f k (y413 ++ y416) 0).bind fun t422 => (zae.j0 k l0 l1 (t422 != 0) a2_0 a2_1 a2_2)) else (none)))) else (none)))) else (zae.j0 k l0 l1 true a2_0 a2_1 a2_2))))
def zae.T1 : Bool × List (List Nat × List Nat) := (true, [([], []), ([0], [0]), ([1, 1], [1]), ([2], [2]), ([3, 2, 2], [2, 3]), ([4, 2], [2, 4]), ([2, 5], [2, 5]), ([6, 4], [6]), ([7], [7]), ([8, 7], [7, 8]), ([9, 7], [7, 9]), ([7, 10], [7, 10]), ([11, 7], [11]), ([12], [12]), ([12], [12]), ([13, 14, 12, 12], [12, 13, 14]), ([12], [12]), ([16, 12], [12, 16]), ([15, 17, 15, 12], [12, 15, 17]), ([18, 18, 12], [12, 18]), ([19, 12], [12, 19]), ([12, 20], [12, 20])])
def zae.B1 : List Nat := [0, 1, 3, 7, 15, 31, 63, 127, 255, 511, 1023, 2047, 4095, 8191, 8191, 32767, 8191, 73727, 262143, 524287, 1048575, 2097151]
theorem zae.tab1 : rtab .any (opsOf Tryz.f6 1) = zae.T1 := by kernel_rfl
theorem zae.bits1 : waitsOk zae.T1.2 zae.B1 = true := by kernel_rfl
set_option maxHeartbeats 8000000 in
set_option maxRecDepth 100000 in
theorem zae.calls (k : Nat) (A0 : Option Addr) (c0 : Nat) (l0 : List (S43)) (A1 : Option Addr) (c1 : Nat) (l1 : List (S33)) (a2_0 : Int) (a2_1 : ByteArray) (a2_2 : Int) (r : Bool) (w : World) (hr0 : Kd.C k43 w A0 l0.length l0) (hc0 : l0.length ≤ c0) (hr1 : Kd.C k33 w A1 l1.length l1) (hc1 : l1.length ≤ c1) (hT : Tabs w) (h : zae.f k l0 l1 a2_0 a2_1 a2_2 = some r) :
 Calls Tryz.prog 6 #[.slice A0 l0.length c0, .slice A1 l1.length c1, .agg #[.int .u8 a2_0, .string a2_1, .int .i64 a2_2]] w fun e w' => e = .returned (.bool r) ∧ Below w.heap.size w w' := by
 have hu33 := Tryz.underlying33
 have HR0 := zad.mk hr0
 have HC0 := zad.mk hc0
 clear hr0 hc0
 have HR1 := zad.mk hr1
 have HC1 := zad.mk hc1
 clear hr1 hc1
 have HB := zad.mk (Below.refl w.heap.size w)
 have H : ((zb2.f l0).bind fun t408 => (if t408 = true then (zae.j0 k l0 l1 true a2_0 a2_1 a2_2) else ((zbx.f k l0).bind fun t409 => (if t409 = 0 then (if (l1.length : Int) > 30 then (zae.j0 k l0 l1 true a2_0 a2_1 a2_2) else ((some (([] : List (S33)) : List (S33))).bind fun y410 => (if y410.length + l1.length < 4398046511104 then ((some (y410 ++ l1 : List (S33))).bind fun y413 => ((some (([(⟨a2_0, a2_1, a2_2⟩ : S33)] : List (S33)) : List (S33))).bind fun y416 => (if y413.length + y416.length < 4398046511104 then ((zax.f k (y413 ++ y416) 0).bind fun t422 => (zae.j0 k l0 l1 (t422 != 0) a2_0 a2_1 a2_2)) else (none)))) else (none)))) else (zae.j0 k l0 l1 true a2_0 a2_1 a2_2))))) = some r := h
 clear h
 have HC4 := zad.mk H
 clear H
 go_enter Tryz.func6, Tryz.ntmps6
 go_upto_region 1 with (first | ((with_reducible refine zbw (N := 5) rfl ?_); (try (refine zbo (by rfl) ?_; dsimp only)); refine zby ?hg (N := 5) ?hd (cs := #[.int .u8 a2_0, .string a2_1, .int .i64 a2_2]) (t := 33) ?hr ?_; (case hd => rfl); (case hg => rfl); (case hr => first | (go_simp; done) | (go_simp; rfl)); intro gb407 hg w5 hbox hb; have n0_ := zad.mk (zah (by repeat (first | (with_reducible first | exact HB.out | apply zab | apply zaa | apply zac) | exact HB.out)) hb); have n1_ := zad.mk (hbox); have n2_ := zad.mk ((by rw [hg]; exact (zao (by repeat (first | (with_reducible first | exact HB.out | apply zab | apply zaa | apply zac) | exact HB.out))) : w.heap.size ≤ gb407)); have n3_ := zad.mk ((by rw [hg]; exact (zao (by repeat (first | (with_reducible first | exact HB.out | apply zab | apply zaa | apply zac) | exact HB.out))) : w.heap.size ≤ gb407)); clear HB; have HB := n0_; have BK407 := n1_; have GW407 := n2_; have GE407 := n3_; clear n0_ n1_ n2_ n3_; clear hb hbox hg))
 (try simp only [Act.put, List.setIfInBounds_toArray, List.set_cons_zero, List.set_cons_succ])
 go_cut [42] (fun v42 wc => ∃ (kq : Nat) (x42_3 : Bool), v42 = .bool x42_3 ∧ zad (zae.j0 kq l0 l1 x42_3 a2_0 a2_1 a2_2 = some r) ∧ zad (kq ≤ k) ∧ zad (wc.heap[gb407]? = some (.cells #[.int .u8 a2_0, .string a2_1, .int .i64 a2_2] 33 (0, 0))) ∧ zad (Below w.heap.size w wc))
 case first =>
  have H := HC4.out
  clear HC4
  replace H := Option.bind_eq_some_iff.mp H
  obtain ⟨t408, A60, H⟩ := H
  replace H : (if t408 = true then (zae.j0 k l0 l1 true a2_0 a2_1 a2_2) else ((zbx.f k l0).bind fun t409 => (if t409 = 0 then (if (l1.length : Int) > 30 then (zae.j0 k l0 l1 true a2_0 a2_1 a2_2) else ((some (([] : List (S33)) : List (S33))).bind fun y410 => (if y410.length + l1.length < 4398046511104 then ((some (y410 ++ l1 : List (S33))).bind fun y413 => ((some (([(⟨a2_0, a2_1, a2_2⟩ : S33)] : List (S33)) : List (S33))).bind fun y416 => (if y413.length + y416.length < 4398046511104 then ((zax.f k (y413 ++ y416) 0).bind fun t422 => (zae.j0 k l0 l1 (t422 != 0) a2_0 a2_1 a2_2)) else (none)))) else (none)))) else (zae.j0 k l0 l1 true a2_0 a2_1 a2_2)))) = some r := H
  have A6 := zad.mk A60
  clear A60
  by_cases c7 : t408 = true
  ·subst c7
   have H1 : (zae.j0 k l0 l1 true a2_0 a2_1 a2_2) = some r := by rw [if_pos rfl] at H; exact H
   clear H
   have H := H1
   clear H1
   have H' := zad.mk H
   clear H
   try go_wp2
   have n0_ := zad.mk (zat BK407.out)
   have n1_ := zad.mk (zac HB.out)
   clear BK407
   clear HB
   have BK407 := n0_
   have HB := n1_
   clear n0_ n1_
   refine start_ (n := 22) (S := fun w' => True) (ds := []) #[false, false, false, false, false, false, false, false, false, false, false, false, false, false, false, false, false, false, false, false, false, false] (by kernel_rfl) rfl rfl trivial (fun hHeld => ?_); refine zc9 zae.tab1 zae.bits1 (fun HT_ HW_ => ?_)
   generalize w5.drew = w8 at BK407 HB hHeld ⊢
   refine pure_ (i := 0) (N := some 21) (v := ?_) (a' := ?_) #[true, false, false, false, false, false, false, false, false, false, false, false, false, false, false, false, false, false, false, false, false, false] rfl rfl (za4 HT_.out (by kernel_rfl)) (fun _ _ _ h => h) (Or.inl ⟨by rfl, ?_⟩) ?_ ?_
   rotate_left
   ·intro w'
    go_simp
    with_reducible rfl
   rotate_left
   ·simp only [Act.put, List.setIfInBounds_toArray, List.set_cons_zero, List.set_cons_succ, i64_w, i32_w]
    rfl
   refine one_ (i := 1) (N := some 22) #[true, true, false, false, false, false, false, false, false, false, false, false, false, false, false, false, false, false, false, false, false, false] rfl rfl (zdg HT_.out (by kernel_rfl)) (by decide) (fun K hK => ?_)
   refine goes_ Tryz.func17 (by kernel_rfl) rfl #[.slice A0 l0.length c0] (by rfl) rfl rfl (by (try simp only [List.map_toArray, List.map_cons, List.map_nil]); first | done | rfl | (simp only [List.length_drop, List.length_take]; rfl)) ?_
   with_reducible refine (zb2.calls _ _ l0 true _ ?side1 ?side2 A6.out).mono ?_
   (case side1 => repeat (first | exact (Kd.zb7 HR0.out HB.out) | (with_reducible refine Kd.zbu ?_ _) | (with_reducible refine Kd.zbv ?_ _) | (with_reducible refine Kd.zb4 ?_)))
   (case side2 => exact HC0.out)
   rintro e w' ⟨rfl, ⟨nd, rfl⟩⟩
   refine ⟨_, rfl, ?_⟩
   refine hK.out _ _ trivial (fun hHeld => ?_)
   clear hK K
   refine norm_ (a' := ?_) ?_ ?_
   rotate_left
   ·show Act.put _ (some 22) _ = _
    simp only [Act.put, List.setIfInBounds_toArray, List.set_cons_zero, List.set_cons_succ, i64_w, i32_w]
    rfl
   refine pure_ (i := 2) (N := some 23) (v := ?_) (a' := ?_) #[true, true, true, false, false, false, false, false, false, false, false, false, false, false, false, false, false, false, false, false, false, false] rfl rfl (za4 HT_.out (by kernel_rfl)) (fun _ _ _ h => h) (Or.inl ⟨by rfl, ?_⟩) ?_ ?_
   rotate_left
   ·intro w'
    go_simp
    with_reducible rfl
   rotate_left
   ·simp only [Act.put, List.setIfInBounds_toArray, List.set_cons_zero, List.set_cons_succ, i64_w, i32_w]
    rfl
   refine pure_ (i := 3) (N := some 24) (v := undef) (a' := ?_) #[true, true, true, true, false, false, false, false, false, false, false, false, false, false, false, false, false, false, false, false, false, false] rfl rfl (za4 HT_.out (by kernel_rfl)) (fun _ _ _ h => h) (Or.inr ⟨by rfl, rfl⟩) ?_ ?_
   rotate_left
   ·simp only [Act.put, List.setIfInBounds_toArray, List.set_cons_zero, List.set_cons_succ, i64_w, i32_w]
    rfl
   refine pure_ (i := 4) (N := some 25) (v := undef) (a' := ?_) #[true, true, true, true, true, false, false, false, false, false, false, false, false, false, false, false, false, false, false, false, false, false] rfl rfl (za4 HT_.out (by kernel_rfl)) (fun _ _ _ h => h) (Or.inr ⟨by rfl, rfl⟩) ?_ ?_
   rotate_left
   ·simp only [Act.put, List.setIfInBounds_toArray, List.set_cons_zero, List.set_cons_succ, i64_w, i32_w]
    rfl
   refine pure_ (i := 5) (N := some 26) (v := undef) (a' := ?_) #[true, true, true, true, true, true, false, false, false, false, false, false, false, false, false, false, false, false, false, false, false, false] rfl rfl (za4 HT_.out (by kernel_rfl)) (fun _ _ _ h => h) (Or.inr ⟨by rfl, rfl⟩) ?_ ?_
   rotate_left
   ·simp only [Act.put, List.setIfInBounds_toArray, List.set_cons_zero, List.set_cons_succ, i64_w, i32_w]
    rfl
   refine pure_ (i := 6) (N := some 27) (v := ?_) (a' := ?_) #[true, true, true, true, true, true, true, false, false, false, false, false, false, false, false, false, false, false, false, false, false, false] rfl rfl (za4 HT_.out (by kernel_rfl)) (fun _ _ _ h => h) (Or.inl ⟨by rfl, ?_⟩) ?_ ?_
   rotate_left
   ·intro w'
    go_simp
    with_reducible rfl
   rotate_left
   ·simp only [Act.put, List.setIfInBounds_toArray, List.set_cons_zero, List.set_cons_succ, i64_w, i32_w]
    rfl
   refine pure_ (i := 7) (N := some 28) (v := ?_) (a' := ?_) #[true, true, true, true, true, true, true, true, false, false, false, false, false, false, false, false, false, false, false, false, false, false] rfl rfl (za4 HT_.out (by kernel_rfl)) (fun _ _ _ h => h) (Or.inl ⟨by rfl, ?_⟩) ?_ ?_
   rotate_left
   ·intro w'
    go_simp
    with_reducible rfl
   rotate_left
   ·simp only [Act.put, List.setIfInBounds_toArray, List.set_cons_zero, List.set_cons_succ, i64_w, i32_w]
    rfl
   refine pure_ (i := 8) (N := some 29) (v := undef) (a' := ?_) #[true, true, true, true, true, true, true, true, true, false, false, false, false, false, false, false, false, false, false, false, false, false] rfl rfl (za4 HT_.out (by kernel_rfl)) (fun _ _ _ h => h) (Or.inr ⟨by rfl, rfl⟩) ?_ ?_
   rotate_left
   ·simp only [Act.put, List.setIfInBounds_toArray, List.set_cons_zero, List.set_cons_succ, i64_w, i32_w]
    rfl
   refine pure_ (i := 9) (N := some 30) (v := undef) (a' := ?_) #[true, true, true, true, true, true, true, true, true, true, false, false, false, false, false, false, false, false, false, false, false, false] rfl rfl (za4 HT_.out (by kernel_rfl)) (fun _ _ _ h => h) (Or.inr ⟨by rfl, rfl⟩) ?_ ?_
   rotate_left
   ·simp only [Act.put, List.setIfInBounds_toArray, List.set_cons_zero, List.set_cons_succ, i64_w, i32_w]
    rfl
   refine pure_ (i := 10) (N := some 31) (v := undef) (a' := ?_) #[true, true, true, true, true, true, true, true, true, true, true, false, false, false, false, false, false, false, false, false, false, false] rfl rfl (za4 HT_.out (by kernel_rfl)) (fun _ _ _ h => h) (Or.inr ⟨by rfl, rfl⟩) ?_ ?_
   rotate_left
   ·simp only [Act.put, List.setIfInBounds_toArray, List.set_cons_zero, List.set_cons_succ, i64_w, i32_w]
    rfl
   refine pure_ (i := 11) (N := some 32) (v := ?_) (a' := ?_) #[true, true, true, true, true, true, true, true, true, true, true, true, false, false, false, false, false, false, false, false, false, false] rfl rfl (za4 HT_.out (by kernel_rfl)) (fun _ _ _ h => h) (Or.inl ⟨by rfl, ?_⟩) ?_ ?_
   rotate_left
   ·intro w'
    go_simp
    with_reducible rfl
   rotate_left
   ·simp only [Act.put, List.setIfInBounds_toArray, List.set_cons_zero, List.set_cons_succ, i64_w, i32_w]
    rfl
   refine pure_ (i := 12) (N := some 33) (v := ?_) (a' := ?_) #[true, true, true, true, true, true, true, true, true, true, true, true, true, false, false, false, false, false, false, false, false, false] rfl rfl (za4 HT_.out (by kernel_rfl)) (fun _ _ _ h => h) (Or.inl ⟨by rfl, ?_⟩) ?_ ?_
   rotate_left
   ·intro w'
    go_simp
    with_reducible rfl
   rotate_left
   ·simp only [Act.put, List.setIfInBounds_toArray, List.set_cons_zero, List.set_cons_succ, i64_w, i32_w]
    rfl
   refine pure_ (i := 13) (N := some 34) (v := undef) (a' := ?_) #[true, true, true, true, true, true, true, true, true, true, true, true, true, true, false, false, false, false, false, false, false, false] rfl rfl (za4 HT_.out (by kernel_rfl)) (fun _ _ _ h => h) (Or.inr ⟨by rfl, rfl⟩) ?_ ?_
   rotate_left
   ·simp only [Act.put, List.setIfInBounds_toArray, List.set_cons_zero, List.set_cons_succ, i64_w, i32_w]
    rfl
   refine pure_ (i := 14) (N := some 35) (v := undef) (a' := ?_) #[true, true, true, true, true, true, true, true, true, true, true, true, true, true, true, false, false, false, false, false, false, false] rfl rfl (za4 HT_.out (by kernel_rfl)) (fun _ _ _ h => h) (Or.inr ⟨by rfl, rfl⟩) ?_ ?_
   rotate_left
   ·simp only [Act.put, List.setIfInBounds_toArray, List.set_cons_zero, List.set_cons_succ, i64_w, i32_w]
    rfl
   refine pure_ (i := 15) (N := some 36) (v := undef) (a' := ?_) #[true, true, true, true, true, true, true, true, true, true, true, true, true, true, true, true, false, false, false, false, false, false] rfl rfl (za4 HT_.out (by kernel_rfl)) (fun _ _ _ h => h) (Or.inr ⟨by rfl, rfl⟩) ?_ ?_
   rotate_left
   ·simp only [Act.put, List.setIfInBounds_toArray, List.set_cons_zero, List.set_cons_succ, i64_w, i32_w]
    rfl
   refine pure_ (i := 16) (N := some 37) (v := undef) (a' := ?_) #[true, true, true, true, true, true, true, true, true, true, true, true, true, true, true, true, true, false, false, false, false, false] rfl rfl (za4 HT_.out (by kernel_rfl)) (fun _ _ _ h => h) (Or.inr ⟨by rfl, rfl⟩) ?_ ?_
   rotate_left
   ·simp only [Act.put, List.setIfInBounds_toArray, List.set_cons_zero, List.set_cons_succ, i64_w, i32_w]
    rfl
   refine pure_ (i := 17) (N := some 38) (v := undef) (a' := ?_) #[true, true, true, true, true, true, true, true, true, true, true, true, true, true, true, true, true, true, false, false, false, false] rfl rfl (za4 HT_.out (by kernel_rfl)) (fun _ _ _ h => h) (Or.inr ⟨by rfl, rfl⟩) ?_ ?_
   rotate_left
   ·simp only [Act.put, List.setIfInBounds_toArray, List.set_cons_zero, List.set_cons_succ, i64_w, i32_w]
    rfl
   refine pure_ (i := 18) (N := some 39) (v := undef) (a' := ?_) #[true, true, true, true, true, true, true, true, true, true, true, true, true, true, true, true, true, true, true, false, false, false] rfl rfl (za4 HT_.out (by kernel_rfl)) (fun _ _ _ h => h) (Or.inr ⟨by rfl, rfl⟩) ?_ ?_
   rotate_left
   ·simp only [Act.put, List.setIfInBounds_toArray, List.set_cons_zero, List.set_cons_succ, i64_w, i32_w]
    rfl
   refine pure_ (i := 19) (N := some 40) (v := undef) (a' := ?_) #[true, true, true, true, true, true, true, true, true, true, true, true, true, true, true, true, true, true, true, true, false, false] rfl rfl (za4 HT_.out (by kernel_rfl)) (fun _ _ _ h => h) (Or.inr ⟨by rfl, rfl⟩) ?_ ?_
   rotate_left
   ·simp only [Act.put, List.setIfInBounds_toArray, List.set_cons_zero, List.set_cons_succ, i64_w, i32_w]
    rfl
   refine pure_ (i := 20) (N := some 41) (v := undef) (a' := ?_) #[true, true, true, true, true, true, true, true, true, true, true, true, true, true, true, true, true, true, true, true, true, false] rfl rfl (za4 HT_.out (by kernel_rfl)) (fun _ _ _ h => h) (Or.inr ⟨by rfl, rfl⟩) ?_ ?_
   rotate_left
   ·simp only [Act.put, List.setIfInBounds_toArray, List.set_cons_zero, List.set_cons_succ, i64_w, i32_w]
    rfl
   refine pure_ (i := 21) (N := some 42) (v := ?_) (a' := ?_) #[true, true, true, true, true, true, true, true, true, true, true, true, true, true, true, true, true, true, true, true, true, true] rfl rfl (za4 HT_.out (by kernel_rfl)) (fun _ _ _ h => h) (Or.inl ⟨by rfl, ?_⟩) ?_ ?_
   rotate_left
   ·intro w'
    go_simp
    with_reducible rfl
   rotate_left
   ·simp only [Act.put, List.setIfInBounds_toArray, List.set_cons_zero, List.set_cons_succ, i64_w, i32_w]
    rfl
   refine done_ (done_of HT_.out (by kernel_rfl)) ?_
   try go_wp2
   go_meet
   case rel => exact ⟨_, (true), (by first | rfl | (simp; done) | (simp [*]; done)), H', ⟨by first | omega | exact Nat.le_refl _⟩, ⟨by (with_reducible repeat (first | refine zas ?_ _ | refine zat ?_ | refine zar ?_ _)); exact BK407.out⟩, ⟨by repeat (first | (with_reducible first | exact HB.out | apply zab | apply zaa | apply zac | refine zaj ?_ GE407.out) | exact HB.out)⟩⟩
  ·replace c7 := Bool.eq_false_iff.mpr c7
   subst c7
   have H1 : ((zbx.f k l0).bind fun t409 => (if t409 = 0 then (if (l1.length : Int) > 30 then (zae.j0 k l0 l1 true a2_0 a2_1 a2_2) else ((some (([] : List (S33)) : List (S33))).bind fun y410 => (if y410.length + l1.length < 4398046511104 then ((some (y410 ++ l1 : List (S33))).bind fun y413 => ((some (([(⟨a2_0, a2_1, a2_2⟩ : S33)] : List (S33)) : List (S33))).bind fun y416 => (if y413.length + y416.length < 4398046511104 then ((zax.f k (y413 ++ y416) 0).bind fun t422 => (zae.j0 k l0 l1 (t422 != 0) a2_0 a2_1 a2_2)) else (none)))) else (none)))) else (zae.j0 k l0 l1 true a2_0 a2_1 a2_2))) = some r := by rw [if_neg (show ¬ (false = true) by decide)] at H; exact H
   clear H
   have H := H1
   clear H1
   replace H := Option.bind_eq_some_iff.mp H
   obtain ⟨t409, A90, H⟩ := H
   replace H : (if t409 = 0 then (if (l1.length : Int) > 30 then (zae.j0 k l0 l1 true a2_0 a2_1 a2_2) else ((some (([] : List (S33)) : List (S33))).bind fun y410 => (if y410.length + l1.length < 4398046511104 then ((some (y410 ++ l1 : List (S33))).bind fun y413 => ((some (([(⟨a2_0, a2_1, a2_2⟩ : S33)] : List (S33)) : List (S33))).bind fun y416 => (if y413.length + y416.length < 4398046511104 then ((zax.f k (y413 ++ y416) 0).bind fun t422 => (zae.j0 k l0 l1 (t422 != 0) a2_0 a2_1 a2_2)) else (none)))) else (none)))) else (zae.j0 k l0 l1 true a2_0 a2_1 a2_2)) = some r := H
   have A9 := zad.mk A90
   clear A90
   by_cases c10 : t409 = 0
   ·rw [if_pos c10] at H
    have c10b0 : (t409 == 0) = true := beq_iff_eq.mpr c10
    have c10b1 : (t409 != 0) = false := bne_eq_false_iff_eq.mpr c10
    clear c10
    (first | rw [c10b0] | (simp only [i64_w, i32_w]; rw [c10b0]) | skip)
    by_cases c11 : (l1.length : Int) > 30
    ·rw [if_pos c11] at H
     have c11b0 : decide (30 < (l1.length : Int)) = true := decide_eq_true c11
     have c11b1 : decide (30 < l1.length) = true := decide_eq_true (by omega)
     clear c11
     have H' := zad.mk H
     clear H
     try go_wp2
     have n0_ := zad.mk (zat BK407.out)
     have n1_ := zad.mk (zac HB.out)
     clear BK407
     clear HB
     have BK407 := n0_
     have HB := n1_
     clear n0_ n1_
     refine start_ (n := 22) (S := fun w' => True) (ds := []) #[false, false, false, false, false, false, false, false, false, false, false, false, false, false, false, false, false, false, false, false, false, false] (by kernel_rfl) rfl rfl trivial (fun hHeld => ?_); refine zc9 zae.tab1 zae.bits1 (fun HT_ HW_ => ?_)
     generalize w5.drew = w12 at BK407 HB hHeld ⊢
     refine pure_ (i := 0) (N := some 21) (v := ?_) (a' := ?_) #[true, false, false, false, false, false, false, false, false, false, false, false, false, false, false, false, false, false, false, false, false, false] rfl rfl (za4 HT_.out (by kernel_rfl)) (fun _ _ _ h => h) (Or.inl ⟨by rfl, ?_⟩) ?_ ?_
     rotate_left
     ·intro w'
      go_simp
      with_reducible rfl
     rotate_left
     ·simp only [Act.put, List.setIfInBounds_toArray, List.set_cons_zero, List.set_cons_succ, i64_w, i32_w]
      rfl
     refine one_ (i := 1) (N := some 22) #[true, true, false, false, false, false, false, false, false, false, false, false, false, false, false, false, false, false, false, false, false, false] rfl rfl (zdg HT_.out (by kernel_rfl)) (by decide) (fun K hK => ?_)
     refine goes_ Tryz.func17 (by kernel_rfl) rfl #[.slice A0 l0.length c0] (by rfl) rfl rfl (by (try simp only [List.map_toArray, List.map_cons, List.map_nil]); first | done | rfl | (simp only [List.length_drop, List.length_take]; rfl)) ?_
     with_reducible refine (zb2.calls _ _ l0 false _ ?side1 ?side2 A6.out).mono ?_
     (case side1 => repeat (first | exact (Kd.zb7 HR0.out HB.out) | (with_reducible refine Kd.zbu ?_ _) | (with_reducible refine Kd.zbv ?_ _) | (with_reducible refine Kd.zb4 ?_)))
     (case side2 => exact HC0.out)
     rintro e w' ⟨rfl, ⟨nd, rfl⟩⟩
     refine ⟨_, rfl, ?_⟩
     refine hK.out _ _ trivial (fun hHeld => ?_)
     clear hK K
     refine norm_ (a' := ?_) ?_ ?_
     rotate_left
     ·show Act.put _ (some 22) _ = _
      simp only [Act.put, List.setIfInBounds_toArray, List.set_cons_zero, List.set_cons_succ, i64_w, i32_w]
      rfl
     refine pure_ (i := 2) (N := some 23) (v := ?_) (a' := ?_) #[true, true, true, false, false, false, false, false, false, false, false, false, false, false, false, false, false, false, false, false, false, false] rfl rfl (za4 HT_.out (by kernel_rfl)) (fun _ _ _ h => h) (Or.inl ⟨by rfl, ?_⟩) ?_ ?_
     rotate_left
     ·intro w'
      go_simp
      with_reducible rfl
     rotate_left
     ·simp only [Act.put, List.setIfInBounds_toArray, List.set_cons_zero, List.set_cons_succ, i64_w, i32_w]
      rfl
     refine pure_ (i := 3) (N := some 24) (v := ?_) (a' := ?_) #[true, true, true, true, false, false, false, false, false, false, false, false, false, false, false, false, false, false, false, false, false, false] rfl rfl (za4 HT_.out (by kernel_rfl)) (fun _ _ _ h => h) (Or.inl ⟨by rfl, ?_⟩) ?_ ?_
     rotate_left
     ·intro w'
      go_simp
      with_reducible rfl
     rotate_left
     ·simp only [Act.put, List.setIfInBounds_toArray, List.set_cons_zero, List.set_cons_succ, i64_w, i32_w]
      rfl
     refine one_ (i := 4) (N := some 25) #[true, true, true, true, true, false, false, false, false, false, false, false, false, false, false, false, false, false, false, false, false, false] rfl rfl (zdg HT_.out (by kernel_rfl)) (by decide) (fun K hK => ?_)
     refine goes_ Tryz.func18 (by kernel_rfl) rfl #[.slice A0 l0.length c0] (by rfl) rfl rfl (by (try simp only [List.map_toArray, List.map_cons, List.map_nil]); first | done | rfl | (simp only [List.length_drop, List.length_take]; rfl)) ?_
     with_reducible refine (zbx.calls k _ _ l0 t409 _ ?side1 ?side2 A9.out).mono ?_
     (case side1 => repeat (first | exact (Kd.zb7 HR0.out (by repeat (first | (with_reducible first | exact HB.out | apply zab | apply zaa | apply zac | refine zaj ?_ GE407.out) | exact HB.out))) | (with_reducible refine Kd.zbu ?_ _) | (with_reducible refine Kd.zbv ?_ _) | (with_reducible refine Kd.zb4 ?_)))
     (case side2 => exact HC0.out)
     rintro e w13 ⟨rfl, hb⟩
     refine ⟨_, rfl, ?_⟩
     have n0_ := zad.mk (zbg (g := gb407) (o := .cells #[.int .u8 a2_0, .string a2_1, .int .i64 a2_2] 33 (0, 0)) (by (with_reducible repeat (first | refine zas ?_ _ | refine zat ?_ | refine zar ?_ _)); exact BK407.out) hb)
     have n1_ := zad.mk (zah (by repeat (first | (with_reducible first | exact HB.out | apply zab | apply zaa | apply zac | refine zaj ?_ GE407.out) | exact HB.out)) hb)
     clear BK407
     clear HB
     have BK407 := n0_
     have HB := n1_
     clear n0_ n1_
     (try clear hb)
     (try clear hb2)
     (try clear hk)
     (try clear hi)
     refine hK.out _ _ trivial (fun hHeld => ?_)
     clear hK K
     refine norm_ (a' := ?_) ?_ ?_
     rotate_left
     ·show Act.put _ (some 25) _ = _
      simp only [Act.put, List.setIfInBounds_toArray, List.set_cons_zero, List.set_cons_succ, i64_w, i32_w]
      rfl
     refine pure_ (i := 5) (N := some 26) (v := ?_) (a' := ?_) #[true, true, true, true, true, true, false, false, false, false, false, false, false, false, false, false, false, false, false, false, false, false] rfl rfl (za4 HT_.out (by kernel_rfl)) (fun _ _ _ h => h) (Or.inl ⟨by rfl, ?_⟩) ?_ ?_
     rotate_left
     ·intro w'
      go_simp
      with_reducible rfl
     rotate_left
     ·simp only [Act.put, List.setIfInBounds_toArray, List.set_cons_zero, List.set_cons_succ, i64_w, i32_w]
      rfl
     refine pure_ (i := 6) (N := some 27) (v := ?_) (a' := ?_) #[true, true, true, true, true, true, true, false, false, false, false, false, false, false, false, false, false, false, false, false, false, false] rfl rfl (za4 HT_.out (by kernel_rfl)) (fun _ _ _ h => h) (Or.inl ⟨by rfl, ?_⟩) ?_ ?_
     rotate_left
     ·intro w'
      go_simp
      with_reducible rfl
     rotate_left
     ·simp only [Act.put, List.setIfInBounds_toArray, List.set_cons_zero, List.set_cons_succ, i64_w, i32_w]
      rfl
     refine pure_ (i := 7) (N := some 28) (v := ?_) (a' := ?_) #[true, true, true, true, true, true, true, true, false, false, false, false, false, false, false, false, false, false, false, false, false, false] rfl rfl (za4 HT_.out (by kernel_rfl)) (fun _ _ _ h => h) (Or.inl ⟨by rfl, ?_⟩) ?_ ?_
     rotate_left
     ·intro w'
      go_simp
      with_reducible rfl
     rotate_left
     ·simp only [Act.put, List.setIfInBounds_toArray, List.set_cons_zero, List.set_cons_succ, i64_w, i32_w]
      rfl
     refine pure_ (i := 8) (N := some 29) (v := ?_) (a' := ?_) #[true, true, true, true, true, true, true, true, true, false, false, false, false, false, false, false, false, false, false, false, false, false] rfl rfl (za4 HT_.out (by kernel_rfl)) (fun _ _ _ h => h) (Or.inl ⟨by rfl, ?_⟩) ?_ ?_
     rotate_left
     ·intro w'
      go_simp
      with_reducible rfl
     rotate_left
     ·simp only [Act.put, List.setIfInBounds_toArray, List.set_cons_zero, List.set_cons_succ, i64_w, i32_w]
      rfl
     refine pure_ (i := 9) (N := some 30) (v := ?_) (a' := ?_) #[true, true, true, true, true, true, true, true, true, true, false, false, false, false, false, false, false, false, false, false, false, false] rfl rfl (za4 HT_.out (by kernel_rfl)) (fun _ _ _ h => h) (Or.inl ⟨by rfl, ?_⟩) ?_ ?_
     rotate_left
     ·intro w'
      go_simp
      with_reducible rfl
     rotate_left
     ·simp only [Act.put, List.setIfInBounds_toArray, List.set_cons_zero, List.set_cons_succ, i64_w, i32_w]
      rfl
     refine pure_ (i := 10) (N := some 31) (v := ?_) (a' := ?_) #[true, true, true, true, true, true, true, true, true, true, true, false, false, false, false, false, false, false, false, false, false, false] rfl rfl (za4 HT_.out (by kernel_rfl)) (fun _ _ _ h => h) (Or.inl ⟨by rfl, ?_⟩) ?_ ?_
     rotate_left
     ·intro w'
      go_simp
      with_reducible rfl
     rotate_left
     ·simp only [Act.put, List.setIfInBounds_toArray, List.set_cons_zero, List.set_cons_succ, i64_w, i32_w]
      rfl
     refine pure_ (i := 11) (N := some 32) (v := ?_) (a' := ?_) #[true, true, true, true, true, true, true, true, true, true, true, true, false, false, false, false, false, false, false, false, false, false] rfl rfl (za4 HT_.out (by kernel_rfl)) (fun _ _ _ h => h) (Or.inl ⟨by rfl, ?_⟩) ?_ ?_
     rotate_left
     ·intro w'
      go_simp
      with_reducible rfl
     rotate_left
     ·simp only [Act.put, List.setIfInBounds_toArray, List.set_cons_zero, List.set_cons_succ, i64_w, i32_w]
      rfl
     refine pure_ (i := 12) (N := some 33) (v := ?_) (a' := ?_) #[true, true, true, true, true, true, true, true, true, true, true, true, true, false, false, false, false, false, false, false, false, false] rfl rfl (za4 HT_.out (by kernel_rfl)) (fun _ _ _ h => h) (Or.inl ⟨by rfl, ?_⟩) ?_ ?_
     rotate_left
     ·intro w'
      go_simp
      with_reducible rfl
     rotate_left
     ·simp only [Act.put, List.setIfInBounds_toArray, List.set_cons_zero, List.set_cons_succ, i64_w, i32_w]
      rfl
     refine pure_ (i := 13) (N := some 34) (v := undef) (a' := ?_) #[true, true, true, true, true, true, true, true, true, true, true, true, true, true, false, false, false, false, false, false, false, false] rfl rfl (za4 HT_.out (by kernel_rfl)) (fun _ _ _ h => h) (Or.inr ⟨by rfl, rfl⟩) ?_ ?_
     rotate_left
     ·simp only [Act.put, List.setIfInBounds_toArray, List.set_cons_zero, List.set_cons_succ, i64_w, i32_w]
      rfl
     refine pure_ (i := 14) (N := some 35) (v := undef) (a' := ?_) #[true, true, true, true, true, true, true, true, true, true, true, true, true, true, true, false, false, false, false, false, false, false] rfl rfl (za4 HT_.out (by kernel_rfl)) (fun _ _ _ h => h) (Or.inr ⟨by rfl, rfl⟩) ?_ ?_
     rotate_left
     ·simp only [Act.put, List.setIfInBounds_toArray, List.set_cons_zero, List.set_cons_succ, i64_w, i32_w]
      rfl
     refine pure_ (i := 15) (N := some 36) (v := undef) (a' := ?_) #[true, true, true, true, true, true, true, true, true, true, true, true, true, true, true, true, false, false, false, false, false, false] rfl rfl (za4 HT_.out (by kernel_rfl)) (fun _ _ _ h => h) (Or.inr ⟨by rfl, rfl⟩) ?_ ?_
     rotate_left
     ·simp only [Act.put, List.setIfInBounds_toArray, List.set_cons_zero, List.set_cons_succ, i64_w, i32_w]
      rfl
     refine pure_ (i := 16) (N := some 37) (v := undef) (a' := ?_) #[true, true, true, true, true, true, true, true, true, true, true, true, true, true, true, true, true, false, false, false, false, false] rfl rfl (za4 HT_.out (by kernel_rfl)) (fun _ _ _ h => h) (Or.inr ⟨by rfl, rfl⟩) ?_ ?_
     rotate_left
     ·simp only [Act.put, List.setIfInBounds_toArray, List.set_cons_zero, List.set_cons_succ, i64_w, i32_w]
      rfl
     refine pure_ (i := 17) (N := some 38) (v := undef) (a' := ?_) #[true, true, true, true, true, true, true, true, true, true, true, true, true, true, true, true, true, true, false, false, false, false] rfl rfl (za4 HT_.out (by kernel_rfl)) (fun _ _ _ h => h) (Or.inr ⟨by rfl, rfl⟩) ?_ ?_
     rotate_left
     ·simp only [Act.put, List.setIfInBounds_toArray, List.set_cons_zero, List.set_cons_succ, i64_w, i32_w]
      rfl
     refine pure_ (i := 18) (N := some 39) (v := undef) (a' := ?_) #[true, true, true, true, true, true, true, true, true, true, true, true, true, true, true, true, true, true, true, false, false, false] rfl rfl (za4 HT_.out (by kernel_rfl)) (fun _ _ _ h => h) (Or.inr ⟨by rfl, rfl⟩) ?_ ?_
     rotate_left
     ·simp only [Act.put, List.setIfInBounds_toArray, List.set_cons_zero, List.set_cons_succ, i64_w, i32_w]
      rfl
     refine pure_ (i := 19) (N := some 40) (v := undef) (a' := ?_) #[true, true, true, true, true, true, true, true, true, true, true, true, true, true, true, true, true, true, true, true, false, false] rfl rfl (za4 HT_.out (by kernel_rfl)) (fun _ _ _ h => h) (Or.inr ⟨by rfl, rfl⟩) ?_ ?_
     rotate_left
     ·simp only [Act.put, List.setIfInBounds_toArray, List.set_cons_zero, List.set_cons_succ, i64_w, i32_w]
      rfl
     refine pure_ (i := 20) (N := some 41) (v := undef) (a' := ?_) #[true, true, true, true, true, true, true, true, true, true, true, true, true, true, true, true, true, true, true, true, true, false] rfl rfl (za4 HT_.out (by kernel_rfl)) (fun _ _ _ h => h) (Or.inr ⟨by rfl, rfl⟩) ?_ ?_
     rotate_left
     ·simp only [Act.put, List.setIfInBounds_toArray, List.set_cons_zero, List.set_cons_succ, i64_w, i32_w]
      rfl
     refine pure_ (i := 21) (N := some 42) (v := ?_) (a' := ?_) #[true, true, true, true, true, true, true, true, true, true, true, true, true, true, true, true, true, true, true, true, true, true] rfl rfl (za4 HT_.out (by kernel_rfl)) (fun _ _ _ h => h) (Or.inl ⟨by rfl, ?_⟩) ?_ ?_
     rotate_left
     ·intro w'
      go_simp
      with_reducible rfl
     rotate_left
     ·simp only [Act.put, List.setIfInBounds_toArray, List.set_cons_zero, List.set_cons_succ, i64_w, i32_w]
      rfl
     refine done_ (done_of HT_.out (by kernel_rfl)) ?_
     try go_wp2
     go_meet
     case rel => exact ⟨_, (true), (by first | rfl | (simp; done) | (simp [*]; done)), H', ⟨by first | omega | exact Nat.le_refl _⟩, ⟨by (with_reducible repeat (first | refine zas ?_ _ | refine zat ?_ | refine zar ?_ _)); exact BK407.out⟩, ⟨by repeat (first | (with_reducible first | exact HB.out | apply zab | apply zaa | apply zac | refine zaj ?_ GE407.out) | exact HB.out)⟩⟩
    ·rw [if_neg c11] at H
     have c11b0 : decide (30 < (l1.length : Int)) = false := decide_eq_false c11
     have c11b1 : decide (30 < l1.length) = false := decide_eq_false (by omega)
     clear c11
     obtain ⟨y410, hy410⟩ : ∃ y_ : List (S33), y_ = (([] : List (S33))) := ⟨_, rfl⟩
     replace H : (if y410.length + l1.length < 4398046511104 then ((some (y410 ++ l1 : List (S33))).bind fun y413 => ((some (([(⟨a2_0, a2_1, a2_2⟩ : S33)] : List (S33)) : List (S33))).bind fun y416 => (if y413.length + y416.length < 4398046511104 then ((zax.f k (y413 ++ y416) 0).bind fun t422 => (zae.j0 k l0 l1 (t422 != 0) a2_0 a2_1 a2_2)) else (none)))) else (none)) = some r := by first | (rw [hy410]; with_reducible exact H) | (have H2_ := (Option.bind_some _ _).symm.trans H; rw [hy410]; with_reducible exact H2_) | (have H2_ := (Option.bind_some _ _).symm.trans H; with_reducible exact H2_) | with_reducible exact H | (rw [hy410]; exact H) | exact H
     have Ny410 := zad.mk hy410
     clear hy410
     by_cases c14 : y410.length + l1.length < 4398046511104
     ·rw [if_pos c14] at H
      have LMc14 := zad.mk c14
      clear c14
      obtain ⟨y413, hy413⟩ : ∃ y_ : List (S33), y_ = (y410 ++ l1) := ⟨_, rfl⟩
      replace H : ((some (([(⟨a2_0, a2_1, a2_2⟩ : S33)] : List (S33)) : List (S33))).bind fun y416 => (if y413.length + y416.length < 4398046511104 then ((zax.f k (y413 ++ y416) 0).bind fun t422 => (zae.j0 k l0 l1 (t422 != 0) a2_0 a2_1 a2_2)) else (none))) = some r := by first | (rw [hy413]; with_reducible exact H) | (have H2_ := (Option.bind_some _ _).symm.trans H; rw [hy413]; with_reducible exact H2_) | (have H2_ := (Option.bind_some _ _).symm.trans H; with_reducible exact H2_) | with_reducible exact H | (rw [hy413]; exact H) | exact H
      have Ny413 := zad.mk hy413
      clear hy413
      obtain ⟨y416, hy416⟩ : ∃ y_ : List (S33), y_ = (([(⟨a2_0, a2_1, a2_2⟩ : S33)] : List (S33))) := ⟨_, rfl⟩
      replace H : (if y413.length + y416.length < 4398046511104 then ((zax.f k (y413 ++ y416) 0).bind fun t422 => (zae.j0 k l0 l1 (t422 != 0) a2_0 a2_1 a2_2)) else (none)) = some r := by first | (rw [hy416]; with_reducible exact H) | (have H2_ := (Option.bind_some _ _).symm.trans H; rw [hy416]; with_reducible exact H2_) | (have H2_ := (Option.bind_some _ _).symm.trans H; with_reducible exact H2_) | with_reducible exact H | (rw [hy416]; exact H) | exact H
      have Ny416 := zad.mk hy416
      clear hy416
      by_cases c15 : y413.length + y416.length < 4398046511104
      ·rw [if_pos c15] at H
       have LMc15 := zad.mk c15
       clear c15
       obtain ⟨y419, hy419⟩ : ∃ y_ : List (S33), y_ = (y413 ++ y416) := ⟨_, rfl⟩
       replace H : ((zax.f k y419 0).bind fun t422 => (zae.j0 k l0 l1 (t422 != 0) a2_0 a2_1 a2_2)) = some r := by first | (rw [hy419]; with_reducible exact H) | (have H2_ := (Option.bind_some _ _).symm.trans H; rw [hy419]; with_reducible exact H2_) | (have H2_ := (Option.bind_some _ _).symm.trans H; with_reducible exact H2_) | with_reducible exact H | (rw [hy419]; exact H) | exact H
       have Ny419 := zad.mk hy419
       clear hy419
       replace H := Option.bind_eq_some_iff.mp H
       obtain ⟨t422, A160, H⟩ := H
       replace H : (zae.j0 k l0 l1 (t422 != 0) a2_0 a2_1 a2_2) = some r := H
       have A16 := zad.mk A160
       clear A160
       have H' := zad.mk H
       clear H
       try go_wp2
       have n0_ := zad.mk (zat BK407.out)
       have n1_ := zad.mk (zac HB.out)
       clear BK407
       clear HB
       have BK407 := n0_
       have HB := n1_
       clear n0_ n1_
       refine start_ (n := 22) (S := fun w' => w'.cell? ⟨gb407, 0, none⟩ = some (.int .u8 a2_0) ∧ w'.cell? ⟨gb407, 1, none⟩ = some (.string a2_1) ∧ w'.cell? ⟨gb407, 2, none⟩ = some (.int .i64 a2_2)) (ds := []) #[false, false, false, false, false, false, false, false, false, false, false, false, false, false, false, false, false, false, false, false, false, false] (by kernel_rfl) rfl rfl ⟨(zai BK407.out 0).trans rfl, (zai BK407.out 1).trans rfl, (zai BK407.out 2).trans rfl⟩ (fun hHeld => ?_); refine zc9 zae.tab1 zae.bits1 (fun HT_ HW_ => ?_)
       generalize w5.drew = w17 at BK407 HB hHeld ⊢
       refine pure_ (i := 0) (N := some 21) (v := ?_) (a' := ?_) #[true, false, false, false, false, false, false, false, false, false, false, false, false, false, false, false, false, false, false, false, false, false] rfl rfl (za4 HT_.out (by kernel_rfl)) (fun _ _ _ h => h) (Or.inl ⟨by rfl, ?_⟩) ?_ ?_
       rotate_left
       ·intro w'
        go_simp
        with_reducible rfl
       rotate_left
       ·simp only [Act.put, List.setIfInBounds_toArray, List.set_cons_zero, List.set_cons_succ, i64_w, i32_w]
        rfl
       refine one_ (i := 1) (N := some 22) #[true, true, false, false, false, false, false, false, false, false, false, false, false, false, false, false, false, false, false, false, false, false] rfl rfl (zdg HT_.out (by kernel_rfl)) (by decide) (fun K hK => ?_)
       refine goes_ Tryz.func17 (by kernel_rfl) rfl #[.slice A0 l0.length c0] (by rfl) rfl rfl (by (try simp only [List.map_toArray, List.map_cons, List.map_nil]); first | done | rfl | (simp only [List.length_drop, List.length_take]; rfl)) ?_
       with_reducible refine (zb2.calls _ _ l0 false _ ?side1 ?side2 A6.out).mono ?_
       (case side1 => repeat (first | exact (Kd.zb7 HR0.out HB.out) | (with_reducible refine Kd.zbu ?_ _) | (with_reducible refine Kd.zbv ?_ _) | (with_reducible refine Kd.zb4 ?_)))
       (case side2 => exact HC0.out)
       rintro e w' ⟨rfl, ⟨nd, rfl⟩⟩
       refine ⟨_, rfl, ?_⟩
       refine hK.out _ _ ⟨(zai BK407.out 0).trans rfl, (zai BK407.out 1).trans rfl, (zai BK407.out 2).trans rfl⟩ (fun hHeld => ?_)
       clear hK K
       refine norm_ (a' := ?_) ?_ ?_
       rotate_left
       ·show Act.put _ (some 22) _ = _
        simp only [Act.put, List.setIfInBounds_toArray, List.set_cons_zero, List.set_cons_succ, i64_w, i32_w]
        rfl
       refine pure_ (i := 2) (N := some 23) (v := ?_) (a' := ?_) #[true, true, true, false, false, false, false, false, false, false, false, false, false, false, false, false, false, false, false, false, false, false] rfl rfl (za4 HT_.out (by kernel_rfl)) (fun _ _ _ h => h) (Or.inl ⟨by rfl, ?_⟩) ?_ ?_
       rotate_left
       ·intro w'
        go_simp
        with_reducible rfl
       rotate_left
       ·simp only [Act.put, List.setIfInBounds_toArray, List.set_cons_zero, List.set_cons_succ, i64_w, i32_w]
        rfl
       refine pure_ (i := 3) (N := some 24) (v := ?_) (a' := ?_) #[true, true, true, true, false, false, false, false, false, false, false, false, false, false, false, false, false, false, false, false, false, false] rfl rfl (za4 HT_.out (by kernel_rfl)) (fun _ _ _ h => h) (Or.inl ⟨by rfl, ?_⟩) ?_ ?_
       rotate_left
       ·intro w'
        go_simp
        with_reducible rfl
       rotate_left
       ·simp only [Act.put, List.setIfInBounds_toArray, List.set_cons_zero, List.set_cons_succ, i64_w, i32_w]
        rfl
       refine one_ (i := 4) (N := some 25) #[true, true, true, true, true, false, false, false, false, false, false, false, false, false, false, false, false, false, false, false, false, false] rfl rfl (zdg HT_.out (by kernel_rfl)) (by decide) (fun K hK => ?_)
       refine goes_ Tryz.func18 (by kernel_rfl) rfl #[.slice A0 l0.length c0] (by rfl) rfl rfl (by (try simp only [List.map_toArray, List.map_cons, List.map_nil]); first | done | rfl | (simp only [List.length_drop, List.length_take]; rfl)) ?_
       with_reducible refine (zbx.calls k _ _ l0 t409 _ ?side1 ?side2 A9.out).mono ?_
       (case side1 => repeat (first | exact (Kd.zb7 HR0.out (by repeat (first | (with_reducible first | exact HB.out | apply zab | apply zaa | apply zac | refine zaj ?_ GE407.out) | exact HB.out))) | (with_reducible refine Kd.zbu ?_ _) | (with_reducible refine Kd.zbv ?_ _) | (with_reducible refine Kd.zb4 ?_)))
       (case side2 => exact HC0.out)
       rintro e w18 ⟨rfl, hb⟩
       refine ⟨_, rfl, ?_⟩
       have n0_ := zad.mk (zbg (g := gb407) (o := .cells #[.int .u8 a2_0, .string a2_1, .int .i64 a2_2] 33 (0, 0)) (by (with_reducible repeat (first | refine zas ?_ _ | refine zat ?_ | refine zar ?_ _)); exact BK407.out) hb)
       have n1_ := zad.mk (zah (by repeat (first | (with_reducible first | exact HB.out | apply zab | apply zaa | apply zac | refine zaj ?_ GE407.out) | exact HB.out)) hb)
       clear BK407
       clear HB
       have BK407 := n0_
       have HB := n1_
       clear n0_ n1_
       (try clear hb)
       (try clear hb2)
       (try clear hk)
       (try clear hi)
       refine hK.out _ _ ⟨(zai BK407.out 0).trans rfl, (zai BK407.out 1).trans rfl, (zai BK407.out 2).trans rfl⟩ (fun hHeld => ?_)
       clear hK K
       refine norm_ (a' := ?_) ?_ ?_
       rotate_left
       ·show Act.put _ (some 25) _ = _
        simp only [Act.put, List.setIfInBounds_toArray, List.set_cons_zero, List.set_cons_succ, i64_w, i32_w]
        rfl
       refine pure_ (i := 5) (N := some 26) (v := ?_) (a' := ?_) #[true, true, true, true, true, true, false, false, false, false, false, false, false, false, false, false, false, false, false, false, false, false] rfl rfl (za4 HT_.out (by kernel_rfl)) (fun _ _ _ h => h) (Or.inl ⟨by rfl, ?_⟩) ?_ ?_
       rotate_left
       ·intro w'
        go_simp
        with_reducible rfl
       rotate_left
       ·simp only [Act.put, List.setIfInBounds_toArray, List.set_cons_zero, List.set_cons_succ, i64_w, i32_w]
        rfl
       refine pure_ (i := 6) (N := some 27) (v := ?_) (a' := ?_) #[true, true, true, true, true, true, true, false, false, false, false, false, false, false, false, false, false, false, false, false, false, false] rfl rfl (za4 HT_.out (by kernel_rfl)) (fun _ _ _ h => h) (Or.inl ⟨by rfl, ?_⟩) ?_ ?_
       rotate_left
       ·intro w'
        go_simp
        with_reducible rfl
       rotate_left
       ·simp only [Act.put, List.setIfInBounds_toArray, List.set_cons_zero, List.set_cons_succ, i64_w, i32_w]
        rfl
       refine pure_ (i := 7) (N := some 28) (v := ?_) (a' := ?_) #[true, true, true, true, true, true, true, true, false, false, false, false, false, false, false, false, false, false, false, false, false, false] rfl rfl (za4 HT_.out (by kernel_rfl)) (fun _ _ _ h => h) (Or.inl ⟨by rfl, ?_⟩) ?_ ?_
       rotate_left
       ·intro w'
        go_simp
        with_reducible rfl
       rotate_left
       ·simp only [Act.put, List.setIfInBounds_toArray, List.set_cons_zero, List.set_cons_succ, i64_w, i32_w]
        rfl
       refine pure_ (i := 8) (N := some 29) (v := ?_) (a' := ?_) #[true, true, true, true, true, true, true, true, true, false, false, false, false, false, false, false, false, false, false, false, false, false] rfl rfl (za4 HT_.out (by kernel_rfl)) (fun _ _ _ h => h) (Or.inl ⟨by rfl, ?_⟩) ?_ ?_
       rotate_left
       ·intro w'
        go_simp
        with_reducible rfl
       rotate_left
       ·simp only [Act.put, List.setIfInBounds_toArray, List.set_cons_zero, List.set_cons_succ, i64_w, i32_w]
        rfl
       refine pure_ (i := 9) (N := some 30) (v := ?_) (a' := ?_) #[true, true, true, true, true, true, true, true, true, true, false, false, false, false, false, false, false, false, false, false, false, false] rfl rfl (za4 HT_.out (by kernel_rfl)) (fun _ _ _ h => h) (Or.inl ⟨by rfl, ?_⟩) ?_ ?_
       rotate_left
       ·intro w'
        go_simp
        with_reducible rfl
       rotate_left
       ·simp only [Act.put, List.setIfInBounds_toArray, List.set_cons_zero, List.set_cons_succ, i64_w, i32_w]
        rfl
       refine pure_ (i := 10) (N := some 31) (v := ?_) (a' := ?_) #[true, true, true, true, true, true, true, true, true, true, true, false, false, false, false, false, false, false, false, false, false, false] rfl rfl (za4 HT_.out (by kernel_rfl)) (fun _ _ _ h => h) (Or.inl ⟨by rfl, ?_⟩) ?_ ?_
       rotate_left
       ·intro w'
        go_simp
        with_reducible rfl
       rotate_left
       ·simp only [Act.put, List.setIfInBounds_toArray, List.set_cons_zero, List.set_cons_succ, i64_w, i32_w]
        rfl
       refine pure_ (i := 11) (N := some 32) (v := ?_) (a' := ?_) #[true, true, true, true, true, true, true, true, true, true, true, true, false, false, false, false, false, false, false, false, false, false] rfl rfl (za4 HT_.out (by kernel_rfl)) (fun _ _ _ h => h) (Or.inl ⟨by rfl, ?_⟩) ?_ ?_
       rotate_left
       ·intro w'
        go_simp
        with_reducible rfl
       rotate_left
       ·simp only [Act.put, List.setIfInBounds_toArray, List.set_cons_zero, List.set_cons_succ, i64_w, i32_w]
        rfl
       refine pure_ (i := 12) (N := some 33) (v := ?_) (a' := ?_) #[true, true, true, true, true, true, true, true, true, true, true, true, true, false, false, false, false, false, false, false, false, false] rfl rfl (za4 HT_.out (by kernel_rfl)) (fun _ _ _ h => h) (Or.inl ⟨by rfl, ?_⟩) ?_ ?_
       rotate_left
       ·intro w'
        go_simp
        with_reducible rfl
       rotate_left
       ·simp only [Act.put, List.setIfInBounds_toArray, List.set_cons_zero, List.set_cons_succ, i64_w, i32_w]
        rfl
       refine pure_ (i := 14) (N := some 35) (v := ?_) (a' := ?_) #[true, true, true, true, true, true, true, true, true, true, true, true, true, false, true, false, false, false, false, false, false, false] rfl rfl (za4 HT_.out (by kernel_rfl)) (fun _ _ _ h => h) (Or.inl ⟨by rfl, ?_⟩) ?_ ?_
       rotate_left
       ·intro w'
        go_simp
        with_reducible rfl
       rotate_left
       ·simp only [Act.put, List.setIfInBounds_toArray, List.set_cons_zero, List.set_cons_succ, i64_w, i32_w]
        rfl
       refine take_ (i := 16) (N := some 37) (v := ?_) (a' := ?_) #[true, true, true, true, true, true, true, true, true, true, true, true, true, false, true, false, true, false, false, false, false, false] rfl rfl (zdt HT_.out HW_.out (by kernel_rfl)) (fun _ _ _ h => h) (Or.inl ⟨by rfl, ?_⟩) hHeld ?_ ?_
       rotate_left
       ·rintro w' ⟨s0, s1, s2⟩
        go_simp
        with_reducible rfl
       rotate_left
       ·simp only [Act.put, List.setIfInBounds_toArray, List.set_cons_zero, List.set_cons_succ, i64_w, i32_w]
        rfl
       refine join_ (σ := Value × Value × Value) 4 #[true, true, true, true, true, true, true, true, true, true, true, true, true, true, true, true, true, true, false, false, false, false] (fun s_ => [(34, s_.1), (36, s_.2.1), (38, s_.2.2)]) (fun s_ w' => (w'.cell? ⟨gb407, 0, none⟩ = some (.int .u8 a2_0) ∧ w'.cell? ⟨gb407, 1, none⟩ = some (.string a2_1) ∧ w'.cell? ⟨gb407, 2, none⟩ = some (.int .i64 a2_2)) ∧ (Kd.R k33 33 w' w.heap.size (fun k_ => some k_ ≠ (s_.2.2 : Value).ownBlock ∧ k_ ≠ gb407) s_.2.1 y413) ∧ (Kd.R k33 33 w' w.heap.size (fun k_ => some k_ ≠ (s_.2.1 : Value).ownBlock ∧ k_ ≠ gb407) s_.2.2 y416) ∧ (w'.heap[gb407]? = some (.cells #[.int .u8 a2_0, .string a2_1, .int .i64 a2_2] 33 (0, 0))) ∧ (Below w.heap.size w w')) ?_ ?_
       rotate_left
       ·intro hCont
        refine two_ (i := 13) (j := 17) (Ni := some 34) (Nj := some 38) #[true, true, true, true, true, true, true, true, true, true, true, true, true, true, true, false, true, false, false, false, false, false] #[true, true, true, true, true, true, true, true, true, true, true, true, true, false, true, false, true, true, false, false, false, false] rfl rfl rfl rfl (two_of HT_.out (by kernel_rfl)) (by decide) (by decide) (fun K hK => ?_) (fun K hK => ?_)
        ·skip
         refine Kd.zee k33 _ 33 ?hg (N := 34) ?hd (xs := ([] : List (S33))) (inner := []) (ok := fun _ => True) (okp := fun _ => True) ?hr ?hp (fun _ hk => hk) trivial (Below.refl _ _) (Nat.le_refl _) (by simp) ?_; (case hd => rfl); (case hg => rfl); (case hr => first | (go_simp; done) | (go_simp; rfl)); (case hp => exact (Reps.none _ _))
         intro v411 w19 ho20 hb hg_ hnew_
         clear hg_ hnew_
         (first | rw [← Ny410.out] at ho20 | (simp only [Int.reduceToNat] at ho20; rw [← Ny410.out] at ho20))
         have n0_ := zad.mk (Kd.zbq (Kd.zed ho20 (g := gb407) (o := .cells #[.int .u8 a2_0, .string a2_1, .int .i64 a2_2] 33 (0, 0)) (by (with_reducible repeat (first | refine zas ?_ _ | refine zat ?_ | refine zar ?_ _)); exact BK407.out)) (zao (by repeat (first | (with_reducible first | exact HB.out | apply zab | apply zaa | apply zac | refine zaj ?_ GE407.out) | exact HB.out))))
         have n1_ := zad.mk (zbg (g := gb407) (o := .cells #[.int .u8 a2_0, .string a2_1, .int .i64 a2_2] 33 (0, 0)) (by (with_reducible repeat (first | refine zas ?_ _ | refine zat ?_ | refine zar ?_ _)); exact BK407.out) hb)
         have n2_ := zad.mk (zah (by repeat (first | (with_reducible first | exact HB.out | apply zab | apply zaa | apply zac | refine zaj ?_ GE407.out) | exact HB.out)) hb)
         clear BK407
         clear HB
         have HO412 := n0_
         have BK407 := n1_
         have HB := n2_
         clear n0_ n1_ n2_
         clear hb ho20
         refine hK.out _ _ ⟨(zai BK407.out 0).trans rfl, (zai BK407.out 1).trans rfl, (zai BK407.out 2).trans rfl⟩ (fun hHeld => ?_)
         clear hK K
         refine norm_ (a' := ?_) ?_ ?_
         rotate_left
         ·show Act.put _ (some 34) _ = _
          simp only [Act.put, List.setIfInBounds_toArray, List.set_cons_zero, List.set_cons_succ, i64_w, i32_w]
          rfl
         refine two_ (i := 15) (j := 17) (Ni := some 36) (Nj := some 38) #[true, true, true, true, true, true, true, true, true, true, true, true, true, true, true, true, true, false, false, false, false, false] #[true, true, true, true, true, true, true, true, true, true, true, true, true, true, true, false, true, true, false, false, false, false] rfl rfl rfl rfl (two_of HT_.out (by kernel_rfl)) (by decide) (by decide) (fun K hK => ?_) (fun K hK => ?_)
         ·skip
          refine Kd.zcu k33 (w0 := w) w.heap.size (by rfl) (.tmp 34) (.tmp 35) 25 33 (.agg #[(.int .u8 0), (.string ⟨#[]⟩), (.int .i64 0)]) 32 rfl Tryz.underlying25 info33 rfl (by decide) (by omega) v411 y410 l1 _ _ _ (fun k_ => k_ ≠ gb407) (fun _ => False) rfl rfl ?aO ?aR (fun _ _ h => h) (fun _ h => h.elim) ?aF ?aB ?aS ?aL ?_
          (case aR => repeat (first | exact (Kd.zb7 HR1.out HB.out) | (with_reducible refine Kd.zbu ?_ _) | (with_reducible refine Kd.zbv ?_ _) | (with_reducible refine Kd.zb4 ?_)))
          (case aB => exact (by repeat (first | (with_reducible first | exact HB.out | apply zab | apply zaa | apply zac | refine zaj ?_ GE407.out) | exact HB.out)))
          (case aF => exact (fun k_ hk => Kd.freshB (g := gb407) (o := .cells #[.int .u8 a2_0, .string a2_1, .int .i64 a2_2] 33 (0, 0)) (by (with_reducible repeat (first | refine zas ?_ _ | refine zat ?_ | refine zar ?_ _)); exact BK407.out) k_ hk))
          (case aO => exact (by (with_reducible repeat (first | apply Kd.zan | apply Kd.zaq | apply Kd.zaw)); exact Kd.zbr HO412.out (fun _ hk => hk.2)))
          (case aS => exact (zao (by repeat (first | (with_reducible first | exact HB.out | apply zab | apply zaa | apply zac | refine zaj ?_ GE407.out) | exact HB.out))))
          (case aL => have := LMc14.out; omega)
          intro v414 w21 ho hb hg hat
          rw [← Ny413.out] at ho
          have n0_ := zad.mk (zb5 (g := gb407) (o := .cells #[.int .u8 a2_0, .string a2_1, .int .i64 a2_2] 33 (0, 0)) (by (with_reducible repeat (first | refine zas ?_ _ | refine zat ?_ | refine zar ?_ _)); exact BK407.out) hg (Kd.zdz HO412.out (fun _ hk => hk.2)))
          have n1_ := zad.mk (hb)
          have n2_ := zad.mk (ho)
          clear BK407
          clear HB
          clear HO412
          have BK407 := n0_
          have HB := n1_
          have HO415 := n2_
          clear n0_ n1_ n2_
          clear ho hb hg hat
          refine hK.out _ _ ⟨(zai BK407.out 0).trans rfl, (zai BK407.out 1).trans rfl, (zai BK407.out 2).trans rfl⟩ (fun hHeld => ?_)
          clear hK K
          refine norm_ (a' := ?_) ?_ ?_
          rotate_left
          ·show Act.put _ (some 36) _ = _
           simp only [Act.put, List.setIfInBounds_toArray, List.set_cons_zero, List.set_cons_succ, i64_w, i32_w]
           rfl
          refine one_ (i := 17) (N := some 38) #[true, true, true, true, true, true, true, true, true, true, true, true, true, true, true, true, true, true, false, false, false, false] rfl rfl (zdg HT_.out (by kernel_rfl)) (by decide) (fun K hK => ?_)
          refine Kd.zee k33 _ 33 ?hg (N := 38) ?hd (xs := ([(⟨a2_0, a2_1, a2_2⟩ : S33)] : List (S33))) (inner := [.int .u8 a2_0, .string a2_1, .int .i64 a2_2]) (ok := fun _ => True) (okp := fun _ => True) ?hr ?hp (fun _ hk => hk) trivial (Below.refl _ _) (Nat.le_refl _) (by simp) ?_; (case hd => rfl); (case hg => rfl); (case hr => first | (go_simp; done) | (go_simp; rfl)); (case hp => exact (Reps.c3 (show Kd.M k33 _ _ _ (⟨a2_0, a2_1, a2_2⟩ : S33) [.int .u8 a2_0, .string a2_1, .int .i64 a2_2] from (k33_mkM _ _ _ (⟨a2_0, a2_1, a2_2⟩ : S33) )) (Reps.none _ _)))
          intro v417 w22 ho23 hb hg_ hnew_
          clear hg_ hnew_
          (first | rw [← Ny416.out] at ho23 | (simp only [Int.reduceToNat] at ho23; rw [← Ny416.out] at ho23))
          have n0_ := zad.mk (Kd.zct (by (with_reducible repeat (first | apply Kd.zan | apply Kd.zaq | apply Kd.zaw)); exact HO415.out) (Kd.zd9 ho23) hb)
          have n1_ := zad.mk (Kd.zbq (Kd.zed (Kd.zea ho23 (Kd.R_lt (by (with_reducible repeat (first | apply Kd.zan | apply Kd.zaq | apply Kd.zaw)); exact HO415.out))) (g := gb407) (o := .cells #[.int .u8 a2_0, .string a2_1, .int .i64 a2_2] 33 (0, 0)) (by (with_reducible repeat (first | refine zas ?_ _ | refine zat ?_ | refine zar ?_ _)); exact BK407.out)) (zao (by repeat (first | (with_reducible first | exact HB.out | apply zab | apply zaa | apply zac | refine zaj ?_ GE407.out) | exact HB.out))))
          have n2_ := zad.mk (zbg (g := gb407) (o := .cells #[.int .u8 a2_0, .string a2_1, .int .i64 a2_2] 33 (0, 0)) (by (with_reducible repeat (first | refine zas ?_ _ | refine zat ?_ | refine zar ?_ _)); exact BK407.out) hb)
          have n3_ := zad.mk (zah (by repeat (first | (with_reducible first | exact HB.out | apply zab | apply zaa | apply zac | refine zaj ?_ GE407.out) | exact HB.out)) hb)
          clear HO415
          clear BK407
          clear HB
          have HO415 := n0_
          have HO418 := n1_
          have BK407 := n2_
          have HB := n3_
          clear n0_ n1_ n2_ n3_
          clear hb ho23
          refine hK.out _ _ ⟨(zai BK407.out 0).trans rfl, (zai BK407.out 1).trans rfl, (zai BK407.out 2).trans rfl⟩ (fun hHeld => ?_)
          clear hK K
          refine norm_ (a' := ?_) ?_ ?_
          rotate_left
          ·show Act.put _ (some 38) _ = _
           simp only [Act.put, List.setIfInBounds_toArray, List.set_cons_zero, List.set_cons_succ, i64_w, i32_w]
           rfl
          exact norm_ (by simp only [putAll, Act.put, List.setIfInBounds_toArray, List.set_cons_zero, List.set_cons_succ]) (hCont (v411, v414, v417) _ ⟨hHeld, (by (with_reducible repeat (first | apply Kd.zan | apply Kd.zaq | apply Kd.zaw)); exact Kd.zbr HO415.out (fun _ hk => ⟨hk.2, hk.1⟩)), (by (with_reducible repeat (first | apply Kd.zan | apply Kd.zaq | apply Kd.zaw)); exact Kd.zbr HO418.out (fun _ hk => ⟨hk.1.2, hk.2⟩)), (by (with_reducible repeat (first | refine zas ?_ _ | refine zat ?_ | refine zar ?_ _)); exact BK407.out), (by repeat (first | (with_reducible first | exact HB.out | apply zab | apply zaa | apply zac | refine zaj ?_ GE407.out) | exact HB.out))⟩)
         ·skip
          refine Kd.zee k33 _ 33 ?hg (N := 38) ?hd (xs := ([(⟨a2_0, a2_1, a2_2⟩ : S33)] : List (S33))) (inner := [.int .u8 a2_0, .string a2_1, .int .i64 a2_2]) (ok := fun _ => True) (okp := fun _ => True) ?hr ?hp (fun _ hk => hk) trivial (Below.refl _ _) (Nat.le_refl _) (by simp) ?_; (case hd => rfl); (case hg => rfl); (case hr => first | (go_simp; done) | (go_simp; rfl)); (case hp => exact (Reps.c3 (show Kd.M k33 _ _ _ (⟨a2_0, a2_1, a2_2⟩ : S33) [.int .u8 a2_0, .string a2_1, .int .i64 a2_2] from (k33_mkM _ _ _ (⟨a2_0, a2_1, a2_2⟩ : S33) )) (Reps.none _ _)))
          intro v417 w21 ho22 hb hg_ hnew_
          clear hg_ hnew_
          (first | rw [← Ny416.out] at ho22 | (simp only [Int.reduceToNat] at ho22; rw [← Ny416.out] at ho22))
          have n0_ := zad.mk (Kd.zct (by (with_reducible repeat (first | apply Kd.zan | apply Kd.zaq | apply Kd.zaw)); exact HO412.out) (Kd.zd9 ho22) hb)
          have n1_ := zad.mk (Kd.zbq (Kd.zed (Kd.zea ho22 (Kd.R_lt (by (with_reducible repeat (first | apply Kd.zan | apply Kd.zaq | apply Kd.zaw)); exact HO412.out))) (g := gb407) (o := .cells #[.int .u8 a2_0, .string a2_1, .int .i64 a2_2] 33 (0, 0)) (by (with_reducible repeat (first | refine zas ?_ _ | refine zat ?_ | refine zar ?_ _)); exact BK407.out)) (zao (by repeat (first | (with_reducible first | exact HB.out | apply zab | apply zaa | apply zac | refine zaj ?_ GE407.out) | exact HB.out))))
          have n2_ := zad.mk (zbg (g := gb407) (o := .cells #[.int .u8 a2_0, .string a2_1, .int .i64 a2_2] 33 (0, 0)) (by (with_reducible repeat (first | refine zas ?_ _ | refine zat ?_ | refine zar ?_ _)); exact BK407.out) hb)
          have n3_ := zad.mk (zah (by repeat (first | (with_reducible first | exact HB.out | apply zab | apply zaa | apply zac | refine zaj ?_ GE407.out) | exact HB.out)) hb)
          clear HO412
          clear BK407
          clear HB
          have HO412 := n0_
          have HO418 := n1_
          have BK407 := n2_
          have HB := n3_
          clear n0_ n1_ n2_ n3_
          clear hb ho22
          refine hK.out _ _ ⟨(zai BK407.out 0).trans rfl, (zai BK407.out 1).trans rfl, (zai BK407.out 2).trans rfl⟩ (fun hHeld => ?_)
          clear hK K
          refine norm_ (a' := ?_) ?_ ?_
          rotate_left
          ·show Act.put _ (some 38) _ = _
           simp only [Act.put, List.setIfInBounds_toArray, List.set_cons_zero, List.set_cons_succ, i64_w, i32_w]
           rfl
          refine one_ (i := 15) (N := some 36) #[true, true, true, true, true, true, true, true, true, true, true, true, true, true, true, true, true, true, false, false, false, false] rfl rfl (zdg HT_.out (by kernel_rfl)) (by decide) (fun K hK => ?_)
          refine Kd.zcu k33 (w0 := w) w.heap.size (by rfl) (.tmp 34) (.tmp 35) 25 33 (.agg #[(.int .u8 0), (.string ⟨#[]⟩), (.int .i64 0)]) 32 rfl Tryz.underlying25 info33 rfl (by decide) (by omega) v411 y410 l1 _ _ _ (fun k_ => some k_ ≠ (v417 : Value).ownBlock ∧ k_ ≠ gb407) (fun _ => False) rfl rfl ?aO ?aR (fun _ _ h => h) (fun _ h => h.elim) ?aF ?aB ?aS ?aL ?_
          (case aR => repeat (first | exact (Kd.zb7 HR1.out HB.out) | (with_reducible refine Kd.zbu ?_ _) | (with_reducible refine Kd.zbv ?_ _) | (with_reducible refine Kd.zb4 ?_)))
          (case aB => exact (by repeat (first | (with_reducible first | exact HB.out | apply zab | apply zaa | apply zac | refine zaj ?_ GE407.out) | exact HB.out)))
          (case aF => exact (fun k_ hk => ⟨Kd.fresh' (Kd.R_lt (by (with_reducible repeat (first | apply Kd.zan | apply Kd.zaq | apply Kd.zaw)); exact HO418.out)) k_ hk, Kd.freshB (g := gb407) (o := .cells #[.int .u8 a2_0, .string a2_1, .int .i64 a2_2] 33 (0, 0)) (by (with_reducible repeat (first | refine zas ?_ _ | refine zat ?_ | refine zar ?_ _)); exact BK407.out) k_ hk⟩))
          (case aO => exact (by (with_reducible repeat (first | apply Kd.zan | apply Kd.zaq | apply Kd.zaw)); exact Kd.zbr HO412.out (fun _ hk => ⟨hk.2, hk.1.2⟩)))
          (case aS => exact (zao (by repeat (first | (with_reducible first | exact HB.out | apply zab | apply zaa | apply zac | refine zaj ?_ GE407.out) | exact HB.out))))
          (case aL => have := LMc14.out; omega)
          intro v414 w23 ho hb hg hat
          rw [← Ny413.out] at ho
          have n0_ := zad.mk (zb5 (g := gb407) (o := .cells #[.int .u8 a2_0, .string a2_1, .int .i64 a2_2] 33 (0, 0)) (by (with_reducible repeat (first | refine zas ?_ _ | refine zat ?_ | refine zar ?_ _)); exact BK407.out) hg (Kd.zdz HO412.out (fun _ hk => hk.1.2)))
          have n1_ := zad.mk (Kd.zb8 (ok := (fun k_ => k_ ≠ gb407)) (by (with_reducible repeat (first | apply Kd.zan | apply Kd.zaq | apply Kd.zaw)); exact Kd.zbr HO418.out (fun _ hk => ⟨hk.2, hk.1.2⟩)) hg hat)
          have n2_ := zad.mk (hb)
          have n3_ := zad.mk (ho)
          clear BK407
          clear HO418
          clear HB
          clear HO412
          have BK407 := n0_
          have HO418 := n1_
          have HB := n2_
          have HO415 := n3_
          clear n0_ n1_ n2_ n3_
          clear ho hb hg hat
          refine hK.out _ _ ⟨(zai BK407.out 0).trans rfl, (zai BK407.out 1).trans rfl, (zai BK407.out 2).trans rfl⟩ (fun hHeld => ?_)
          clear hK K
          refine norm_ (a' := ?_) ?_ ?_
          rotate_left
          ·show Act.put _ (some 36) _ = _
           simp only [Act.put, List.setIfInBounds_toArray, List.set_cons_zero, List.set_cons_succ, i64_w, i32_w]
           rfl
          exact norm_ (by simp only [putAll, Act.put, List.setIfInBounds_toArray, List.set_cons_zero, List.set_cons_succ]) (hCont (v411, v414, v417) _ ⟨hHeld, (by (with_reducible repeat (first | apply Kd.zan | apply Kd.zaq | apply Kd.zaw)); exact HO415.out), (by (with_reducible repeat (first | apply Kd.zan | apply Kd.zaq | apply Kd.zaw)); exact Kd.zbr HO418.out (fun _ hk => ⟨hk.2, hk.1⟩)), (by (with_reducible repeat (first | refine zas ?_ _ | refine zat ?_ | refine zar ?_ _)); exact BK407.out), (by repeat (first | (with_reducible first | exact HB.out | apply zab | apply zaa | apply zac | refine zaj ?_ GE407.out) | exact HB.out))⟩)
        ·skip
         refine Kd.zee k33 _ 33 ?hg (N := 38) ?hd (xs := ([(⟨a2_0, a2_1, a2_2⟩ : S33)] : List (S33))) (inner := [.int .u8 a2_0, .string a2_1, .int .i64 a2_2]) (ok := fun _ => True) (okp := fun _ => True) ?hr ?hp (fun _ hk => hk) trivial (Below.refl _ _) (Nat.le_refl _) (by simp) ?_; (case hd => rfl); (case hg => rfl); (case hr => first | (go_simp; done) | (go_simp; rfl)); (case hp => exact (Reps.c3 (show Kd.M k33 _ _ _ (⟨a2_0, a2_1, a2_2⟩ : S33) [.int .u8 a2_0, .string a2_1, .int .i64 a2_2] from (k33_mkM _ _ _ (⟨a2_0, a2_1, a2_2⟩ : S33) )) (Reps.none _ _)))
         intro v417 w19 ho20 hb hg_ hnew_
         clear hg_ hnew_
         (first | rw [← Ny416.out] at ho20 | (simp only [Int.reduceToNat] at ho20; rw [← Ny416.out] at ho20))
         have n0_ := zad.mk (Kd.zbq (Kd.zed ho20 (g := gb407) (o := .cells #[.int .u8 a2_0, .string a2_1, .int .i64 a2_2] 33 (0, 0)) (by (with_reducible repeat (first | refine zas ?_ _ | refine zat ?_ | refine zar ?_ _)); exact BK407.out)) (zao (by repeat (first | (with_reducible first | exact HB.out | apply zab | apply zaa | apply zac | refine zaj ?_ GE407.out) | exact HB.out))))
         have n1_ := zad.mk (zbg (g := gb407) (o := .cells #[.int .u8 a2_0, .string a2_1, .int .i64 a2_2] 33 (0, 0)) (by (with_reducible repeat (first | refine zas ?_ _ | refine zat ?_ | refine zar ?_ _)); exact BK407.out) hb)
         have n2_ := zad.mk (zah (by repeat (first | (with_reducible first | exact HB.out | apply zab | apply zaa | apply zac | refine zaj ?_ GE407.out) | exact HB.out)) hb)
         clear BK407
         clear HB
         have HO418 := n0_
         have BK407 := n1_
         have HB := n2_
         clear n0_ n1_ n2_
         clear hb ho20
         refine hK.out _ _ ⟨(zai BK407.out 0).trans rfl, (zai BK407.out 1).trans rfl, (zai BK407.out 2).trans rfl⟩ (fun hHeld => ?_)
         clear hK K
         refine norm_ (a' := ?_) ?_ ?_
         rotate_left
         ·show Act.put _ (some 38) _ = _
          simp only [Act.put, List.setIfInBounds_toArray, List.set_cons_zero, List.set_cons_succ, i64_w, i32_w]
          rfl
         refine one_ (i := 13) (N := some 34) #[true, true, true, true, true, true, true, true, true, true, true, true, true, true, true, false, true, true, false, false, false, false] rfl rfl (zdg HT_.out (by kernel_rfl)) (by decide) (fun K hK => ?_)
         refine Kd.zee k33 _ 33 ?hg (N := 34) ?hd (xs := ([] : List (S33))) (inner := []) (ok := fun _ => True) (okp := fun _ => True) ?hr ?hp (fun _ hk => hk) trivial (Below.refl _ _) (Nat.le_refl _) (by simp) ?_; (case hd => rfl); (case hg => rfl); (case hr => first | (go_simp; done) | (go_simp; rfl)); (case hp => exact (Reps.none _ _))
         intro v411 w21 ho22 hb hg_ hnew_
         clear hg_ hnew_
         (first | rw [← Ny410.out] at ho22 | (simp only [Int.reduceToNat] at ho22; rw [← Ny410.out] at ho22))
         have n0_ := zad.mk (Kd.zct (by (with_reducible repeat (first | apply Kd.zan | apply Kd.zaq | apply Kd.zaw)); exact HO418.out) (Kd.zd9 ho22) hb)
         have n1_ := zad.mk (Kd.zbq (Kd.zed (Kd.zea ho22 (Kd.R_lt (by (with_reducible repeat (first | apply Kd.zan | apply Kd.zaq | apply Kd.zaw)); exact HO418.out))) (g := gb407) (o := .cells #[.int .u8 a2_0, .string a2_1, .int .i64 a2_2] 33 (0, 0)) (by (with_reducible repeat (first | refine zas ?_ _ | refine zat ?_ | refine zar ?_ _)); exact BK407.out)) (zao (by repeat (first | (with_reducible first | exact HB.out | apply zab | apply zaa | apply zac | refine zaj ?_ GE407.out) | exact HB.out))))
         have n2_ := zad.mk (zbg (g := gb407) (o := .cells #[.int .u8 a2_0, .string a2_1, .int .i64 a2_2] 33 (0, 0)) (by (with_reducible repeat (first | refine zas ?_ _ | refine zat ?_ | refine zar ?_ _)); exact BK407.out) hb)
         have n3_ := zad.mk (zah (by repeat (first | (with_reducible first | exact HB.out | apply zab | apply zaa | apply zac | refine zaj ?_ GE407.out) | exact HB.out)) hb)
         clear HO418
         clear BK407
         clear HB
         have HO418 := n0_
         have HO412 := n1_
         have BK407 := n2_
         have HB := n3_
         clear n0_ n1_ n2_ n3_
         clear hb ho22
         refine hK.out _ _ ⟨(zai BK407.out 0).trans rfl, (zai BK407.out 1).trans rfl, (zai BK407.out 2).trans rfl⟩ (fun hHeld => ?_)
         clear hK K
         refine norm_ (a' := ?_) ?_ ?_
         rotate_left
         ·show Act.put _ (some 34) _ = _
          simp only [Act.put, List.setIfInBounds_toArray, List.set_cons_zero, List.set_cons_succ, i64_w, i32_w]
          rfl
         refine one_ (i := 15) (N := some 36) #[true, true, true, true, true, true, true, true, true, true, true, true, true, true, true, true, true, true, false, false, false, false] rfl rfl (zdg HT_.out (by kernel_rfl)) (by decide) (fun K hK => ?_)
         refine Kd.zcu k33 (w0 := w) w.heap.size (by rfl) (.tmp 34) (.tmp 35) 25 33 (.agg #[(.int .u8 0), (.string ⟨#[]⟩), (.int .i64 0)]) 32 rfl Tryz.underlying25 info33 rfl (by decide) (by omega) v411 y410 l1 _ _ _ (fun k_ => some k_ ≠ (v417 : Value).ownBlock ∧ k_ ≠ gb407) (fun _ => False) rfl rfl ?aO ?aR (fun _ _ h => h) (fun _ h => h.elim) ?aF ?aB ?aS ?aL ?_
         (case aR => repeat (first | exact (Kd.zb7 HR1.out HB.out) | (with_reducible refine Kd.zbu ?_ _) | (with_reducible refine Kd.zbv ?_ _) | (with_reducible refine Kd.zb4 ?_)))
         (case aB => exact (by repeat (first | (with_reducible first | exact HB.out | apply zab | apply zaa | apply zac | refine zaj ?_ GE407.out) | exact HB.out)))
         (case aF => exact (fun k_ hk => ⟨Kd.fresh' (Kd.R_lt (by (with_reducible repeat (first | apply Kd.zan | apply Kd.zaq | apply Kd.zaw)); exact HO418.out)) k_ hk, Kd.freshB (g := gb407) (o := .cells #[.int .u8 a2_0, .string a2_1, .int .i64 a2_2] 33 (0, 0)) (by (with_reducible repeat (first | refine zas ?_ _ | refine zat ?_ | refine zar ?_ _)); exact BK407.out) k_ hk⟩))
         (case aO => exact (by (with_reducible repeat (first | apply Kd.zan | apply Kd.zaq | apply Kd.zaw)); exact Kd.zbr HO412.out (fun _ hk => ⟨hk.1.2, hk.2⟩)))
         (case aS => exact (zao (by repeat (first | (with_reducible first | exact HB.out | apply zab | apply zaa | apply zac | refine zaj ?_ GE407.out) | exact HB.out))))
         (case aL => have := LMc14.out; omega)
         intro v414 w23 ho hb hg hat
         rw [← Ny413.out] at ho
         have n0_ := zad.mk (zb5 (g := gb407) (o := .cells #[.int .u8 a2_0, .string a2_1, .int .i64 a2_2] 33 (0, 0)) (by (with_reducible repeat (first | refine zas ?_ _ | refine zat ?_ | refine zar ?_ _)); exact BK407.out) hg (Kd.zdz HO412.out (fun _ hk => hk.2)))
         have n1_ := zad.mk (Kd.zb8 (ok := (fun k_ => k_ ≠ gb407)) (by (with_reducible repeat (first | apply Kd.zan | apply Kd.zaq | apply Kd.zaw)); exact Kd.zbr HO418.out (fun _ hk => ⟨hk.1.2, hk.2⟩)) hg hat)
         have n2_ := zad.mk (hb)
         have n3_ := zad.mk (ho)
         clear BK407
         clear HO418
         clear HB
         clear HO412
         have BK407 := n0_
         have HO418 := n1_
         have HB := n2_
         have HO415 := n3_
         clear n0_ n1_ n2_ n3_
         clear ho hb hg hat
         refine hK.out _ _ ⟨(zai BK407.out 0).trans rfl, (zai BK407.out 1).trans rfl, (zai BK407.out 2).trans rfl⟩ (fun hHeld => ?_)
         clear hK K
         refine norm_ (a' := ?_) ?_ ?_
         rotate_left
         ·show Act.put _ (some 36) _ = _
          simp only [Act.put, List.setIfInBounds_toArray, List.set_cons_zero, List.set_cons_succ, i64_w, i32_w]
          rfl
         exact norm_ (by simp only [putAll, Act.put, List.setIfInBounds_toArray, List.set_cons_zero, List.set_cons_succ]) (hCont (v411, v414, v417) _ ⟨hHeld, (by (with_reducible repeat (first | apply Kd.zan | apply Kd.zaq | apply Kd.zaw)); exact HO415.out), (by (with_reducible repeat (first | apply Kd.zan | apply Kd.zaq | apply Kd.zaw)); exact Kd.zbr HO418.out (fun _ hk => ⟨hk.2, hk.1⟩)), (by (with_reducible repeat (first | refine zas ?_ _ | refine zat ?_ | refine zar ?_ _)); exact BK407.out), (by repeat (first | (with_reducible first | exact HB.out | apply zab | apply zaa | apply zac | refine zaj ?_ GE407.out) | exact HB.out))⟩)
       rintro ⟨v411, v414, v417⟩ w24 ⟨hS_, h0_, h1_, h2_, h3_⟩
       have n0_ : zad (Kd.R k33 33 w24 w.heap.size (fun k_ => some k_ ≠ (v417 : Value).ownBlock ∧ k_ ≠ gb407) v414 y413) := ⟨h0_⟩
       have n1_ : zad (Kd.R k33 33 w24 w.heap.size (fun k_ => some k_ ≠ (v414 : Value).ownBlock ∧ k_ ≠ gb407) v417 y416) := ⟨h1_⟩
       have n2_ : zad (w24.heap[gb407]? = some (.cells #[.int .u8 a2_0, .string a2_1, .int .i64 a2_2] 33 (0, 0))) := ⟨h2_⟩
       have n3_ : zad (Below w.heap.size w w24) := ⟨h3_⟩
       clear BK407
       clear HB
       clear h0_ h1_ h2_ h3_
       have HO415 := n0_
       have HO418 := n1_
       have BK407 := n2_
       have HB := n3_
       clear n0_ n1_ n2_ n3_
       have hHeld : w24.cell? ⟨gb407, 0, none⟩ = some (.int .u8 a2_0) ∧ w24.cell? ⟨gb407, 1, none⟩ = some (.string a2_1) ∧ w24.cell? ⟨gb407, 2, none⟩ = some (.int .i64 a2_2) := hS_
       obtain ⟨Ao26, co26, eo26⟩ := Kd.zbm HO418.out
       (first | subst eo26 | (injection eo26 with f1_ f2_ f3_; have f4_ := f1_.symm; have f5_ := f3_.symm; clear f1_ f2_ f3_; subst f4_; subst f5_))
       refine norm_ (a' := ?_) ?_ ?_
       rotate_left
       ·simp only [putAll, Act.put, List.setIfInBounds_toArray, List.set_cons_zero, List.set_cons_succ]
        rfl
       refine one_ (i := 18) (N := some 39) #[true, true, true, true, true, true, true, true, true, true, true, true, true, true, true, true, true, true, true, false, false, false] rfl rfl (zdg HT_.out (by kernel_rfl)) (by decide) (fun K hK => ?_)
       refine Kd.zcu k33 (w0 := w) w.heap.size (by rfl) (.tmp 36) (.tmp 38) 25 33 (.agg #[(.int .u8 0), (.string ⟨#[]⟩), (.int .i64 0)]) 32 rfl Tryz.underlying25 info33 rfl (by decide) (by omega) v414 y413 y416 _ _ _ (fun k_ => some k_ ≠ (.slice Ao26 y416.length co26 : Value).ownBlock ∧ k_ ≠ gb407) (fun _ => False) rfl rfl ?aO ?aR (fun _ _ h => h) (fun _ h => h.elim) ?aF ?aB ?aS ?aL ?_
       (case aR => repeat (first | exact (Kd.za3 HO418.out).2.2 | (with_reducible refine Kd.zbu ?_ _) | (with_reducible refine Kd.zbv ?_ _) | (with_reducible refine Kd.zb4 ?_)))
       (case aB => exact (by repeat (first | (with_reducible first | exact HB.out | apply zab | apply zaa | apply zac | refine zaj ?_ GE407.out) | exact HB.out)))
       (case aF => exact (fun k_ hk => ⟨Kd.fresh' (Kd.R_lt (by (with_reducible repeat (first | apply Kd.zan | apply Kd.zaq | apply Kd.zaw)); exact HO418.out)) k_ hk, Kd.freshB (g := gb407) (o := .cells #[.int .u8 a2_0, .string a2_1, .int .i64 a2_2] 33 (0, 0)) (by (with_reducible repeat (first | refine zas ?_ _ | refine zat ?_ | refine zar ?_ _)); exact BK407.out) k_ hk⟩))
       (case aO => exact (by (with_reducible repeat (first | apply Kd.zan | apply Kd.zaq | apply Kd.zaw)); exact HO415.out))
       (case aS => exact (zao (by repeat (first | (with_reducible first | exact HB.out | apply zab | apply zaa | apply zac | refine zaj ?_ GE407.out) | exact HB.out))))
       (case aL => have := LMc15.out; omega)
       intro v420 w25 ho hb hg hat
       rw [← Ny419.out] at ho
       have n0_ := zad.mk (zb5 (g := gb407) (o := .cells #[.int .u8 a2_0, .string a2_1, .int .i64 a2_2] 33 (0, 0)) (by (with_reducible repeat (first | refine zas ?_ _ | refine zat ?_ | refine zar ?_ _)); exact BK407.out) hg (Kd.zdz HO415.out (fun _ hk => hk.2)))
       have n1_ := zad.mk (Kd.zb8 (ok := (fun k_ => k_ ≠ gb407)) (by (with_reducible repeat (first | apply Kd.zan | apply Kd.zaq | apply Kd.zaw)); exact Kd.zbr HO418.out (fun _ hk => ⟨hk.2, hk.1⟩)) hg hat)
       have n2_ := zad.mk (hb)
       have n3_ := zad.mk (ho)
       clear BK407
       clear HO418
       clear HB
       clear HO415
       have BK407 := n0_
       have HO418 := n1_
       have HB := n2_
       have HO421 := n3_
       clear n0_ n1_ n2_ n3_
       clear ho hb hg hat
       obtain ⟨Ao27, co27, eo27⟩ := Kd.zbm HO421.out
       (first | subst eo27 | (injection eo27 with f1_ f2_ f3_; have f4_ := f1_.symm; have f5_ := f3_.symm; clear f1_ f2_ f3_; subst f4_; subst f5_))
       refine hK.out _ _ ⟨(zai BK407.out 0).trans rfl, (zai BK407.out 1).trans rfl, (zai BK407.out 2).trans rfl⟩ (fun hHeld => ?_)
       clear hK K
       refine norm_ (a' := ?_) ?_ ?_
       rotate_left
       ·show Act.put _ (some 39) _ = _
        simp only [Act.put, List.setIfInBounds_toArray, List.set_cons_zero, List.set_cons_succ, i64_w, i32_w]
        rfl
       refine one_ (i := 19) (N := some 40) #[true, true, true, true, true, true, true, true, true, true, true, true, true, true, true, true, true, true, true, true, false, false] rfl rfl (zdg HT_.out (by kernel_rfl)) (by decide) (fun K hK => ?_)
       refine goes_ Tryz.func14 (by kernel_rfl) rfl #[.slice Ao27 y419.length co27, .int .i64 0] (by rfl) rfl rfl (by (try simp only [List.map_toArray, List.map_cons, List.map_nil]); first | done | rfl | (simp only [List.length_drop, List.length_take]; rfl)) ?_
       with_reducible refine (zax.calls k _ _ y419 0 t422 _ ?side1 ?side2 A16.out).mono ?_
       (case side1 => repeat (first | exact (Kd.za3 HO421.out).2.2 | (with_reducible refine Kd.zbu ?_ _) | (with_reducible refine Kd.zbv ?_ _) | (with_reducible refine Kd.zb4 ?_)))
       (case side2 => exact (Kd.za3 HO421.out).2.1)
       rintro e w28 ⟨rfl, hb⟩
       refine ⟨_, rfl, ?_⟩
       have n0_ := zad.mk (Kd.zbk (by (with_reducible repeat (first | apply Kd.zan | apply Kd.zaq | apply Kd.zaw)); exact HO418.out) hb)
       have n1_ := zad.mk (Kd.zbk (by (with_reducible repeat (first | apply Kd.zan | apply Kd.zaq | apply Kd.zaw)); exact HO421.out) hb)
       have n2_ := zad.mk (zbg (g := gb407) (o := .cells #[.int .u8 a2_0, .string a2_1, .int .i64 a2_2] 33 (0, 0)) (by (with_reducible repeat (first | refine zas ?_ _ | refine zat ?_ | refine zar ?_ _)); exact BK407.out) hb)
       have n3_ := zad.mk (zah (by repeat (first | (with_reducible first | exact HB.out | apply zab | apply zaa | apply zac | refine zaj ?_ GE407.out) | exact HB.out)) hb)
       clear HO418
       clear HO421
       clear BK407
       clear HB
       have HO418 := n0_
       have HO421 := n1_
       have BK407 := n2_
       have HB := n3_
       clear n0_ n1_ n2_ n3_
       (try clear hb)
       (try clear hb2)
       (try clear hk)
       (try clear hi)
       refine hK.out _ _ ⟨(zai BK407.out 0).trans rfl, (zai BK407.out 1).trans rfl, (zai BK407.out 2).trans rfl⟩ (fun hHeld => ?_)
       clear hK K
       refine norm_ (a' := ?_) ?_ ?_
       rotate_left
       ·show Act.put _ (some 40) _ = _
        simp only [Act.put, List.setIfInBounds_toArray, List.set_cons_zero, List.set_cons_succ, i64_w, i32_w]
        rfl
       refine pure_ (i := 20) (N := some 41) (v := ?_) (a' := ?_) #[true, true, true, true, true, true, true, true, true, true, true, true, true, true, true, true, true, true, true, true, true, false] rfl rfl (za4 HT_.out (by kernel_rfl)) (fun _ _ _ h => h) (Or.inl ⟨by rfl, ?_⟩) ?_ ?_
       rotate_left
       ·intro w'
        go_simp
        with_reducible rfl
       rotate_left
       ·simp only [Act.put, List.setIfInBounds_toArray, List.set_cons_zero, List.set_cons_succ, i64_w, i32_w]
        rfl
       refine pure_ (i := 21) (N := some 42) (v := ?_) (a' := ?_) #[true, true, true, true, true, true, true, true, true, true, true, true, true, true, true, true, true, true, true, true, true, true] rfl rfl (za4 HT_.out (by kernel_rfl)) (fun _ _ _ h => h) (Or.inl ⟨by rfl, ?_⟩) ?_ ?_
       rotate_left
       ·intro w'
        go_simp
        with_reducible rfl
       rotate_left
       ·simp only [Act.put, List.setIfInBounds_toArray, List.set_cons_zero, List.set_cons_succ, i64_w, i32_w]
        rfl
       refine done_ (done_of HT_.out (by kernel_rfl)) ?_
       try go_wp2
       go_meet
       case rel => exact ⟨_, ((t422 != 0)), (by first | rfl | (simp; done) | (simp [*]; done)), H', ⟨by first | omega | exact Nat.le_refl _⟩, ⟨by (with_reducible repeat (first | refine zas ?_ _ | refine zat ?_ | refine zar ?_ _)); exact BK407.out⟩, ⟨by repeat (first | (with_reducible first | exact HB.out | apply zab | apply zaa | apply zac | refine zaj ?_ GE407.out) | exact HB.out)⟩⟩
      ·rw [if_neg c15] at H
       exact absurd H (by simp)
     ·rw [if_neg c14] at H
      exact absurd H (by simp)
   ·rw [if_neg c10] at H
    have c10b0 : (t409 == 0) = false := beq_eq_false_iff_ne.mpr c10
    have c10b1 : (t409 != 0) = true := bne_iff_ne.mpr c10
    (first | rw [c10b0] | (simp only [i64_w, i32_w]; rw [c10b0]) | skip)
    have H' := zad.mk H
    clear H
    try go_wp2
    have n0_ := zad.mk (zat BK407.out)
    have n1_ := zad.mk (zac HB.out)
    clear BK407
    clear HB
    have BK407 := n0_
    have HB := n1_
    clear n0_ n1_
    refine start_ (n := 22) (S := fun w' => True) (ds := []) #[false, false, false, false, false, false, false, false, false, false, false, false, false, false, false, false, false, false, false, false, false, false] (by kernel_rfl) rfl rfl trivial (fun hHeld => ?_); refine zc9 zae.tab1 zae.bits1 (fun HT_ HW_ => ?_)
    generalize w5.drew = w29 at BK407 HB hHeld ⊢
    refine pure_ (i := 0) (N := some 21) (v := ?_) (a' := ?_) #[true, false, false, false, false, false, false, false, false, false, false, false, false, false, false, false, false, false, false, false, false, false] rfl rfl (za4 HT_.out (by kernel_rfl)) (fun _ _ _ h => h) (Or.inl ⟨by rfl, ?_⟩) ?_ ?_
    rotate_left
    ·intro w'
     go_simp
     with_reducible rfl
    rotate_left
    ·simp only [Act.put, List.setIfInBounds_toArray, List.set_cons_zero, List.set_cons_succ, i64_w, i32_w]
     rfl
    refine one_ (i := 1) (N := some 22) #[true, true, false, false, false, false, false, false, false, false, false, false, false, false, false, false, false, false, false, false, false, false] rfl rfl (zdg HT_.out (by kernel_rfl)) (by decide) (fun K hK => ?_)
    refine goes_ Tryz.func17 (by kernel_rfl) rfl #[.slice A0 l0.length c0] (by rfl) rfl rfl (by (try simp only [List.map_toArray, List.map_cons, List.map_nil]); first | done | rfl | (simp only [List.length_drop, List.length_take]; rfl)) ?_
    with_reducible refine (zb2.calls _ _ l0 false _ ?side1 ?side2 A6.out).mono ?_
    (case side1 => repeat (first | exact (Kd.zb7 HR0.out HB.out) | (with_reducible refine Kd.zbu ?_ _) | (with_reducible refine Kd.zbv ?_ _) | (with_reducible refine Kd.zb4 ?_)))
    (case side2 => exact HC0.out)
    rintro e w' ⟨rfl, ⟨nd, rfl⟩⟩
    refine ⟨_, rfl, ?_⟩
    refine hK.out _ _ trivial (fun hHeld => ?_)
    clear hK K
    refine norm_ (a' := ?_) ?_ ?_
    rotate_left
    ·show Act.put _ (some 22) _ = _
     simp only [Act.put, List.setIfInBounds_toArray, List.set_cons_zero, List.set_cons_succ, i64_w, i32_w]
     rfl
    refine pure_ (i := 2) (N := some 23) (v := ?_) (a' := ?_) #[true, true, true, false, false, false, false, false, false, false, false, false, false, false, false, false, false, false, false, false, false, false] rfl rfl (za4 HT_.out (by kernel_rfl)) (fun _ _ _ h => h) (Or.inl ⟨by rfl, ?_⟩) ?_ ?_
    rotate_left
    ·intro w'
     go_simp
     with_reducible rfl
    rotate_left
    ·simp only [Act.put, List.setIfInBounds_toArray, List.set_cons_zero, List.set_cons_succ, i64_w, i32_w]
     rfl
    refine pure_ (i := 3) (N := some 24) (v := ?_) (a' := ?_) #[true, true, true, true, false, false, false, false, false, false, false, false, false, false, false, false, false, false, false, false, false, false] rfl rfl (za4 HT_.out (by kernel_rfl)) (fun _ _ _ h => h) (Or.inl ⟨by rfl, ?_⟩) ?_ ?_
    rotate_left
    ·intro w'
     go_simp
     with_reducible rfl
    rotate_left
    ·simp only [Act.put, List.setIfInBounds_toArray, List.set_cons_zero, List.set_cons_succ, i64_w, i32_w]
     rfl
    refine one_ (i := 4) (N := some 25) #[true, true, true, true, true, false, false, false, false, false, false, false, false, false, false, false, false, false, false, false, false, false] rfl rfl (zdg HT_.out (by kernel_rfl)) (by decide) (fun K hK => ?_)
    refine goes_ Tryz.func18 (by kernel_rfl) rfl #[.slice A0 l0.length c0] (by rfl) rfl rfl (by (try simp only [List.map_toArray, List.map_cons, List.map_nil]); first | done | rfl | (simp only [List.length_drop, List.length_take]; rfl)) ?_
    with_reducible refine (zbx.calls k _ _ l0 t409 _ ?side1 ?side2 A9.out).mono ?_
    (case side1 => repeat (first | exact (Kd.zb7 HR0.out (by repeat (first | (with_reducible first | exact HB.out | apply zab | apply zaa | apply zac | refine zaj ?_ GE407.out) | exact HB.out))) | (with_reducible refine Kd.zbu ?_ _) | (with_reducible refine Kd.zbv ?_ _) | (with_reducible refine Kd.zb4 ?_)))
    (case side2 => exact HC0.out)
    rintro e w30 ⟨rfl, hb⟩
    refine ⟨_, rfl, ?_⟩
    have n0_ := zad.mk (zbg (g := gb407) (o := .cells #[.int .u8 a2_0, .string a2_1, .int .i64 a2_2] 33 (0, 0)) (by (with_reducible repeat (first | refine zas ?_ _ | refine zat ?_ | refine zar ?_ _)); exact BK407.out) hb)
    have n1_ := zad.mk (zah (by repeat (first | (with_reducible first | exact HB.out | apply zab | apply zaa | apply zac | refine zaj ?_ GE407.out) | exact HB.out)) hb)
    clear BK407
    clear HB
    have BK407 := n0_
    have HB := n1_
    clear n0_ n1_
    (try clear hb)
    (try clear hb2)
    (try clear hk)
    (try clear hi)
    refine hK.out _ _ trivial (fun hHeld => ?_)
    clear hK K
    refine norm_ (a' := ?_) ?_ ?_
    rotate_left
    ·show Act.put _ (some 25) _ = _
     simp only [Act.put, List.setIfInBounds_toArray, List.set_cons_zero, List.set_cons_succ, i64_w, i32_w]
     rfl
    refine pure_ (i := 5) (N := some 26) (v := ?_) (a' := ?_) #[true, true, true, true, true, true, false, false, false, false, false, false, false, false, false, false, false, false, false, false, false, false] rfl rfl (za4 HT_.out (by kernel_rfl)) (fun _ _ _ h => h) (Or.inl ⟨by rfl, ?_⟩) ?_ ?_
    rotate_left
    ·intro w'
     go_simp
     with_reducible rfl
    rotate_left
    ·simp only [Act.put, List.setIfInBounds_toArray, List.set_cons_zero, List.set_cons_succ, i64_w, i32_w]
     rfl
    refine pure_ (i := 6) (N := some 27) (v := ?_) (a' := ?_) #[true, true, true, true, true, true, true, false, false, false, false, false, false, false, false, false, false, false, false, false, false, false] rfl rfl (za4 HT_.out (by kernel_rfl)) (fun _ _ _ h => h) (Or.inl ⟨by rfl, ?_⟩) ?_ ?_
    rotate_left
    ·intro w'
     go_simp
     with_reducible rfl
    rotate_left
    ·simp only [Act.put, List.setIfInBounds_toArray, List.set_cons_zero, List.set_cons_succ, i64_w, i32_w]
     rfl
    refine pure_ (i := 7) (N := some 28) (v := ?_) (a' := ?_) #[true, true, true, true, true, true, true, true, false, false, false, false, false, false, false, false, false, false, false, false, false, false] rfl rfl (za4 HT_.out (by kernel_rfl)) (fun _ _ _ h => h) (Or.inl ⟨by rfl, ?_⟩) ?_ ?_
    rotate_left
    ·intro w'
     go_simp
     with_reducible rfl
    rotate_left
    ·simp only [Act.put, List.setIfInBounds_toArray, List.set_cons_zero, List.set_cons_succ, i64_w, i32_w]
     rfl
    refine pure_ (i := 8) (N := some 29) (v := undef) (a' := ?_) #[true, true, true, true, true, true, true, true, true, false, false, false, false, false, false, false, false, false, false, false, false, false] rfl rfl (za4 HT_.out (by kernel_rfl)) (fun _ _ _ h => h) (Or.inr ⟨by rfl, rfl⟩) ?_ ?_
    rotate_left
    ·simp only [Act.put, List.setIfInBounds_toArray, List.set_cons_zero, List.set_cons_succ, i64_w, i32_w]
     rfl
    refine pure_ (i := 9) (N := some 30) (v := undef) (a' := ?_) #[true, true, true, true, true, true, true, true, true, true, false, false, false, false, false, false, false, false, false, false, false, false] rfl rfl (za4 HT_.out (by kernel_rfl)) (fun _ _ _ h => h) (Or.inr ⟨by rfl, rfl⟩) ?_ ?_
    rotate_left
    ·simp only [Act.put, List.setIfInBounds_toArray, List.set_cons_zero, List.set_cons_succ, i64_w, i32_w]
     rfl
    refine pure_ (i := 10) (N := some 31) (v := undef) (a' := ?_) #[true, true, true, true, true, true, true, true, true, true, true, false, false, false, false, false, false, false, false, false, false, false] rfl rfl (za4 HT_.out (by kernel_rfl)) (fun _ _ _ h => h) (Or.inr ⟨by rfl, rfl⟩) ?_ ?_
    rotate_left
    ·simp only [Act.put, List.setIfInBounds_toArray, List.set_cons_zero, List.set_cons_succ, i64_w, i32_w]
     rfl
    refine pure_ (i := 11) (N := some 32) (v := ?_) (a' := ?_) #[true, true, true, true, true, true, true, true, true, true, true, true, false, false, false, false, false, false, false, false, false, false] rfl rfl (za4 HT_.out (by kernel_rfl)) (fun _ _ _ h => h) (Or.inl ⟨by rfl, ?_⟩) ?_ ?_
    rotate_left
    ·intro w'
     go_simp
     with_reducible rfl
    rotate_left
    ·simp only [Act.put, List.setIfInBounds_toArray, List.set_cons_zero, List.set_cons_succ, i64_w, i32_w]
     rfl
    refine pure_ (i := 12) (N := some 33) (v := ?_) (a' := ?_) #[true, true, true, true, true, true, true, true, true, true, true, true, true, false, false, false, false, false, false, false, false, false] rfl rfl (za4 HT_.out (by kernel_rfl)) (fun _ _ _ h => h) (Or.inl ⟨by rfl, ?_⟩) ?_ ?_
    rotate_left
    ·intro w'
     go_simp
     with_reducible rfl
    rotate_left
    ·simp only [Act.put, List.setIfInBounds_toArray, List.set_cons_zero, List.set_cons_succ, i64_w, i32_w]
     rfl
    refine pure_ (i := 13) (N := some 34) (v := undef) (a' := ?_) #[true, true, true, true, true, true, true, true, true, true, true, true, true, true, false, false, false, false, false, false, false, false] rfl rfl (za4 HT_.out (by kernel_rfl)) (fun _ _ _ h => h) (Or.inr ⟨by rfl, rfl⟩) ?_ ?_
    rotate_left
    ·simp only [Act.put, List.setIfInBounds_toArray, List.set_cons_zero, List.set_cons_succ, i64_w, i32_w]
     rfl
    refine pure_ (i := 14) (N := some 35) (v := undef) (a' := ?_) #[true, true, true, true, true, true, true, true, true, true, true, true, true, true, true, false, false, false, false, false, false, false] rfl rfl (za4 HT_.out (by kernel_rfl)) (fun _ _ _ h => h) (Or.inr ⟨by rfl, rfl⟩) ?_ ?_
    rotate_left
    ·simp only [Act.put, List.setIfInBounds_toArray, List.set_cons_zero, List.set_cons_succ, i64_w, i32_w]
     rfl
    refine pure_ (i := 15) (N := some 36) (v := undef) (a' := ?_) #[true, true, true, true, true, true, true, true, true, true, true, true, true, true, true, true, false, false, false, false, false, false] rfl rfl (za4 HT_.out (by kernel_rfl)) (fun _ _ _ h => h) (Or.inr ⟨by rfl, rfl⟩) ?_ ?_
    rotate_left
    ·simp only [Act.put, List.setIfInBounds_toArray, List.set_cons_zero, List.set_cons_succ, i64_w, i32_w]
     rfl
    refine pure_ (i := 16) (N := some 37) (v := undef) (a' := ?_) #[true, true, true, true, true, true, true, true, true, true, true, true, true, true, true, true, true, false, false, false, false, false] rfl rfl (za4 HT_.out (by kernel_rfl)) (fun _ _ _ h => h) (Or.inr ⟨by rfl, rfl⟩) ?_ ?_
    rotate_left
    ·simp only [Act.put, List.setIfInBounds_toArray, List.set_cons_zero, List.set_cons_succ, i64_w, i32_w]
     rfl
    refine pure_ (i := 17) (N := some 38) (v := undef) (a' := ?_) #[true, true, true, true, true, true, true, true, true, true, true, true, true, true, true, true, true, true, false, false, false, false] rfl rfl (za4 HT_.out (by kernel_rfl)) (fun _ _ _ h => h) (Or.inr ⟨by rfl, rfl⟩) ?_ ?_
    rotate_left
    ·simp only [Act.put, List.setIfInBounds_toArray, List.set_cons_zero, List.set_cons_succ, i64_w, i32_w]
     rfl
    refine pure_ (i := 18) (N := some 39) (v := undef) (a' := ?_) #[true, true, true, true, true, true, true, true, true, true, true, true, true, true, true, true, true, true, true, false, false, false] rfl rfl (za4 HT_.out (by kernel_rfl)) (fun _ _ _ h => h) (Or.inr ⟨by rfl, rfl⟩) ?_ ?_
    rotate_left
    ·simp only [Act.put, List.setIfInBounds_toArray, List.set_cons_zero, List.set_cons_succ, i64_w, i32_w]
     rfl
    refine pure_ (i := 19) (N := some 40) (v := undef) (a' := ?_) #[true, true, true, true, true, true, true, true, true, true, true, true, true, true, true, true, true, true, true, true, false, false] rfl rfl (za4 HT_.out (by kernel_rfl)) (fun _ _ _ h => h) (Or.inr ⟨by rfl, rfl⟩) ?_ ?_
    rotate_left
    ·simp only [Act.put, List.setIfInBounds_toArray, List.set_cons_zero, List.set_cons_succ, i64_w, i32_w]
     rfl
    refine pure_ (i := 20) (N := some 41) (v := undef) (a' := ?_) #[true, true, true, true, true, true, true, true, true, true, true, true, true, true, true, true, true, true, true, true, true, false] rfl rfl (za4 HT_.out (by kernel_rfl)) (fun _ _ _ h => h) (Or.inr ⟨by rfl, rfl⟩) ?_ ?_
    rotate_left
    ·simp only [Act.put, List.setIfInBounds_toArray, List.set_cons_zero, List.set_cons_succ, i64_w, i32_w]
     rfl
    refine pure_ (i := 21) (N := some 42) (v := ?_) (a' := ?_) #[true, true, true, true, true, true, true, true, true, true, true, true, true, true, true, true, true, true, true, true, true, true] rfl rfl (za4 HT_.out (by kernel_rfl)) (fun _ _ _ h => h) (Or.inl ⟨by rfl, ?_⟩) ?_ ?_
    rotate_left
    ·intro w'
     go_simp
     with_reducible rfl
    rotate_left
    ·simp only [Act.put, List.setIfInBounds_toArray, List.set_cons_zero, List.set_cons_succ, i64_w, i32_w]
     rfl
    refine done_ (done_of HT_.out (by kernel_rfl)) ?_
    try go_wp2
    go_meet
    case rel => exact ⟨_, (true), (by first | rfl | (simp; done) | (simp [*]; done)), H', ⟨by first | omega | exact Nat.le_refl _⟩, ⟨by (with_reducible repeat (first | refine zas ?_ _ | refine zat ?_ | refine zar ?_ _)); exact BK407.out⟩, ⟨by repeat (first | (with_reducible first | exact HB.out | apply zab | apply zaa | apply zac | refine zaj ?_ GE407.out) | exact HB.out)⟩⟩
 case rest =>
  clear HC4
  try clear c1
  try clear p2
  try clear c3
  try clear c10
  try clear c10b0
  try clear c10b1
  try clear c14
  try clear c15
  try clear c17
  try clear c18
  obtain ⟨kq, x42_3, rfl, HA, HJ3, BK407, HB⟩ := hcut
  cases kq with
  | zero => exact absurd HA.out (by simp [zae.j0])
  | succ kj3 =>
   have H := HA.out
   clear HA
   simp only [zae.j0] at H
   by_cases c31 : x42_3 = true
   ·subst c31
    have H1 : ((zaz.f kj3).bind fun t423 => (some t423)) = some r := by rw [if_pos rfl] at H; exact H
    clear H
    have H := H1
    clear H1
    replace H := Option.bind_eq_some_iff.mp H
    obtain ⟨t423, A320, H⟩ := H
    replace H : (some t423) = some r := H
    have A32 := zad.mk A320
    clear A320
    obtain rfl := Option.some.inj H
    go_wp2_with (first | ((with_reducible refine zav (f := 12) rfl ?_); refine zbl (some 43) rfl rfl Tryz.func12 (by kernel_rfl) rfl #[] rfl (by (try simp only [List.map_toArray, List.map_cons, List.map_nil]); first | done | rfl | (simp only [List.length_drop, List.length_take]; rfl)) ?_; (with_reducible refine (zaz.calls kj3  t423 _ ?side1 A32.out).mono ?_); (case side1 => exact Tabs.below hT (by repeat (first | (with_reducible first | exact HB.out | apply zab | apply zaa | apply zac | refine zaj ?_ GE407.out) | exact HB.out))); rintro e w33 ⟨rfl, hb⟩; refine ⟨_, rfl, ?_⟩; have n0_ := zad.mk (zbg (g := gb407) (o := .cells #[.int .u8 a2_0, .string a2_1, .int .i64 a2_2] 33 (0, 0)) (by (with_reducible repeat (first | refine zas ?_ _ | refine zat ?_ | refine zar ?_ _)); exact BK407.out) hb); have n1_ := zad.mk (zah (by repeat (first | (with_reducible first | exact HB.out | apply zab | apply zaa | apply zac | refine zaj ?_ GE407.out) | exact HB.out)) hb); clear BK407; clear HB; have BK407 := n0_; have HB := n1_; clear n0_ n1_; (try clear hb); (try clear hb2); (try clear hk); (try clear hi)))
    go_ret
    exact ⟨by first | rfl | (simp [zak, zal] <;> rfl) | (simp [*, zak, zal] <;> rfl), by repeat (first | (with_reducible first | exact HB.out | apply zab | apply zaa | apply zac | refine zaj ?_ GE407.out) | exact HB.out)⟩
   ·replace c31 := Bool.eq_false_iff.mpr c31
    subst c31
    have H1 : ((zcl.f l0).bind fun bt424 => (if bt424.2 = 0 then (zae.j1 kj3 l0 l1 bt424.1 bt424.2 (decide ((bt424.1.size : Int) > 390)) a2_0 a2_1 a2_2) else (zae.j1 kj3 l0 l1 bt424.1 bt424.2 true a2_0 a2_1 a2_2))) = some r := by rw [if_neg (show ¬ (false = true) by decide)] at H; exact H
    clear H
    have H := H1
    clear H1
    replace H := Option.bind_eq_some_iff.mp H
    obtain ⟨⟨t424, t425⟩, A340, H⟩ := H
    replace H : (if t425 = 0 then (zae.j1 kj3 l0 l1 t424 t425 (decide ((t424.size : Int) > 390)) a2_0 a2_1 a2_2) else (zae.j1 kj3 l0 l1 t424 t425 true a2_0 a2_1 a2_2)) = some r := H
    have A34 := zad.mk A340
    clear A340
    have HC35 := zad.mk H
    clear H
    go_upto_region 4 with (first | ((with_reducible refine zav (f := 11) rfl ?_); refine zbl (some 46) rfl rfl Tryz.func11 (by kernel_rfl) rfl #[.slice A0 l0.length c0] rfl (by (try simp only [List.map_toArray, List.map_cons, List.map_nil]); first | done | rfl | (simp only [List.length_drop, List.length_take]; rfl)) ?_; (with_reducible refine (zcl.calls _ _ l0 t424 t425 _ ?side1 ?side2 ?side3 A34.out).mono ?_); (case side1 => repeat (first | exact (Kd.zb7 HR0.out HB.out) | (with_reducible refine Kd.zbu ?_ _) | (with_reducible refine Kd.zbv ?_ _) | (with_reducible refine Kd.zb4 ?_))); (case side2 => exact HC0.out); (case side3 => exact Tabs.below hT (by repeat (first | (with_reducible first | exact HB.out | apply zab | apply zaa | apply zac | refine zaj ?_ GE407.out) | exact HB.out))); rintro e w36 ⟨rfl, hb⟩; refine ⟨_, rfl, ?_⟩; have n0_ := zad.mk (zbg (g := gb407) (o := .cells #[.int .u8 a2_0, .string a2_1, .int .i64 a2_2] 33 (0, 0)) (by (with_reducible repeat (first | refine zas ?_ _ | refine zat ?_ | refine zar ?_ _)); exact BK407.out) hb); have n1_ := zad.mk (zah (by repeat (first | (with_reducible first | exact HB.out | apply zab | apply zaa | apply zac | refine zaj ?_ GE407.out) | exact HB.out)) hb); clear BK407; clear HB; have BK407 := n0_; have HB := n1_; clear n0_ n1_; (try clear hb); (try clear hb2); (try clear hk); (try clear hi)))
    (try simp only [Act.put, List.setIfInBounds_toArray, List.set_cons_zero, List.set_cons_succ])
    go_cut [55] (fun v55 wc => ∃ (kq : Nat) (x55_34 : Bool), v55 = .bool x55_34 ∧ zad (zae.j1 kq l0 l1 t424 t425 x55_34 a2_0 a2_1 a2_2 = some r) ∧ zad (kq ≤ kj3) ∧ zad (wc.heap[gb407]? = some (.cells #[.int .u8 a2_0, .string a2_1, .int .i64 a2_2] 33 (0, 0))) ∧ zad (Below w.heap.size w wc))
    case first =>
     have H := HC35.out
     clear HC35
     by_cases c37 : t425 = 0
     ·rw [if_pos c37] at H
      have c37b0 : (t425 == 0) = true := beq_iff_eq.mpr c37
      have c37b1 : (t425 != 0) = false := bne_eq_false_iff_eq.mpr c37
      clear c37
      (first | rw [c37b0] | (simp only [i64_w, i32_w]; rw [c37b0]) | skip)
      have H' := zad.mk H
      clear H
      go_wp2
      go_meet
      case rel => exact ⟨_, (decide ((t424.size : Int) > 390)), (by first | rfl | (simp; done) | (simp [*]; done)), H', ⟨by have := HJ3.out; first | omega | exact Nat.le_refl _⟩, ⟨by (with_reducible repeat (first | refine zas ?_ _ | refine zat ?_ | refine zar ?_ _)); exact BK407.out⟩, ⟨by repeat (first | (with_reducible first | exact HB.out | apply zab | apply zaa | apply zac | refine zaj ?_ GE407.out) | exact HB.out)⟩⟩
     ·rw [if_neg c37] at H
      have c37b0 : (t425 == 0) = false := beq_eq_false_iff_ne.mpr c37
      have c37b1 : (t425 != 0) = true := bne_iff_ne.mpr c37
      (first | rw [c37b0] | (simp only [i64_w, i32_w]; rw [c37b0]) | skip)
      have H' := zad.mk H
      clear H
      go_wp2
      go_meet
      case rel => exact ⟨_, (true), (by first | rfl | (simp; done) | (simp [*]; done)), H', ⟨by have := HJ3.out; first | omega | exact Nat.le_refl _⟩, ⟨by (with_reducible repeat (first | refine zas ?_ _ | refine zat ?_ | refine zar ?_ _)); exact BK407.out⟩, ⟨by repeat (first | (with_reducible first | exact HB.out | apply zab | apply zaa | apply zac | refine zaj ?_ GE407.out) | exact HB.out)⟩⟩
    case rest =>
     clear HC35
     try clear c1
     try clear p2
     try clear c3
     try clear c10
     try clear c10b0
     try clear c10b1
     try clear c11
     try clear c12
     try clear c14
     try clear c15
     try clear c17
     try clear c18
     try clear c31
     try clear c37
     try clear c37b0
     try clear c37b1
     try clear p2
     obtain ⟨kq, x55_34, rfl, HA, HJ34, BK407, HB⟩ := hcut
     cases kq with
     | zero => exact absurd HA.out (by simp [zae.j1])
     | succ kj34 =>
      have H := HA.out
      clear HA
      simp only [zae.j1] at H
      by_cases c38 : x55_34 = true
      ·subst c38
       have H1 : (if t425 = 0 then ((zaz.f kj34).bind fun t426 => (some t426)) else (some false)) = some r := by rw [if_pos rfl] at H; exact H
       clear H
       have H := H1
       clear H1
       by_cases c39 : t425 = 0
       ·rw [if_pos c39] at H
        have c39b0 : (t425 == 0) = true := beq_iff_eq.mpr c39
        have c39b1 : (t425 != 0) = false := bne_eq_false_iff_eq.mpr c39
        clear c39
        replace H := Option.bind_eq_some_iff.mp H
        obtain ⟨t426, A400, H⟩ := H
        replace H : (some t426) = some r := H
        have A40 := zad.mk A400
        clear A400
        obtain rfl := Option.some.inj H
        go_wp2_with (first | (go_at_call 12; (with_reducible refine (zaz.calls kj34  t426 _ ?side1 A40.out).mono ?_); (case side1 => exact Tabs.below hT (by repeat (first | (with_reducible first | exact HB.out | apply zab | apply zaa | apply zac | refine zaj ?_ GE407.out) | exact HB.out))); rintro e w41 ⟨rfl, hb⟩; have n0_ := zad.mk (zbg (g := gb407) (o := .cells #[.int .u8 a2_0, .string a2_1, .int .i64 a2_2] 33 (0, 0)) (by (with_reducible repeat (first | refine zas ?_ _ | refine zat ?_ | refine zar ?_ _)); exact BK407.out) hb); have n1_ := zad.mk (zah (by repeat (first | (with_reducible first | exact HB.out | apply zab | apply zaa | apply zac | refine zaj ?_ GE407.out) | exact HB.out)) hb); clear BK407; clear HB; have BK407 := n0_; have HB := n1_; clear n0_ n1_; (try clear hb); (try clear hb2); (try clear hk); (try clear hi)))
        go_ret
        exact ⟨by first | rfl | (simp [zak, zal] <;> rfl) | (simp [*, zak, zal] <;> rfl), by repeat (first | (with_reducible first | exact HB.out | apply zab | apply zaa | apply zac | refine zaj ?_ GE407.out) | exact HB.out)⟩
       ·rw [if_neg c39] at H
        have c39b0 : (t425 == 0) = false := beq_eq_false_iff_ne.mpr c39
        have c39b1 : (t425 != 0) = true := bne_iff_ne.mpr c39
        obtain rfl := Option.some.inj H
        go_wp2
        go_ret
        exact ⟨by first | rfl | (simp [zak, zal] <;> rfl) | (simp [*, zak, zal] <;> rfl), by repeat (first | (with_reducible first | exact HB.out | apply zab | apply zaa | apply zac | refine zaj ?_ GE407.out) | exact HB.out)⟩
      ·replace c38 := Bool.eq_false_iff.mpr c38
       subst c38
       have H1 : (if 1 + t424.size ≤ 9223372036854775807 then (if ((⟨#[40]⟩ : ByteArray) ++ t424).size + 1 ≤ 9223372036854775807 then ((zbe.f kj34 (((⟨#[40]⟩ : ByteArray) ++ t424) ++ (⟨#[41]⟩ : ByteArray))).bind fun bt427 => (if bt427.2.2 = 0 then (zae.j2 kj34 l0 l1 bt427.1 bt427.2.2 (decide ((bt427.1.length : Int) > 150)) a2_0 a2_1 a2_2) else (zae.j2 kj34 l0 l1 bt427.1 bt427.2.2 true a2_0 a2_1 a2_2))) else (none)) else (none)) = some r := by rw [if_neg (show ¬ (false = true) by decide)] at H; exact H
       clear H
       have H := H1
       clear H1
       by_cases c42 : 1 + t424.size ≤ 9223372036854775807
       ·rw [if_pos c42] at H
        have c42b0 := eq_true c42
        have c42b1 : decide (1 + t424.size ≤ 9223372036854775807) = true := decide_eq_true c42
        try have c42b2 : (9223372036854775807 < 1 + t424.size) = False := eq_false (Nat.not_lt.2 c42)
        by_cases c43 : ((⟨#[40]⟩ : ByteArray) ++ t424).size + 1 ≤ 9223372036854775807
        ·rw [if_pos c43] at H
         have c43b0 := eq_true c43
         have c43b1 : decide (((⟨#[40]⟩ : ByteArray) ++ t424).size + 1 ≤ 9223372036854775807) = true := decide_eq_true c43
         try have c43b2 : (9223372036854775807 < ((⟨#[40]⟩ : ByteArray) ++ t424).size + 1) = False := eq_false (Nat.not_lt.2 c43)
         try have c43b2x : (9223372036854775807 < 1 + t424.size + 1) = False := eq_false (by have h_ := c43; rw [ByteArray.size_append] at h_; exact Nat.not_lt.2 h_)
         replace H := Option.bind_eq_some_iff.mp H
         obtain ⟨⟨t427, t428, t429⟩, A440, H⟩ := H
         replace H : (if t429 = 0 then (zae.j2 kj34 l0 l1 t427 t429 (decide ((t427.length : Int) > 150)) a2_0 a2_1 a2_2) else (zae.j2 kj34 l0 l1 t427 t429 true a2_0 a2_1 a2_2)) = some r := H
         have A44 := zad.mk A440
         clear A440
         have HC45 := zad.mk H
         clear H
         go_upto_region 7 with (first | ((with_reducible refine zav (f := 9) rfl ?_); refine zbl (some 65) rfl rfl Tryz.func9 (by kernel_rfl) rfl #[.string (((⟨#[40]⟩ : ByteArray) ++ t424) ++ (⟨#[41]⟩ : ByteArray))] rfl (by (try simp only [List.map_toArray, List.map_cons, List.map_nil]); first | done | rfl | (simp only [List.length_drop, List.length_take]; rfl)) ?_; (with_reducible refine (zbe.calls kj34 (((⟨#[40]⟩ : ByteArray) ++ t424) ++ (⟨#[41]⟩ : ByteArray)) t427 t428 t429 _ ?side1 A44.out).mono ?_); (case side1 => exact Tabs.below hT (by repeat (first | (with_reducible first | exact HB.out | apply zab | apply zaa | apply zac | refine zaj ?_ GE407.out) | exact HB.out))); rintro e w46 ⟨v430, rfl, ho0, hb⟩; refine ⟨_, rfl, ?_⟩; have n0_ := zad.mk (Kd.zbq (Kd.zed ho0 (g := gb407) (o := .cells #[.int .u8 a2_0, .string a2_1, .int .i64 a2_2] 33 (0, 0)) (by (with_reducible repeat (first | refine zas ?_ _ | refine zat ?_ | refine zar ?_ _)); exact BK407.out)) (zao (by repeat (first | (with_reducible first | exact HB.out | apply zab | apply zaa | apply zac | refine zaj ?_ GE407.out) | exact HB.out)))); have n1_ := zad.mk (zbg (g := gb407) (o := .cells #[.int .u8 a2_0, .string a2_1, .int .i64 a2_2] 33 (0, 0)) (by (with_reducible repeat (first | refine zas ?_ _ | refine zat ?_ | refine zar ?_ _)); exact BK407.out) hb); have n2_ := zad.mk (zah (by repeat (first | (with_reducible first | exact HB.out | apply zab | apply zaa | apply zac | refine zaj ?_ GE407.out) | exact HB.out)) hb); clear BK407; clear HB; have HO431 := n0_; have BK407 := n1_; have HB := n2_; clear n0_ n1_ n2_; (try clear hb); (try clear hb2); (try clear hk); (try clear hi); (try clear ho0)))
         (try simp only [Act.put, List.setIfInBounds_toArray, List.set_cons_zero, List.set_cons_succ])
         go_cut [75] (fun v75 wc => ∃ (kq : Nat) (x75_44 : Bool), v75 = .bool x75_44 ∧ zad (zae.j2 kq l0 l1 t427 t429 x75_44 a2_0 a2_1 a2_2 = some r) ∧ zad (kq ≤ kj34) ∧ zad (Kd.R k33 33 wc w.heap.size (fun k_ => k_ ≠ gb407) v430 t427) ∧ zad (wc.heap[gb407]? = some (.cells #[.int .u8 a2_0, .string a2_1, .int .i64 a2_2] 33 (0, 0))) ∧ zad (Below w.heap.size w wc))
         case first =>
          have H := HC45.out
          clear HC45
          by_cases c47 : t429 = 0
          ·rw [if_pos c47] at H
           have c47b0 : (t429 == 0) = true := beq_iff_eq.mpr c47
           have c47b1 : (t429 != 0) = false := bne_eq_false_iff_eq.mpr c47
           clear c47
           (first | rw [c47b0] | (simp only [i64_w, i32_w]; rw [c47b0]) | skip)
           have H' := zad.mk H
           clear H
           obtain ⟨Ao48, co48, eo48⟩ := Kd.zbm HO431.out
           subst eo48
           go_wp2
           go_meet
           case rel => exact ⟨_, (decide ((t427.length : Int) > 150)), (by first | rfl | (simp; done) | (simp [*]; done)), H', ⟨by have := HJ3.out; have := HJ34.out; first | omega | exact Nat.le_refl _⟩, ⟨by (with_reducible repeat (first | apply Kd.zan | apply Kd.zaq | apply Kd.zaw)); exact Kd.zbr HO431.out (fun _ hk => hk.2)⟩, ⟨by (with_reducible repeat (first | refine zas ?_ _ | refine zat ?_ | refine zar ?_ _)); exact BK407.out⟩, ⟨by repeat (first | (with_reducible first | exact HB.out | apply zab | apply zaa | apply zac | refine zaj ?_ GE407.out) | exact HB.out)⟩⟩
          ·rw [if_neg c47] at H
           have c47b0 : (t429 == 0) = false := beq_eq_false_iff_ne.mpr c47
           have c47b1 : (t429 != 0) = true := bne_iff_ne.mpr c47
           (first | rw [c47b0] | (simp only [i64_w, i32_w]; rw [c47b0]) | skip)
           have H' := zad.mk H
           clear H
           go_wp2
           go_meet
           case rel => exact ⟨_, (true), (by first | rfl | (simp; done) | (simp [*]; done)), H', ⟨by have := HJ3.out; have := HJ34.out; first | omega | exact Nat.le_refl _⟩, ⟨by (with_reducible repeat (first | apply Kd.zan | apply Kd.zaq | apply Kd.zaw)); exact Kd.zbr HO431.out (fun _ hk => hk.2)⟩, ⟨by (with_reducible repeat (first | refine zas ?_ _ | refine zat ?_ | refine zar ?_ _)); exact BK407.out⟩, ⟨by repeat (first | (with_reducible first | exact HB.out | apply zab | apply zaa | apply zac | refine zaj ?_ GE407.out) | exact HB.out)⟩⟩
         case rest =>
          clear HC45
          try clear c1
          try clear p2
          try clear c3
          try clear c4
          try clear c9
          try clear c10
          try clear c10b0
          try clear c10b1
          try clear c11
          try clear c12
          try clear c14
          try clear c15
          try clear c17
          try clear c18
          try clear c31
          try clear c37
          try clear c37b0
          try clear c37b1
          try clear c38
          try clear c39
          try clear c39b0
          try clear c39b1
          try clear c42
          try clear c42b0
          try clear c42b1
          try clear c42b2
          try clear c43
          try clear c43b0
          try clear c43b1
          try clear c43b2
          try clear c47
          try clear c47b0
          try clear c47b1
          try clear p2
          obtain ⟨kq, x75_44, rfl, HA, HJ44, HO_9, BK407, HB⟩ := hcut
          cases kq with
          | zero => exact absurd HA.out (by simp [zae.j2])
          | succ kj44 =>
           have H := HA.out
           clear HA
           simp only [zae.j2] at H
           by_cases c49 : x75_44 = true
           ·subst c49
            have H1 : (if t429 = 0 then ((zaz.f kj44).bind fun t432 => (some t432)) else (some false)) = some r := by rw [if_pos rfl] at H; exact H
            clear H
            have H := H1
            clear H1
            by_cases c50 : t429 = 0
            ·rw [if_pos c50] at H
             have c50b0 : (t429 == 0) = true := beq_iff_eq.mpr c50
             have c50b1 : (t429 != 0) = false := bne_eq_false_iff_eq.mpr c50
             clear c50
             replace H := Option.bind_eq_some_iff.mp H
             obtain ⟨t432, A510, H⟩ := H
             replace H : (some t432) = some r := H
             have A51 := zad.mk A510
             clear A510
             obtain rfl := Option.some.inj H
             go_wp2_with (first | (go_at_call 12; (with_reducible refine (zaz.calls kj44  t432 _ ?side1 A51.out).mono ?_); (case side1 => exact Tabs.below hT (by repeat (first | (with_reducible first | exact HB.out | apply zab | apply zaa | apply zac | refine zaj ?_ GE407.out) | exact HB.out))); rintro e w52 ⟨rfl, hb⟩; have n0_ := zad.mk (Kd.zbk (by (with_reducible repeat (first | apply Kd.zan | apply Kd.zaq | apply Kd.zaw)); exact HO_9.out) hb); have n1_ := zad.mk (zbg (g := gb407) (o := .cells #[.int .u8 a2_0, .string a2_1, .int .i64 a2_2] 33 (0, 0)) (by (with_reducible repeat (first | refine zas ?_ _ | refine zat ?_ | refine zar ?_ _)); exact BK407.out) hb); have n2_ := zad.mk (zah (by repeat (first | (with_reducible first | exact HB.out | apply zab | apply zaa | apply zac | refine zaj ?_ GE407.out) | exact HB.out)) hb); clear HO_9; clear BK407; clear HB; have HO_9 := n0_; have BK407 := n1_; have HB := n2_; clear n0_ n1_ n2_; (try clear hb); (try clear hb2); (try clear hk); (try clear hi)))
             go_ret
             exact ⟨by first | rfl | (simp [zak, zal] <;> rfl) | (simp [*, zak, zal] <;> rfl), by repeat (first | (with_reducible first | exact HB.out | apply zab | apply zaa | apply zac | refine zaj ?_ GE407.out) | exact HB.out)⟩
            ·rw [if_neg c50] at H
             have c50b0 : (t429 == 0) = false := beq_eq_false_iff_ne.mpr c50
             have c50b1 : (t429 != 0) = true := bne_iff_ne.mpr c50
             obtain rfl := Option.some.inj H
             go_wp2
             go_ret
             exact ⟨by first | rfl | (simp [zak, zal] <;> rfl) | (simp [*, zak, zal] <;> rfl), by repeat (first | (with_reducible first | exact HB.out | apply zab | apply zaa | apply zac | refine zaj ?_ GE407.out) | exact HB.out)⟩
           ·replace c49 := Bool.eq_false_iff.mpr c49
            subst c49
            have H1 : ((some (([] : List (S33)) : List (S33))).bind fun y433 => (if y433.length + l1.length < 4398046511104 then ((some (y433 ++ l1 : List (S33))).bind fun y436 => (if y436.length + t427.length < 4398046511104 then ((some (y436 ++ t427 : List (S33))).bind fun y439 => ((za5.f kj44 y439 (l1.length : Int)).bind fun bt442 => ((zcm.f l0 bt442.1).bind fun bt447 => (if bt442.2.2 = 0 then (if bt447.2 = 0 then (if bt447.1 = true then (zae.j3 kj44 l1 y439 bt442.1 bt442.2.1 (bt442.2.1 != (y439.length : Int)) a2_0 a2_1 a2_2) else (zae.j3 kj44 l1 y439 bt442.1 bt442.2.1 true a2_0 a2_1 a2_2)) else (zae.j3 kj44 l1 y439 bt442.1 bt442.2.1 true a2_0 a2_1 a2_2)) else (zae.j3 kj44 l1 y439 bt442.1 bt442.2.1 true a2_0 a2_1 a2_2))))) else (none))) else (none))) = some r := by rw [if_neg (show ¬ (false = true) by decide)] at H; exact H
            clear H
            have H := H1
            clear H1
            obtain ⟨y433, hy433⟩ : ∃ y_ : List (S33), y_ = (([] : List (S33))) := ⟨_, rfl⟩
            replace H : (if y433.length + l1.length < 4398046511104 then ((some (y433 ++ l1 : List (S33))).bind fun y436 => (if y436.length + t427.length < 4398046511104 then ((some (y436 ++ t427 : List (S33))).bind fun y439 => ((za5.f kj44 y439 (l1.length : Int)).bind fun bt442 => ((zcm.f l0 bt442.1).bind fun bt447 => (if bt442.2.2 = 0 then (if bt447.2 = 0 then (if bt447.1 = true then (zae.j3 kj44 l1 y439 bt442.1 bt442.2.1 (bt442.2.1 != (y439.length : Int)) a2_0 a2_1 a2_2) else (zae.j3 kj44 l1 y439 bt442.1 bt442.2.1 true a2_0 a2_1 a2_2)) else (zae.j3 kj44 l1 y439 bt442.1 bt442.2.1 true a2_0 a2_1 a2_2)) else (zae.j3 kj44 l1 y439 bt442.1 bt442.2.1 true a2_0 a2_1 a2_2))))) else (none))) else (none)) = some r := by first | (rw [hy433]; with_reducible exact H) | (have H2_ := (Option.bind_some _ _).symm.trans H; rw [hy433]; with_reducible exact H2_) | (have H2_ := (Option.bind_some _ _).symm.trans H; with_reducible exact H2_) | with_reducible exact H | (rw [hy433]; exact H) | exact H
            have Ny433 := zad.mk hy433
            clear hy433
            by_cases c53 : y433.length + l1.length < 4398046511104
            ·rw [if_pos c53] at H
             have LMc53 := zad.mk c53
             clear c53
             obtain ⟨y436, hy436⟩ : ∃ y_ : List (S33), y_ = (y433 ++ l1) := ⟨_, rfl⟩
             replace H : (if y436.length + t427.length < 4398046511104 then ((some (y436 ++ t427 : List (S33))).bind fun y439 => ((za5.f kj44 y439 (l1.length : Int)).bind fun bt442 => ((zcm.f l0 bt442.1).bind fun bt447 => (if bt442.2.2 = 0 then (if bt447.2 = 0 then (if bt447.1 = true then (zae.j3 kj44 l1 y439 bt442.1 bt442.2.1 (bt442.2.1 != (y439.length : Int)) a2_0 a2_1 a2_2) else (zae.j3 kj44 l1 y439 bt442.1 bt442.2.1 true a2_0 a2_1 a2_2)) else (zae.j3 kj44 l1 y439 bt442.1 bt442.2.1 true a2_0 a2_1 a2_2)) else (zae.j3 kj44 l1 y439 bt442.1 bt442.2.1 true a2_0 a2_1 a2_2))))) else (none)) = some r := by first | (rw [hy436]; with_reducible exact H) | (have H2_ := (Option.bind_some _ _).symm.trans H; rw [hy436]; with_reducible exact H2_) | (have H2_ := (Option.bind_some _ _).symm.trans H; with_reducible exact H2_) | with_reducible exact H | (rw [hy436]; exact H) | exact H
             have Ny436 := zad.mk hy436
             clear hy436
             by_cases c54 : y436.length + t427.length < 4398046511104
             ·rw [if_pos c54] at H
              have LMc54 := zad.mk c54
              clear c54
              obtain ⟨y439, hy439⟩ : ∃ y_ : List (S33), y_ = (y436 ++ t427) := ⟨_, rfl⟩
              replace H : ((za5.f kj44 y439 (l1.length : Int)).bind fun bt442 => ((zcm.f l0 bt442.1).bind fun bt447 => (if bt442.2.2 = 0 then (if bt447.2 = 0 then (if bt447.1 = true then (zae.j3 kj44 l1 y439 bt442.1 bt442.2.1 (bt442.2.1 != (y439.length : Int)) a2_0 a2_1 a2_2) else (zae.j3 kj44 l1 y439 bt442.1 bt442.2.1 true a2_0 a2_1 a2_2)) else (zae.j3 kj44 l1 y439 bt442.1 bt442.2.1 true a2_0 a2_1 a2_2)) else (zae.j3 kj44 l1 y439 bt442.1 bt442.2.1 true a2_0 a2_1 a2_2)))) = some r := by first | (rw [hy439]; with_reducible exact H) | (have H2_ := (Option.bind_some _ _).symm.trans H; rw [hy439]; with_reducible exact H2_) | (have H2_ := (Option.bind_some _ _).symm.trans H; with_reducible exact H2_) | with_reducible exact H | (rw [hy439]; exact H) | exact H
              have Ny439 := zad.mk hy439
              clear hy439
              replace H := Option.bind_eq_some_iff.mp H
              obtain ⟨⟨t442, t443, t444⟩, A550, H⟩ := H
              replace H : ((zcm.f l0 t442).bind fun bt447 => (if t444 = 0 then (if bt447.2 = 0 then (if bt447.1 = true then (zae.j3 kj44 l1 y439 t442 t443 (t443 != (y439.length : Int)) a2_0 a2_1 a2_2) else (zae.j3 kj44 l1 y439 t442 t443 true a2_0 a2_1 a2_2)) else (zae.j3 kj44 l1 y439 t442 t443 true a2_0 a2_1 a2_2)) else (zae.j3 kj44 l1 y439 t442 t443 true a2_0 a2_1 a2_2))) = some r := H
              have A55 := zad.mk A550
              clear A550
              replace H := Option.bind_eq_some_iff.mp H
              obtain ⟨⟨t447, t448⟩, A560, H⟩ := H
              replace H : (if t444 = 0 then (if t448 = 0 then (if t447 = true then (zae.j3 kj44 l1 y439 t442 t443 (t443 != (y439.length : Int)) a2_0 a2_1 a2_2) else (zae.j3 kj44 l1 y439 t442 t443 true a2_0 a2_1 a2_2)) else (zae.j3 kj44 l1 y439 t442 t443 true a2_0 a2_1 a2_2)) else (zae.j3 kj44 l1 y439 t442 t443 true a2_0 a2_1 a2_2)) = some r := H
              have A56 := zad.mk A560
              clear A560
              have HC57 := zad.mk H
              clear H
              go_upto_region 12 with (first | ((with_reducible refine zbw (N := 81) rfl ?_); (try (refine zbo (by rfl) ?_; dsimp only)); refine Kd.R_lit k33 _ 33 ?hg (N := 81) ?hd (xs := ([] : List (S33))) (inner := []) (ok := fun _ => True) (okp := fun _ => True) ?hr ?hp (fun _ hk => hk) trivial (Below.refl _ _) (Nat.le_refl _) (by simp) ?_; (case hd => rfl); (case hg => rfl); (case hr => first | (go_simp; done) | (go_simp; rfl)); (case hp => exact (Reps.none _ _)); intro v434 w58 ho59 hb hg_ hnew_; clear hg_ hnew_; (first | rw [← Ny433.out] at ho59 | (simp only [Int.reduceToNat] at ho59; rw [← Ny433.out] at ho59)); have n0_ := zad.mk (Kd.zct (by (with_reducible repeat (first | apply Kd.zan | apply Kd.zaq | apply Kd.zaw)); exact HO_9.out) (Kd.zd9 ho59) hb); have n1_ := zad.mk (Kd.zbq (Kd.zed (Kd.zea ho59 (Kd.R_lt (by (with_reducible repeat (first | apply Kd.zan | apply Kd.zaq | apply Kd.zaw)); exact HO_9.out))) (g := gb407) (o := .cells #[.int .u8 a2_0, .string a2_1, .int .i64 a2_2] 33 (0, 0)) (by (with_reducible repeat (first | refine zas ?_ _ | refine zat ?_ | refine zar ?_ _)); exact BK407.out)) (zao (by repeat (first | (with_reducible first | exact HB.out | apply zab | apply zaa | apply zac | refine zaj ?_ GE407.out) | exact HB.out)))); have n2_ := zad.mk (zbg (g := gb407) (o := .cells #[.int .u8 a2_0, .string a2_1, .int .i64 a2_2] 33 (0, 0)) (by (with_reducible repeat (first | refine zas ?_ _ | refine zat ?_ | refine zar ?_ _)); exact BK407.out) hb); have n3_ := zad.mk (zah (by repeat (first | (with_reducible first | exact HB.out | apply zab | apply zaa | apply zac | refine zaj ?_ GE407.out) | exact HB.out)) hb); clear HO_9; clear BK407; clear HB; have HO_9 := n0_; have HO435 := n1_; have BK407 := n2_; have HB := n3_; clear n0_ n1_ n2_ n3_; clear hb ho59) | ((with_reducible refine zbb (b := .append) (xs := #[.tmp 81, .tmp 82]) rfl ?_); (try (refine zbo (by rfl) ?_; dsimp only)); at_builtin; refine Kd.zch k33 (w0 := w) w.heap.size rfl (.tmp 81) (.tmp 82) 25 33 (.agg #[(.int .u8 0), (.string ⟨#[]⟩), (.int .i64 0)]) 32 rfl Tryz.underlying25 info33 rfl (by decide) (by omega) v434 y433 l1 _ _ _ (fun k_ => some k_ ≠ (v430 : Value).ownBlock ∧ k_ ≠ gb407) (fun _ => False) rfl rfl ?aO ?aR (fun _ _ h => h) (fun _ h => h.elim) ?aF ?aB ?aS ?aL ?_; (case aR => repeat (first | exact (Kd.zb7 HR1.out HB.out) | (with_reducible refine Kd.zbu ?_ _) | (with_reducible refine Kd.zbv ?_ _) | (with_reducible refine Kd.zb4 ?_))); (case aB => exact (by repeat (first | (with_reducible first | exact HB.out | apply zab | apply zaa | apply zac | refine zaj ?_ GE407.out) | exact HB.out))); (case aF => exact (fun k_ hk => ⟨Kd.fresh' (Kd.R_lt (by (with_reducible repeat (first | apply Kd.zan | apply Kd.zaq | apply Kd.zaw)); exact HO_9.out)) k_ hk, Kd.freshB (g := gb407) (o := .cells #[.int .u8 a2_0, .string a2_1, .int .i64 a2_2] 33 (0, 0)) (by (with_reducible repeat (first | refine zas ?_ _ | refine zat ?_ | refine zar ?_ _)); exact BK407.out) k_ hk⟩)); (case aO => exact (by (with_reducible repeat (first | apply Kd.zan | apply Kd.zaq | apply Kd.zaw)); exact Kd.zbr HO435.out (fun _ hk => ⟨hk.1.2, hk.2⟩))); (case aS => exact (zao (by repeat (first | (with_reducible first | exact HB.out | apply zab | apply zaa | apply zac | refine zaj ?_ GE407.out) | exact HB.out)))); (case aL => have := LMc53.out; omega); intro v437 w60 ho hb hg hat; rw [← Ny436.out] at ho; have n0_ := zad.mk (Kd.zb8 (ok := (fun k_ => k_ ≠ gb407)) (by (with_reducible repeat (first | apply Kd.zan | apply Kd.zaq | apply Kd.zaw)); exact HO_9.out) hg hat); have n1_ := zad.mk (zb5 (g := gb407) (o := .cells #[.int .u8 a2_0, .string a2_1, .int .i64 a2_2] 33 (0, 0)) (by (with_reducible repeat (first | refine zas ?_ _ | refine zat ?_ | refine zar ?_ _)); exact BK407.out) hg (Kd.zdz HO435.out (fun _ hk => hk.2))); have n2_ := zad.mk (hb); have n3_ := zad.mk (ho); clear HO_9; clear BK407; clear HB; clear HO435; have HO_9 := n0_; have BK407 := n1_; have HB := n2_; have HO438 := n3_; clear n0_ n1_ n2_ n3_; clear ho hb hg hat; obtain ⟨Ao62, co62, eo62⟩ := Kd.zbm HO_9.out; subst eo62) | ((with_reducible refine zbb (b := .append) (xs := #[.tmp 83, .tmp 84]) rfl ?_); (try (refine zbo (by rfl) ?_; dsimp only)); at_builtin; refine Kd.zch k33 (w0 := w) w.heap.size rfl (.tmp 83) (.tmp 84) 25 33 (.agg #[(.int .u8 0), (.string ⟨#[]⟩), (.int .i64 0)]) 32 rfl Tryz.underlying25 info33 rfl (by decide) (by omega) v437 y436 t427 _ _ _ (fun k_ => some k_ ≠ (.slice Ao62 t427.length co62 : Value).ownBlock ∧ k_ ≠ gb407) (fun _ => False) rfl rfl ?aO ?aR (fun _ _ h => h) (fun _ h => h.elim) ?aF ?aB ?aS ?aL ?_; (case aR => repeat (first | exact (Kd.za3 HO_9.out).2.2 | (with_reducible refine Kd.zbu ?_ _) | (with_reducible refine Kd.zbv ?_ _) | (with_reducible refine Kd.zb4 ?_))); (case aB => exact (by repeat (first | (with_reducible first | exact HB.out | apply zab | apply zaa | apply zac | refine zaj ?_ GE407.out) | exact HB.out))); (case aF => exact (fun k_ hk => ⟨Kd.fresh' (Kd.R_lt (by (with_reducible repeat (first | apply Kd.zan | apply Kd.zaq | apply Kd.zaw)); exact HO_9.out)) k_ hk, Kd.freshB (g := gb407) (o := .cells #[.int .u8 a2_0, .string a2_1, .int .i64 a2_2] 33 (0, 0)) (by (with_reducible repeat (first | refine zas ?_ _ | refine zat ?_ | refine zar ?_ _)); exact BK407.out) k_ hk⟩)); (case aO => exact (by (with_reducible repeat (first | apply Kd.zan | apply Kd.zaq | apply Kd.zaw)); exact HO438.out)); (case aS => exact (zao (by repeat (first | (with_reducible first | exact HB.out | apply zab | apply zaa | apply zac | refine zaj ?_ GE407.out) | exact HB.out)))); (case aL => have := LMc54.out; omega); intro v440 w61 ho hb hg hat; rw [← Ny439.out] at ho; have n0_ := zad.mk (Kd.zb8 (ok := (fun k_ => k_ ≠ gb407)) (by (with_reducible repeat (first | apply Kd.zan | apply Kd.zaq | apply Kd.zaw)); exact HO_9.out) hg hat); have n1_ := zad.mk (zb5 (g := gb407) (o := .cells #[.int .u8 a2_0, .string a2_1, .int .i64 a2_2] 33 (0, 0)) (by (with_reducible repeat (first | refine zas ?_ _ | refine zat ?_ | refine zar ?_ _)); exact BK407.out) hg (Kd.zdz HO438.out (fun _ hk => hk.2))); have n2_ := zad.mk (hb); have n3_ := zad.mk (ho); clear HO_9; clear BK407; clear HB; clear HO438; have HO_9 := n0_; have BK407 := n1_; have HB := n2_; have HO441 := n3_; clear n0_ n1_ n2_ n3_; clear ho hb hg hat; obtain ⟨Ao63, co63, eo63⟩ := Kd.zbm HO441.out; subst eo63) | ((with_reducible refine zav (f := 10) rfl ?_); refine zbl (some 90) rfl rfl Tryz.func10 (by kernel_rfl) rfl #[.slice Ao63 y439.length co63, .int .i64 (l1.length : Int)] rfl (by (try simp only [List.map_toArray, List.map_cons, List.map_nil]); first | done | rfl | (simp only [List.length_drop, List.length_take]; rfl)) ?_; (with_reducible refine (za5.calls kj44 _ _ y439 (l1.length : Int) t442 t443 t444 _ ?side1 ?side2 ?side3 A55.out).mono ?_); (case side1 => repeat (first | exact (Kd.za3 HO441.out).2.2 | (with_reducible refine Kd.zbu ?_ _) | (with_reducible refine Kd.zbv ?_ _) | (with_reducible refine Kd.zb4 ?_))); (case side2 => exact (Kd.za3 HO441.out).2.1); (case side3 => exact Tabs.below hT (by repeat (first | (with_reducible first | exact HB.out | apply zab | apply zaa | apply zac | refine zaj ?_ GE407.out) | exact HB.out))); rintro e w64 ⟨v445, rfl, ho0, hb⟩; refine ⟨_, rfl, ?_⟩; have n0_ := zad.mk (Kd.zbk (by (with_reducible repeat (first | apply Kd.zan | apply Kd.zaq | apply Kd.zaw)); exact HO_9.out) hb); have n1_ := zad.mk (Kd.zbk (by (with_reducible repeat (first | apply Kd.zan | apply Kd.zaq | apply Kd.zaw)); exact HO441.out) hb); have n2_ := zad.mk (Kd.zbq ho0 (zao (by repeat (first | (with_reducible first | exact HB.out | apply zab | apply zaa | apply zac | refine zaj ?_ GE407.out) | exact HB.out)))); have n3_ := zad.mk (zbg (g := gb407) (o := .cells #[.int .u8 a2_0, .string a2_1, .int .i64 a2_2] 33 (0, 0)) (by (with_reducible repeat (first | refine zas ?_ _ | refine zat ?_ | refine zar ?_ _)); exact BK407.out) hb); have n4_ := zad.mk (zah (by repeat (first | (with_reducible first | exact HB.out | apply zab | apply zaa | apply zac | refine zaj ?_ GE407.out) | exact HB.out)) hb); clear HO_9; clear HO441; clear BK407; clear HB; have HO_9 := n0_; have HO441 := n1_; have HO446 := n2_; have BK407 := n3_; have HB := n4_; clear n0_ n1_ n2_ n3_ n4_; (try clear hb); (try clear hb2); (try clear hk); (try clear hi); (try clear ho0); obtain ⟨Ao65, co65, eo65⟩ := Kd.zbm HO446.out; subst eo65) | ((with_reducible refine zav (f := 19) rfl ?_); refine zbl (some 97) rfl rfl Tryz.func19 (by kernel_rfl) rfl #[.slice A0 l0.length c0, .slice Ao65 t442.length co65] rfl (by (try simp only [List.map_toArray, List.map_cons, List.map_nil]); first | done | rfl | (simp only [List.length_drop, List.length_take]; rfl)) ?_; (with_reducible refine (zcm.calls _ _ l0 _ _ t442 t447 t448 _ ?side1 ?side2 ?side3 ?side4 A56.out).mono ?_); (case side1 => repeat (first | exact (Kd.zb7 HR0.out HB.out) | (with_reducible refine Kd.zbu ?_ _) | (with_reducible refine Kd.zbv ?_ _) | (with_reducible refine Kd.zb4 ?_))); (case side2 => exact HC0.out); (case side3 => repeat (first | exact (Kd.za3 HO446.out).2.2 | (with_reducible refine Kd.zbu ?_ _) | (with_reducible refine Kd.zbv ?_ _) | (with_reducible refine Kd.zb4 ?_))); (case side4 => exact (Kd.za3 HO446.out).2.1); rintro e w66 ⟨rfl, hb⟩; refine ⟨_, rfl, ?_⟩; have n0_ := zad.mk (Kd.zbk (by (with_reducible repeat (first | apply Kd.zan | apply Kd.zaq | apply Kd.zaw)); exact HO_9.out) hb); have n1_ := zad.mk (Kd.zbk (by (with_reducible repeat (first | apply Kd.zan | apply Kd.zaq | apply Kd.zaw)); exact HO441.out) hb); have n2_ := zad.mk (Kd.zbk (by (with_reducible repeat (first | apply Kd.zan | apply Kd.zaq | apply Kd.zaw)); exact HO446.out) hb); have n3_ := zad.mk (zbg (g := gb407) (o := .cells #[.int .u8 a2_0, .string a2_1, .int .i64 a2_2] 33 (0, 0)) (by (with_reducible repeat (first | refine zas ?_ _ | refine zat ?_ | refine zar ?_ _)); exact BK407.out) hb); have n4_ := zad.mk (zah (by repeat (first | (with_reducible first | exact HB.out | apply zab | apply zaa | apply zac | refine zaj ?_ GE407.out) | exact HB.out)) hb); clear HO_9; clear HO441; clear HO446; clear BK407; clear HB; have HO_9 := n0_; have HO441 := n1_; have HO446 := n2_; have BK407 := n3_; have HB := n4_; clear n0_ n1_ n2_ n3_ n4_; (try clear hb); (try clear hb2); (try clear hk); (try clear hi)))
              (try simp only [Act.put, List.setIfInBounds_toArray, List.set_cons_zero, List.set_cons_succ])
              go_cut [115] (fun v115 wc => ∃ (kq : Nat) (x115_56 : Bool), v115 = .bool x115_56 ∧ zad (zae.j3 kq l1 y439 t442 t443 x115_56 a2_0 a2_1 a2_2 = some r) ∧ zad (kq ≤ kj44) ∧ zad (Kd.R k33 33 wc w.heap.size (fun k_ => k_ ≠ gb407) (.slice Ao63 y439.length co63) y439) ∧ zad (Kd.R k43 43 wc w.heap.size (fun _ => True) (.slice Ao65 t442.length co65) t442) ∧ zad (wc.heap[gb407]? = some (.cells #[.int .u8 a2_0, .string a2_1, .int .i64 a2_2] 33 (0, 0))) ∧ zad (Below w.heap.size w wc))
              case first =>
               have H := HC57.out
               clear HC57
               by_cases c67 : t444 = 0
               ·rw [if_pos c67] at H
                have c67b0 : (t444 == 0) = true := beq_iff_eq.mpr c67
                have c67b1 : (t444 != 0) = false := bne_eq_false_iff_eq.mpr c67
                clear c67
                (first | rw [c67b0] | (simp only [i64_w, i32_w]; rw [c67b0]) | skip)
                by_cases c68 : t448 = 0
                ·rw [if_pos c68] at H
                 have c68b0 : (t448 == 0) = true := beq_iff_eq.mpr c68
                 have c68b1 : (t448 != 0) = false := bne_eq_false_iff_eq.mpr c68
                 clear c68
                 by_cases c69 : t447 = true
                 ·subst c69
                  have H1 : (zae.j3 kj44 l1 y439 t442 t443 (t443 != (y439.length : Int)) a2_0 a2_1 a2_2) = some r := by rw [if_pos rfl] at H; exact H
                  clear H
                  have H := H1
                  clear H1
                  have H' := zad.mk H
                  clear H
                  go_wp2
                  go_meet
                  case rel => exact ⟨_, ((t443 != (y439.length : Int))), (by first | rfl | (simp; done) | (simp [*]; done)), H', ⟨by have := HJ3.out; have := HJ34.out; have := HJ44.out; first | omega | exact Nat.le_refl _⟩, ⟨by (with_reducible repeat (first | apply Kd.zan | apply Kd.zaq | apply Kd.zaw)); exact Kd.zbr HO441.out (fun _ hk => hk.2)⟩, ⟨by (with_reducible repeat (first | apply Kd.zan | apply Kd.zaq | apply Kd.zaw)); exact HO446.out⟩, ⟨by (with_reducible repeat (first | refine zas ?_ _ | refine zat ?_ | refine zar ?_ _)); exact BK407.out⟩, ⟨by repeat (first | (with_reducible first | exact HB.out | apply zab | apply zaa | apply zac | refine zaj ?_ GE407.out) | exact HB.out)⟩⟩
                 ·replace c69 := Bool.eq_false_iff.mpr c69
                  subst c69
                  have H1 : (zae.j3 kj44 l1 y439 t442 t443 true a2_0 a2_1 a2_2) = some r := by rw [if_neg (show ¬ (false = true) by decide)] at H; exact H
                  clear H
                  have H := H1
                  clear H1
                  have H' := zad.mk H
                  clear H
                  go_wp2
                  go_meet
                  case rel => exact ⟨_, (true), (by first | rfl | (simp; done) | (simp [*]; done)), H', ⟨by have := HJ3.out; have := HJ34.out; have := HJ44.out; first | omega | exact Nat.le_refl _⟩, ⟨by (with_reducible repeat (first | apply Kd.zan | apply Kd.zaq | apply Kd.zaw)); exact Kd.zbr HO441.out (fun _ hk => hk.2)⟩, ⟨by (with_reducible repeat (first | apply Kd.zan | apply Kd.zaq | apply Kd.zaw)); exact HO446.out⟩, ⟨by (with_reducible repeat (first | refine zas ?_ _ | refine zat ?_ | refine zar ?_ _)); exact BK407.out⟩, ⟨by repeat (first | (with_reducible first | exact HB.out | apply zab | apply zaa | apply zac | refine zaj ?_ GE407.out) | exact HB.out)⟩⟩
                ·rw [if_neg c68] at H
                 have c68b0 : (t448 == 0) = false := beq_eq_false_iff_ne.mpr c68
                 have c68b1 : (t448 != 0) = true := bne_iff_ne.mpr c68
                 have H' := zad.mk H
                 clear H
                 go_wp2
                 go_meet
                 case rel => exact ⟨_, (true), (by first | rfl | (simp; done) | (simp [*]; done)), H', ⟨by have := HJ3.out; have := HJ34.out; have := HJ44.out; first | omega | exact Nat.le_refl _⟩, ⟨by (with_reducible repeat (first | apply Kd.zan | apply Kd.zaq | apply Kd.zaw)); exact Kd.zbr HO441.out (fun _ hk => hk.2)⟩, ⟨by (with_reducible repeat (first | apply Kd.zan | apply Kd.zaq | apply Kd.zaw)); exact HO446.out⟩, ⟨by (with_reducible repeat (first | refine zas ?_ _ | refine zat ?_ | refine zar ?_ _)); exact BK407.out⟩, ⟨by repeat (first | (with_reducible first | exact HB.out | apply zab | apply zaa | apply zac | refine zaj ?_ GE407.out) | exact HB.out)⟩⟩
               ·rw [if_neg c67] at H
                have c67b0 : (t444 == 0) = false := beq_eq_false_iff_ne.mpr c67
                have c67b1 : (t444 != 0) = true := bne_iff_ne.mpr c67
                (first | rw [c67b0] | (simp only [i64_w, i32_w]; rw [c67b0]) | skip)
                have H' := zad.mk H
                clear H
                go_wp2
                go_meet
                case rel => exact ⟨_, (true), (by first | rfl | (simp; done) | (simp [*]; done)), H', ⟨by have := HJ3.out; have := HJ34.out; have := HJ44.out; first | omega | exact Nat.le_refl _⟩, ⟨by (with_reducible repeat (first | apply Kd.zan | apply Kd.zaq | apply Kd.zaw)); exact Kd.zbr HO441.out (fun _ hk => hk.2)⟩, ⟨by (with_reducible repeat (first | apply Kd.zan | apply Kd.zaq | apply Kd.zaw)); exact HO446.out⟩, ⟨by (with_reducible repeat (first | refine zas ?_ _ | refine zat ?_ | refine zar ?_ _)); exact BK407.out⟩, ⟨by repeat (first | (with_reducible first | exact HB.out | apply zab | apply zaa | apply zac | refine zaj ?_ GE407.out) | exact HB.out)⟩⟩
              case rest =>
               clear HC57
               try clear c1
               try clear p2
               try clear c3
               try clear c4
               try clear c5
               try clear c6
               try clear c9
               try clear c10
               try clear c10b0
               try clear c10b1
               try clear c11
               try clear c12
               try clear c14
               try clear c15
               try clear c17
               try clear c18
               try clear c19
               try clear c31
               try clear c37
               try clear c37b0
               try clear c37b1
               try clear c38
               try clear c39
               try clear c39b0
               try clear c39b1
               try clear c42
               try clear c42b0
               try clear c42b1
               try clear c42b2
               try clear c43
               try clear c43b0
               try clear c43b1
               try clear c43b2
               try clear c47
               try clear c47b0
               try clear c47b1
               try clear c49
               try clear c50
               try clear c50b0
               try clear c50b1
               try clear c53
               try clear c54
               try clear c67
               try clear c67b0
               try clear c67b1
               try clear c68
               try clear c68b0
               try clear c68b1
               try clear c69
               try clear p2
               obtain ⟨kq, x115_56, rfl, HA, HJ56, HO_12, HO_13, BK407, HB⟩ := hcut
               cases kq with
               | zero => exact absurd HA.out (by simp [zae.j3])
               | succ kj56 =>
                have H := HA.out
                clear HA
                simp only [zae.j3] at H
                by_cases c70 : x115_56 = true
                ·subst c70
                 have H1 : (some false) = some r := by rw [if_pos rfl] at H; exact H
                 clear H
                 have H := H1
                 clear H1
                 obtain rfl := Option.some.inj H
                 go_wp2
                 go_ret
                 exact ⟨by first | rfl | (simp [zak, zal] <;> rfl) | (simp [*, zak, zal] <;> rfl), by repeat (first | (with_reducible first | exact HB.out | apply zab | apply zaa | apply zac | refine zaj ?_ GE407.out) | exact HB.out)⟩
                ·replace c70 := Bool.eq_false_iff.mpr c70
                 subst c70
                 have H1 : (if a2_0 = 1 then (zae.j4 kj56 l1 y439 t442 t443 true a2_0 a2_1 a2_2) else (if a2_1.toList = ([107] : List UInt8) then (zae.j4 kj56 l1 y439 t442 t443 true a2_0 a2_1 a2_2) else (if a2_1.toList = ([41] : List UInt8) then (zae.j4 kj56 l1 y439 t442 t443 true a2_0 a2_1 a2_2) else (zae.j4 kj56 l1 y439 t442 t443 (a2_1.toList == ([40] : List UInt8)) a2_0 a2_1 a2_2)))) = some r := by rw [if_neg (show ¬ (false = true) by decide)] at H; exact H
                 clear H
                 have H := H1
                 clear H1
                 have HC71 := zad.mk H
                 clear H
                 go_upto_region 14 with (fail)
                 go_cut [133] (fun v133 wc => ∃ (kq : Nat) (x133_70 : Bool), v133 = .bool x133_70 ∧ zad (zae.j4 kq l1 y439 t442 t443 x133_70 a2_0 a2_1 a2_2 = some r) ∧ zad (kq ≤ kj56) ∧ zad (Kd.R k33 33 wc w.heap.size (fun k_ => k_ ≠ gb407) (.slice Ao63 y439.length co63) y439) ∧ zad (Kd.R k43 43 wc w.heap.size (fun _ => True) (.slice Ao65 t442.length co65) t442) ∧ zad (wc.heap[gb407]? = some (.cells #[.int .u8 a2_0, .string a2_1, .int .i64 a2_2] 33 (0, 0))) ∧ zad (Below w.heap.size w wc))
                 case first =>
                  have H := HC71.out
                  clear HC71
                  by_cases c72 : a2_0 = 1
                  ·rw [if_pos c72] at H
                   have c72b0 : (a2_0 == 1) = true := beq_iff_eq.mpr c72
                   have c72b1 : (a2_0 != 1) = false := bne_eq_false_iff_eq.mpr c72
                   clear c72
                   (first | rw [c72b0] | (simp only [i64_w, i32_w]; rw [c72b0]) | skip)
                   have H' := zad.mk H
                   clear H
                   have hcz73_0 : wc.cell? ⟨gb407, 0, none⟩ = some (.int .u8 a2_0) := (zai BK407.out 0).trans rfl
                   have hcz73_1 : wc.cell? ⟨gb407, 1, none⟩ = some (.string a2_1) := (zai BK407.out 1).trans rfl
                   have hcz73_2 : wc.cell? ⟨gb407, 2, none⟩ = some (.int .i64 a2_2) := (zai BK407.out 2).trans rfl
                   have hfz73_0 := zaf BK407.out 0
                   have hfz73_1 := zaf BK407.out 1
                   have hfz73_2 := zaf BK407.out 2
                   go_wp2
                   go_meet
                   case rel => exact ⟨_, (true), (by first | rfl | (simp; done) | (simp [*]; done)), H', ⟨by have := HJ3.out; have := HJ34.out; have := HJ44.out; have := HJ56.out; first | omega | exact Nat.le_refl _⟩, ⟨by (with_reducible repeat (first | apply Kd.zan | apply Kd.zaq | apply Kd.zaw)); exact HO_12.out⟩, ⟨by (with_reducible repeat (first | apply Kd.zan | apply Kd.zaq | apply Kd.zaw)); exact HO_13.out⟩, ⟨by (with_reducible repeat (first | refine zas ?_ _ | refine zat ?_ | refine zar ?_ _)); exact BK407.out⟩, ⟨by repeat (first | (with_reducible first | exact HB.out | apply zab | apply zaa | apply zac | refine zaj ?_ GE407.out) | exact HB.out)⟩⟩
                  ·rw [if_neg c72] at H
                   have c72b0 : (a2_0 == 1) = false := beq_eq_false_iff_ne.mpr c72
                   have c72b1 : (a2_0 != 1) = true := bne_iff_ne.mpr c72
                   (first | rw [c72b0] | (simp only [i64_w, i32_w]; rw [c72b0]) | skip)
                   by_cases c74 : a2_1.toList = ([107] : List UInt8)
                   ·rw [if_pos c74] at H
                    have c74b0 : (a2_1.toList == ([107] : List UInt8)) = true := beq_iff_eq.mpr c74
                    have c74b1 : (a2_1.toList != ([107] : List UInt8)) = false := bne_eq_false_iff_eq.mpr c74
                    clear c74
                    have H' := zad.mk H
                    clear H
                    have hcz75_0 : wc.cell? ⟨gb407, 0, none⟩ = some (.int .u8 a2_0) := (zai BK407.out 0).trans rfl
                    have hcz75_1 : wc.cell? ⟨gb407, 1, none⟩ = some (.string a2_1) := (zai BK407.out 1).trans rfl
                    have hcz75_2 : wc.cell? ⟨gb407, 2, none⟩ = some (.int .i64 a2_2) := (zai BK407.out 2).trans rfl
                    have hfz75_0 := zaf BK407.out 0
                    have hfz75_1 := zaf BK407.out 1
                    have hfz75_2 := zaf BK407.out 2
                    go_wp2
                    go_meet
                    case rel => exact ⟨_, (true), (by first | rfl | (simp; done) | (simp [*]; done)), H', ⟨by have := HJ3.out; have := HJ34.out; have := HJ44.out; have := HJ56.out; first | omega | exact Nat.le_refl _⟩, ⟨by (with_reducible repeat (first | apply Kd.zan | apply Kd.zaq | apply Kd.zaw)); exact HO_12.out⟩, ⟨by (with_reducible repeat (first | apply Kd.zan | apply Kd.zaq | apply Kd.zaw)); exact HO_13.out⟩, ⟨by (with_reducible repeat (first | refine zas ?_ _ | refine zat ?_ | refine zar ?_ _)); exact BK407.out⟩, ⟨by repeat (first | (with_reducible first | exact HB.out | apply zab | apply zaa | apply zac | refine zaj ?_ GE407.out) | exact HB.out)⟩⟩
                   ·rw [if_neg c74] at H
                    have c74b0 : (a2_1.toList == ([107] : List UInt8)) = false := beq_eq_false_iff_ne.mpr c74
                    have c74b1 : (a2_1.toList != ([107] : List UInt8)) = true := bne_iff_ne.mpr c74
                    by_cases c76 : a2_1.toList = ([41] : List UInt8)
                    ·rw [if_pos c76] at H
                     have c76b0 : (a2_1.toList == ([41] : List UInt8)) = true := beq_iff_eq.mpr c76
                     have c76b1 : (a2_1.toList != ([41] : List UInt8)) = false := bne_eq_false_iff_eq.mpr c76
                     clear c76
                     have H' := zad.mk H
                     clear H
                     have hcz77_0 : wc.cell? ⟨gb407, 0, none⟩ = some (.int .u8 a2_0) := (zai BK407.out 0).trans rfl
                     have hcz77_1 : wc.cell? ⟨gb407, 1, none⟩ = some (.string a2_1) := (zai BK407.out 1).trans rfl
                     have hcz77_2 : wc.cell? ⟨gb407, 2, none⟩ = some (.int .i64 a2_2) := (zai BK407.out 2).trans rfl
                     have hfz77_0 := zaf BK407.out 0
                     have hfz77_1 := zaf BK407.out 1
                     have hfz77_2 := zaf BK407.out 2
                     go_wp2
                     go_meet
                     case rel => exact ⟨_, (true), (by first | rfl | (simp; done) | (simp [*]; done)), H', ⟨by have := HJ3.out; have := HJ34.out; have := HJ44.out; have := HJ56.out; first | omega | exact Nat.le_refl _⟩, ⟨by (with_reducible repeat (first | apply Kd.zan | apply Kd.zaq | apply Kd.zaw)); exact HO_12.out⟩, ⟨by (with_reducible repeat (first | apply Kd.zan | apply Kd.zaq | apply Kd.zaw)); exact HO_13.out⟩, ⟨by (with_reducible repeat (first | refine zas ?_ _ | refine zat ?_ | refine zar ?_ _)); exact BK407.out⟩, ⟨by repeat (first | (with_reducible first | exact HB.out | apply zab | apply zaa | apply zac | refine zaj ?_ GE407.out) | exact HB.out)⟩⟩
                    ·rw [if_neg c76] at H
                     have c76b0 : (a2_1.toList == ([41] : List UInt8)) = false := beq_eq_false_iff_ne.mpr c76
                     have c76b1 : (a2_1.toList != ([41] : List UInt8)) = true := bne_iff_ne.mpr c76
                     have H' := zad.mk H
                     clear H
                     have hcz78_0 : wc.cell? ⟨gb407, 0, none⟩ = some (.int .u8 a2_0) := (zai BK407.out 0).trans rfl
                     have hcz78_1 : wc.cell? ⟨gb407, 1, none⟩ = some (.string a2_1) := (zai BK407.out 1).trans rfl
                     have hcz78_2 : wc.cell? ⟨gb407, 2, none⟩ = some (.int .i64 a2_2) := (zai BK407.out 2).trans rfl
                     have hfz78_0 := zaf BK407.out 0
                     have hfz78_1 := zaf BK407.out 1
                     have hfz78_2 := zaf BK407.out 2
                     go_wp2
                     go_meet
                     case rel => exact ⟨_, ((a2_1.toList == ([40] : List UInt8))), (by first | rfl | (simp; done) | (simp [*]; done)), H', ⟨by have := HJ3.out; have := HJ34.out; have := HJ44.out; have := HJ56.out; first | omega | exact Nat.le_refl _⟩, ⟨by (with_reducible repeat (first | apply Kd.zan | apply Kd.zaq | apply Kd.zaw)); exact HO_12.out⟩, ⟨by (with_reducible repeat (first | apply Kd.zan | apply Kd.zaq | apply Kd.zaw)); exact HO_13.out⟩, ⟨by (with_reducible repeat (first | refine zas ?_ _ | refine zat ?_ | refine zar ?_ _)); exact BK407.out⟩, ⟨by repeat (first | (with_reducible first | exact HB.out | apply zab | apply zaa | apply zac | refine zaj ?_ GE407.out) | exact HB.out)⟩⟩
                 case rest =>
                  clear HC71
                  try clear c1
                  try clear p2
                  try clear c3
                  try clear c4
                  try clear c5
                  try clear c6
                  try clear c7
                  try clear c9
                  try clear c10
                  try clear c10b0
                  try clear c10b1
                  try clear c11
                  try clear c12
                  try clear c14
                  try clear c15
                  try clear c17
                  try clear c18
                  try clear c19
                  try clear c31
                  try clear c37
                  try clear c37b0
                  try clear c37b1
                  try clear c38
                  try clear c39
                  try clear c39b0
                  try clear c39b1
                  try clear c42
                  try clear c42b0
                  try clear c42b1
                  try clear c42b2
                  try clear c43
                  try clear c43b0
                  try clear c43b1
                  try clear c43b2
                  try clear c47
                  try clear c47b0
                  try clear c47b1
                  try clear c49
                  try clear c50
                  try clear c50b0
                  try clear c50b1
                  try clear c53
                  try clear c54
                  try clear c67
                  try clear c67b0
                  try clear c67b1
                  try clear c68
                  try clear c68b0
                  try clear c68b1
                  try clear c69
                  try clear c70
                  try clear c72
                  try clear c72b0
                  try clear c72b1
                  try clear c74
                  try clear c74b0
                  try clear c74b1
                  try clear c76
                  try clear c76b0
                  try clear c76b1
                  try clear hcz73_0
                  try clear hcz73_1
                  try clear hcz73_2
                  try clear hcz75_0
                  try clear hcz75_1
                  try clear hcz75_2
                  try clear hcz77_0
                  try clear hcz77_1
                  try clear hcz77_2
                  try clear hcz78_0
                  try clear hcz78_1
                  try clear hcz78_2
                  try clear hfz73_0
                  try clear hfz73_1
                  try clear hfz73_2
                  try clear hfz75_0
                  try clear hfz75_1
                  try clear hfz75_2
                  try clear hfz77_0
                  try clear hfz77_1
                  try clear hfz77_2
                  try clear hfz78_0
                  try clear hfz78_1
                  try clear hfz78_2
                  try clear p2
                  obtain ⟨kq, x133_70, rfl, HA, HJ70, HO_12, HO_13, BK407, HB⟩ := hcut
                  cases kq with
                  | zero => exact absurd HA.out (by simp [zae.j4])
                  | succ kj70 =>
                   have H := HA.out
                   clear HA
                   simp only [zae.j4] at H
                   by_cases c79 : x133_70 = true
                   ·subst c79
                    have H1 : ((some (([(⟨a2_0, a2_1, a2_2⟩ : S33)] : List (S33)) : List (S33))).bind fun y449 => (if y439.length + y449.length < 4398046511104 then ((za5.f kj70 (y439 ++ y449) (l1.length : Int)).bind fun bt455 => (if bt455.2.2 = 0 then (if bt455.2.1 = t443 then ((za7.f kj70 t442 bt455.1).bind fun t460 => (if t460 = true then ((zaz.f kj70).bind fun t461 => (some t461)) else (some false))) else (some false)) else (some false))) else (none))) = some r := by rw [if_pos rfl] at H; exact H
                    clear H
                    have H := H1
                    clear H1
                    obtain ⟨y449, hy449⟩ : ∃ y_ : List (S33), y_ = (([(⟨a2_0, a2_1, a2_2⟩ : S33)] : List (S33))) := ⟨_, rfl⟩
                    replace H : (if y439.length + y449.length < 4398046511104 then ((za5.f kj70 (y439 ++ y449) (l1.length : Int)).bind fun bt455 => (if bt455.2.2 = 0 then (if bt455.2.1 = t443 then ((za7.f kj70 t442 bt455.1).bind fun t460 => (if t460 = true then ((zaz.f kj70).bind fun t461 => (some t461)) else (some false))) else (some false)) else (some false))) else (none)) = some r := by first | (rw [hy449]; with_reducible exact H) | (have H2_ := (Option.bind_some _ _).symm.trans H; rw [hy449]; with_reducible exact H2_) | (have H2_ := (Option.bind_some _ _).symm.trans H; with_reducible exact H2_) | with_reducible exact H | (rw [hy449]; exact H) | exact H
                    have Ny449 := zad.mk hy449
                    clear hy449
                    by_cases c80 : y439.length + y449.length < 4398046511104
                    ·rw [if_pos c80] at H
                     have LMc80 := zad.mk c80
                     clear c80
                     obtain ⟨y452, hy452⟩ : ∃ y_ : List (S33), y_ = (y439 ++ y449) := ⟨_, rfl⟩
                     replace H : ((za5.f kj70 y452 (l1.length : Int)).bind fun bt455 => (if bt455.2.2 = 0 then (if bt455.2.1 = t443 then ((za7.f kj70 t442 bt455.1).bind fun t460 => (if t460 = true then ((zaz.f kj70).bind fun t461 => (some t461)) else (some false))) else (some false)) else (some false))) = some r := by first | (rw [hy452]; with_reducible exact H) | (have H2_ := (Option.bind_some _ _).symm.trans H; rw [hy452]; with_reducible exact H2_) | (have H2_ := (Option.bind_some _ _).symm.trans H; with_reducible exact H2_) | with_reducible exact H | (rw [hy452]; exact H) | exact H
                     have Ny452 := zad.mk hy452
                     clear hy452
                     replace H := Option.bind_eq_some_iff.mp H
                     obtain ⟨⟨t455, t456, t457⟩, A810, H⟩ := H
                     replace H : (if t457 = 0 then (if t456 = t443 then ((za7.f kj70 t442 t455).bind fun t460 => (if t460 = true then ((zaz.f kj70).bind fun t461 => (some t461)) else (some false))) else (some false)) else (some false)) = some r := H
                     have A81 := zad.mk A810
                     clear A810
                     by_cases c82 : t457 = 0
                     ·rw [if_pos c82] at H
                      have c82b0 : (t457 == 0) = true := beq_iff_eq.mpr c82
                      have c82b1 : (t457 != 0) = false := bne_eq_false_iff_eq.mpr c82
                      clear c82
                      by_cases c83 : t456 = t443
                      ·rw [if_pos c83] at H
                       have c83b0 : (t456 == t443) = true := beq_iff_eq.mpr c83
                       have c83b1 : (t456 != t443) = false := bne_eq_false_iff_eq.mpr c83
                       clear c83
                       replace H := Option.bind_eq_some_iff.mp H
                       obtain ⟨t460, A840, H⟩ := H
                       replace H : (if t460 = true then ((zaz.f kj70).bind fun t461 => (some t461)) else (some false)) = some r := H
                       have A84 := zad.mk A840
                       clear A840
                       by_cases c85 : t460 = true
                       ·subst c85
                        have H1 : ((zaz.f kj70).bind fun t461 => (some t461)) = some r := by rw [if_pos rfl] at H; exact H
                        clear H
                        have H := H1
                        clear H1
                        replace H := Option.bind_eq_some_iff.mp H
                        obtain ⟨t461, A860, H⟩ := H
                        replace H : (some t461) = some r := H
                        have A86 := zad.mk A860
                        clear A860
                        obtain rfl := Option.some.inj H
                        have hcz87_0 : wc.cell? ⟨gb407, 0, none⟩ = some (.int .u8 a2_0) := (zai BK407.out 0).trans rfl
                        have hcz87_1 : wc.cell? ⟨gb407, 1, none⟩ = some (.string a2_1) := (zai BK407.out 1).trans rfl
                        have hcz87_2 : wc.cell? ⟨gb407, 2, none⟩ = some (.int .i64 a2_2) := (zai BK407.out 2).trans rfl
                        have hfz87_0 := zaf BK407.out 0
                        have hfz87_1 := zaf BK407.out 1
                        have hfz87_2 := zaf BK407.out 2
                        go_wp2_with (first | ((with_reducible refine zbw (N := 137) rfl ?_); (try (refine zbo (by rfl) ?_; dsimp only)); refine Kd.R_lit k33 _ 33 ?hg (N := 137) ?hd (xs := ([(⟨a2_0, a2_1, a2_2⟩ : S33)] : List (S33))) (inner := [.int .u8 a2_0, .string a2_1, .int .i64 a2_2]) (ok := fun _ => True) (okp := fun _ => True) ?hr ?hp (fun _ hk => hk) trivial (Below.refl _ _) (Nat.le_refl _) (by simp) ?_; (case hd => rfl); (case hg => rfl); (case hr => first | (go_simp; done) | (go_simp; rfl)); (case hp => exact (Reps.c3 (show Kd.M k33 _ _ _ (⟨a2_0, a2_1, a2_2⟩ : S33) [.int .u8 a2_0, .string a2_1, .int .i64 a2_2] from (k33_mkM _ _ _ (⟨a2_0, a2_1, a2_2⟩ : S33) )) (Reps.none _ _))); intro v450 w88 ho89 hb hg_ hnew_; clear hg_ hnew_; (first | rw [← Ny449.out] at ho89 | (simp only [Int.reduceToNat] at ho89; rw [← Ny449.out] at ho89)); have n0_ := zad.mk (Kd.zct (by (with_reducible repeat (first | apply Kd.zan | apply Kd.zaq | apply Kd.zaw)); exact HO_12.out) (Kd.zd9 ho89) hb); have n1_ := zad.mk (Kd.zbk (by (with_reducible repeat (first | apply Kd.zan | apply Kd.zaq | apply Kd.zaw)); exact HO_13.out) hb); have n2_ := zad.mk (Kd.zbq (Kd.zed (Kd.zea ho89 (Kd.R_lt (by (with_reducible repeat (first | apply Kd.zan | apply Kd.zaq | apply Kd.zaw)); exact HO_12.out))) (g := gb407) (o := .cells #[.int .u8 a2_0, .string a2_1, .int .i64 a2_2] 33 (0, 0)) (by (with_reducible repeat (first | refine zas ?_ _ | refine zat ?_ | refine zar ?_ _)); exact BK407.out)) (zao (by repeat (first | (with_reducible first | exact HB.out | apply zab | apply zaa | apply zac | refine zaj ?_ GE407.out) | exact HB.out)))); have n3_ := zad.mk (zbg (g := gb407) (o := .cells #[.int .u8 a2_0, .string a2_1, .int .i64 a2_2] 33 (0, 0)) (by (with_reducible repeat (first | refine zas ?_ _ | refine zat ?_ | refine zar ?_ _)); exact BK407.out) hb); have n4_ := zad.mk (zah (by repeat (first | (with_reducible first | exact HB.out | apply zab | apply zaa | apply zac | refine zaj ?_ GE407.out) | exact HB.out)) hb); clear HO_12; clear HO_13; clear BK407; clear HB; have HO_12 := n0_; have HO_13 := n1_; have HO451 := n2_; have BK407 := n3_; have HB := n4_; clear n0_ n1_ n2_ n3_ n4_; clear hb ho89; obtain ⟨Ao91, co91, eo91⟩ := Kd.zbm HO451.out; subst eo91) | ((with_reducible refine zbb (b := .append) (xs := #[.tmp 135, .tmp 137]) rfl ?_); (try (refine zbo (by rfl) ?_; dsimp only)); at_builtin; refine Kd.zch k33 (w0 := w) w.heap.size rfl (.tmp 135) (.tmp 137) 25 33 (.agg #[(.int .u8 0), (.string ⟨#[]⟩), (.int .i64 0)]) 32 rfl Tryz.underlying25 info33 rfl (by decide) (by omega) (.slice Ao63 y439.length co63) y439 y449 _ _ _ (fun k_ => some k_ ≠ (.slice Ao91 y449.length co91 : Value).ownBlock ∧ k_ ≠ gb407) (fun _ => False) rfl rfl ?aO ?aR (fun _ _ h => h) (fun _ h => h.elim) ?aF ?aB ?aS ?aL ?_; (case aR => repeat (first | exact (Kd.za3 HO451.out).2.2 | (with_reducible refine Kd.zbu ?_ _) | (with_reducible refine Kd.zbv ?_ _) | (with_reducible refine Kd.zb4 ?_))); (case aB => exact (by repeat (first | (with_reducible first | exact HB.out | apply zab | apply zaa | apply zac | refine zaj ?_ GE407.out) | exact HB.out))); (case aF => exact (fun k_ hk => ⟨Kd.fresh' (Kd.R_lt (by (with_reducible repeat (first | apply Kd.zan | apply Kd.zaq | apply Kd.zaw)); exact HO451.out)) k_ hk, Kd.freshB (g := gb407) (o := .cells #[.int .u8 a2_0, .string a2_1, .int .i64 a2_2] 33 (0, 0)) (by (with_reducible repeat (first | refine zas ?_ _ | refine zat ?_ | refine zar ?_ _)); exact BK407.out) k_ hk⟩)); (case aO => exact (by (with_reducible repeat (first | apply Kd.zan | apply Kd.zaq | apply Kd.zaw)); exact Kd.zbr HO_12.out (fun _ hk => ⟨hk.2, hk.1⟩))); (case aS => exact (zao (by repeat (first | (with_reducible first | exact HB.out | apply zab | apply zaa | apply zac | refine zaj ?_ GE407.out) | exact HB.out)))); (case aL => have := LMc80.out; omega); intro v453 w90 ho hb hg hat; rw [← Ny452.out] at ho; have n0_ := zad.mk (Kd.R_over' (by (with_reducible repeat (first | apply Kd.zan | apply Kd.zaq | apply Kd.zaw)); exact HO_13.out) (Kd.R_typed (by (with_reducible repeat (first | apply Kd.zan | apply Kd.zaq | apply Kd.zaw)); exact HO_12.out)) (by decide) hg); have n1_ := zad.mk (zb5 (g := gb407) (o := .cells #[.int .u8 a2_0, .string a2_1, .int .i64 a2_2] 33 (0, 0)) (by (with_reducible repeat (first | refine zas ?_ _ | refine zat ?_ | refine zar ?_ _)); exact BK407.out) hg (Kd.zdz HO_12.out (fun _ hk => hk.1))); have n2_ := zad.mk (Kd.zb8 (ok := (fun k_ => k_ ≠ gb407)) (by (with_reducible repeat (first | apply Kd.zan | apply Kd.zaq | apply Kd.zaw)); exact Kd.zbr HO451.out (fun _ hk => ⟨hk.2, hk.1.2⟩)) hg hat); have n3_ := zad.mk (hb); have n4_ := zad.mk (ho); clear HO_13; clear BK407; clear HO451; clear HB; clear HO_12; have HO_13 := n0_; have BK407 := n1_; have HO451 := n2_; have HB := n3_; have HO454 := n4_; clear n0_ n1_ n2_ n3_ n4_; clear ho hb hg hat; obtain ⟨Ao92, co92, eo92⟩ := Kd.zbm HO454.out; subst eo92) | ((with_reducible refine zav (f := 10) rfl ?_); refine zbl (some 141) rfl rfl Tryz.func10 (by kernel_rfl) rfl #[.slice Ao92 y452.length co92, .int .i64 (l1.length : Int)] rfl (by (try simp only [List.map_toArray, List.map_cons, List.map_nil]); first | done | rfl | (simp only [List.length_drop, List.length_take]; rfl)) ?_; (with_reducible refine (za5.calls kj70 _ _ y452 (l1.length : Int) t455 t456 t457 _ ?side1 ?side2 ?side3 A81.out).mono ?_); (case side1 => repeat (first | exact (Kd.za3 HO454.out).2.2 | (with_reducible refine Kd.zbu ?_ _) | (with_reducible refine Kd.zbv ?_ _) | (with_reducible refine Kd.zb4 ?_))); (case side2 => exact (Kd.za3 HO454.out).2.1); (case side3 => exact Tabs.below hT (by repeat (first | (with_reducible first | exact HB.out | apply zab | apply zaa | apply zac | refine zaj ?_ GE407.out) | exact HB.out))); rintro e w93 ⟨v458, rfl, ho0, hb⟩; refine ⟨_, rfl, ?_⟩; have n0_ := zad.mk (Kd.zct (by (with_reducible repeat (first | apply Kd.zan | apply Kd.zaq | apply Kd.zaw)); exact HO_13.out) (Kd.zd9 ho0) hb); have n1_ := zad.mk (Kd.zbk (by (with_reducible repeat (first | apply Kd.zan | apply Kd.zaq | apply Kd.zaw)); exact HO451.out) hb); have n2_ := zad.mk (Kd.zbk (by (with_reducible repeat (first | apply Kd.zan | apply Kd.zaq | apply Kd.zaw)); exact HO454.out) hb); have n3_ := zad.mk (Kd.zbq (Kd.zea ho0 (Kd.R_lt (by (with_reducible repeat (first | apply Kd.zan | apply Kd.zaq | apply Kd.zaw)); exact HO_13.out))) (zao (by repeat (first | (with_reducible first | exact HB.out | apply zab | apply zaa | apply zac | refine zaj ?_ GE407.out) | exact HB.out)))); have n4_ := zad.mk (zbg (g := gb407) (o := .cells #[.int .u8 a2_0, .string a2_1, .int .i64 a2_2] 33 (0, 0)) (by (with_reducible repeat (first | refine zas ?_ _ | refine zat ?_ | refine zar ?_ _)); exact BK407.out) hb); have n5_ := zad.mk (zah (by repeat (first | (with_reducible first | exact HB.out | apply zab | apply zaa | apply zac | refine zaj ?_ GE407.out) | exact HB.out)) hb); clear HO_13; clear HO451; clear HO454; clear BK407; clear HB; have HO_13 := n0_; have HO451 := n1_; have HO454 := n2_; have HO459 := n3_; have BK407 := n4_; have HB := n5_; clear n0_ n1_ n2_ n3_ n4_ n5_; (try clear hb); (try clear hb2); (try clear hk); (try clear hi); (try clear ho0); obtain ⟨Ao94, co94, eo94⟩ := Kd.zbm HO459.out; subst eo94) | (go_at_call 20; (with_reducible refine (za7.calls kj70 _ _ t442 _ _ t455 true _ ?side1 ?side2 ?side3 ?side4 A84.out).mono ?_); (case side1 => repeat (first | exact (Kd.za3 HO_13.out).2.2 | (with_reducible refine Kd.zbu ?_ _) | (with_reducible refine Kd.zbv ?_ _) | (with_reducible refine Kd.zb4 ?_))); (case side2 => exact (Kd.za3 HO_13.out).2.1); (case side3 => repeat (first | exact (Kd.za3 HO459.out).2.2 | (with_reducible refine Kd.zbu ?_ _) | (with_reducible refine Kd.zbv ?_ _) | (with_reducible refine Kd.zb4 ?_))); (case side4 => exact (Kd.za3 HO459.out).2.1); rintro e w' ⟨rfl, ⟨nd, rfl⟩⟩) | (go_at_call 12; (with_reducible refine (zaz.calls kj70  t461 _ ?side1 A86.out).mono ?_); (case side1 => exact Tabs.below hT (by repeat (first | (with_reducible first | exact HB.out | apply zab | apply zaa | apply zac | refine zaj ?_ GE407.out) | exact HB.out))); rintro e w95 ⟨rfl, hb⟩; have n0_ := zad.mk (Kd.zbk (by (with_reducible repeat (first | apply Kd.zan | apply Kd.zaq | apply Kd.zaw)); exact HO_13.out) hb); have n1_ := zad.mk (Kd.zbk (by (with_reducible repeat (first | apply Kd.zan | apply Kd.zaq | apply Kd.zaw)); exact HO451.out) hb); have n2_ := zad.mk (Kd.zbk (by (with_reducible repeat (first | apply Kd.zan | apply Kd.zaq | apply Kd.zaw)); exact HO454.out) hb); have n3_ := zad.mk (Kd.zbk (by (with_reducible repeat (first | apply Kd.zan | apply Kd.zaq | apply Kd.zaw)); exact HO459.out) hb); have n4_ := zad.mk (zbg (g := gb407) (o := .cells #[.int .u8 a2_0, .string a2_1, .int .i64 a2_2] 33 (0, 0)) (by (with_reducible repeat (first | refine zas ?_ _ | refine zat ?_ | refine zar ?_ _)); exact BK407.out) hb); have n5_ := zad.mk (zah (by repeat (first | (with_reducible first | exact HB.out | apply zab | apply zaa | apply zac | refine zaj ?_ GE407.out) | exact HB.out)) hb); clear HO_13; clear HO451; clear HO454; clear HO459; clear BK407; clear HB; have HO_13 := n0_; have HO451 := n1_; have HO454 := n2_; have HO459 := n3_; have BK407 := n4_; have HB := n5_; clear n0_ n1_ n2_ n3_ n4_ n5_; (try clear hb); (try clear hb2); (try clear hk); (try clear hi)))
                        go_ret
                        exact ⟨by first | rfl | (simp [zak, zal] <;> rfl) | (simp [*, zak, zal] <;> rfl), by repeat (first | (with_reducible first | exact HB.out | apply zab | apply zaa | apply zac | refine zaj ?_ GE407.out) | exact HB.out)⟩
                       ·replace c85 := Bool.eq_false_iff.mpr c85
                        subst c85
                        have H1 : (some false) = some r := by rw [if_neg (show ¬ (false = true) by decide)] at H; exact H
                        clear H
                        have H := H1
                        clear H1
                        obtain rfl := Option.some.inj H
                        have hcz96_0 : wc.cell? ⟨gb407, 0, none⟩ = some (.int .u8 a2_0) := (zai BK407.out 0).trans rfl
                        have hcz96_1 : wc.cell? ⟨gb407, 1, none⟩ = some (.string a2_1) := (zai BK407.out 1).trans rfl
                        have hcz96_2 : wc.cell? ⟨gb407, 2, none⟩ = some (.int .i64 a2_2) := (zai BK407.out 2).trans rfl
                        have hfz96_0 := zaf BK407.out 0
                        have hfz96_1 := zaf BK407.out 1
                        have hfz96_2 := zaf BK407.out 2
                        go_wp2_with (first | ((with_reducible refine zbw (N := 137) rfl ?_); (try (refine zbo (by rfl) ?_; dsimp only)); refine Kd.R_lit k33 _ 33 ?hg (N := 137) ?hd (xs := ([(⟨a2_0, a2_1, a2_2⟩ : S33)] : List (S33))) (inner := [.int .u8 a2_0, .string a2_1, .int .i64 a2_2]) (ok := fun _ => True) (okp := fun _ => True) ?hr ?hp (fun _ hk => hk) trivial (Below.refl _ _) (Nat.le_refl _) (by simp) ?_; (case hd => rfl); (case hg => rfl); (case hr => first | (go_simp; done) | (go_simp; rfl)); (case hp => exact (Reps.c3 (show Kd.M k33 _ _ _ (⟨a2_0, a2_1, a2_2⟩ : S33) [.int .u8 a2_0, .string a2_1, .int .i64 a2_2] from (k33_mkM _ _ _ (⟨a2_0, a2_1, a2_2⟩ : S33) )) (Reps.none _ _))); intro v450 w97 ho98 hb hg_ hnew_; clear hg_ hnew_; (first | rw [← Ny449.out] at ho98 | (simp only [Int.reduceToNat] at ho98; rw [← Ny449.out] at ho98)); have n0_ := zad.mk (Kd.zct (by (with_reducible repeat (first | apply Kd.zan | apply Kd.zaq | apply Kd.zaw)); exact HO_12.out) (Kd.zd9 ho98) hb); have n1_ := zad.mk (Kd.zbk (by (with_reducible repeat (first | apply Kd.zan | apply Kd.zaq | apply Kd.zaw)); exact HO_13.out) hb); have n2_ := zad.mk (Kd.zbq (Kd.zed (Kd.zea ho98 (Kd.R_lt (by (with_reducible repeat (first | apply Kd.zan | apply Kd.zaq | apply Kd.zaw)); exact HO_12.out))) (g := gb407) (o := .cells #[.int .u8 a2_0, .string a2_1, .int .i64 a2_2] 33 (0, 0)) (by (with_reducible repeat (first | refine zas ?_ _ | refine zat ?_ | refine zar ?_ _)); exact BK407.out)) (zao (by repeat (first | (with_reducible first | exact HB.out | apply zab | apply zaa | apply zac | refine zaj ?_ GE407.out) | exact HB.out)))); have n3_ := zad.mk (zbg (g := gb407) (o := .cells #[.int .u8 a2_0, .string a2_1, .int .i64 a2_2] 33 (0, 0)) (by (with_reducible repeat (first | refine zas ?_ _ | refine zat ?_ | refine zar ?_ _)); exact BK407.out) hb); have n4_ := zad.mk (zah (by repeat (first | (with_reducible first | exact HB.out | apply zab | apply zaa | apply zac | refine zaj ?_ GE407.out) | exact HB.out)) hb); clear HO_12; clear HO_13; clear BK407; clear HB; have HO_12 := n0_; have HO_13 := n1_; have HO451 := n2_; have BK407 := n3_; have HB := n4_; clear n0_ n1_ n2_ n3_ n4_; clear hb ho98; obtain ⟨Ao100, co100, eo100⟩ := Kd.zbm HO451.out; subst eo100) | ((with_reducible refine zbb (b := .append) (xs := #[.tmp 135, .tmp 137]) rfl ?_); (try (refine zbo (by rfl) ?_; dsimp only)); at_builtin; refine Kd.zch k33 (w0 := w) w.heap.size rfl (.tmp 135) (.tmp 137) 25 33 (.agg #[(.int .u8 0), (.string ⟨#[]⟩), (.int .i64 0)]) 32 rfl Tryz.underlying25 info33 rfl (by decide) (by omega) (.slice Ao63 y439.length co63) y439 y449 _ _ _ (fun k_ => some k_ ≠ (.slice Ao100 y449.length co100 : Value).ownBlock ∧ k_ ≠ gb407) (fun _ => False) rfl rfl ?aO ?aR (fun _ _ h => h) (fun _ h => h.elim) ?aF ?aB ?aS ?aL ?_; (case aR => repeat (first | exact (Kd.za3 HO451.out).2.2 | (with_reducible refine Kd.zbu ?_ _) | (with_reducible refine Kd.zbv ?_ _) | (with_reducible refine Kd.zb4 ?_))); (case aB => exact (by repeat (first | (with_reducible first | exact HB.out | apply zab | apply zaa | apply zac | refine zaj ?_ GE407.out) | exact HB.out))); (case aF => exact (fun k_ hk => ⟨Kd.fresh' (Kd.R_lt (by (with_reducible repeat (first | apply Kd.zan | apply Kd.zaq | apply Kd.zaw)); exact HO451.out)) k_ hk, Kd.freshB (g := gb407) (o := .cells #[.int .u8 a2_0, .string a2_1, .int .i64 a2_2] 33 (0, 0)) (by (with_reducible repeat (first | refine zas ?_ _ | refine zat ?_ | refine zar ?_ _)); exact BK407.out) k_ hk⟩)); (case aO => exact (by (with_reducible repeat (first | apply Kd.zan | apply Kd.zaq | apply Kd.zaw)); exact Kd.zbr HO_12.out (fun _ hk => ⟨hk.2, hk.1⟩))); (case aS => exact (zao (by repeat (first | (with_reducible first | exact HB.out | apply zab | apply zaa | apply zac | refine zaj ?_ GE407.out) | exact HB.out)))); (case aL => have := LMc80.out; omega); intro v453 w99 ho hb hg hat; rw [← Ny452.out] at ho; have n0_ := zad.mk (Kd.R_over' (by (with_reducible repeat (first | apply Kd.zan | apply Kd.zaq | apply Kd.zaw)); exact HO_13.out) (Kd.R_typed (by (with_reducible repeat (first | apply Kd.zan | apply Kd.zaq | apply Kd.zaw)); exact HO_12.out)) (by decide) hg); have n1_ := zad.mk (zb5 (g := gb407) (o := .cells #[.int .u8 a2_0, .string a2_1, .int .i64 a2_2] 33 (0, 0)) (by (with_reducible repeat (first | refine zas ?_ _ | refine zat ?_ | refine zar ?_ _)); exact BK407.out) hg (Kd.zdz HO_12.out (fun _ hk => hk.1))); have n2_ := zad.mk (Kd.zb8 (ok := (fun k_ => k_ ≠ gb407)) (by (with_reducible repeat (first | apply Kd.zan | apply Kd.zaq | apply Kd.zaw)); exact Kd.zbr HO451.out (fun _ hk => ⟨hk.2, hk.1.2⟩)) hg hat); have n3_ := zad.mk (hb); have n4_ := zad.mk (ho); clear HO_13; clear BK407; clear HO451; clear HB; clear HO_12; have HO_13 := n0_; have BK407 := n1_; have HO451 := n2_; have HB := n3_; have HO454 := n4_; clear n0_ n1_ n2_ n3_ n4_; clear ho hb hg hat; obtain ⟨Ao101, co101, eo101⟩ := Kd.zbm HO454.out; subst eo101) | ((with_reducible refine zav (f := 10) rfl ?_); refine zbl (some 141) rfl rfl Tryz.func10 (by kernel_rfl) rfl #[.slice Ao101 y452.length co101, .int .i64 (l1.length : Int)] rfl (by (try simp only [List.map_toArray, List.map_cons, List.map_nil]); first | done | rfl | (simp only [List.length_drop, List.length_take]; rfl)) ?_; (with_reducible refine (za5.calls kj70 _ _ y452 (l1.length : Int) t455 t456 t457 _ ?side1 ?side2 ?side3 A81.out).mono ?_); (case side1 => repeat (first | exact (Kd.za3 HO454.out).2.2 | (with_reducible refine Kd.zbu ?_ _) | (with_reducible refine Kd.zbv ?_ _) | (with_reducible refine Kd.zb4 ?_))); (case side2 => exact (Kd.za3 HO454.out).2.1); (case side3 => exact Tabs.below hT (by repeat (first | (with_reducible first | exact HB.out | apply zab | apply zaa | apply zac | refine zaj ?_ GE407.out) | exact HB.out))); rintro e w102 ⟨v458, rfl, ho0, hb⟩; refine ⟨_, rfl, ?_⟩; have n0_ := zad.mk (Kd.zct (by (with_reducible repeat (first | apply Kd.zan | apply Kd.zaq | apply Kd.zaw)); exact HO_13.out) (Kd.zd9 ho0) hb); have n1_ := zad.mk (Kd.zbk (by (with_reducible repeat (first | apply Kd.zan | apply Kd.zaq | apply Kd.zaw)); exact HO451.out) hb); have n2_ := zad.mk (Kd.zbk (by (with_reducible repeat (first | apply Kd.zan | apply Kd.zaq | apply Kd.zaw)); exact HO454.out) hb); have n3_ := zad.mk (Kd.zbq (Kd.zea ho0 (Kd.R_lt (by (with_reducible repeat (first | apply Kd.zan | apply Kd.zaq | apply Kd.zaw)); exact HO_13.out))) (zao (by repeat (first | (with_reducible first | exact HB.out | apply zab | apply zaa | apply zac | refine zaj ?_ GE407.out) | exact HB.out)))); have n4_ := zad.mk (zbg (g := gb407) (o := .cells #[.int .u8 a2_0, .string a2_1, .int .i64 a2_2] 33 (0, 0)) (by (with_reducible repeat (first | refine zas ?_ _ | refine zat ?_ | refine zar ?_ _)); exact BK407.out) hb); have n5_ := zad.mk (zah (by repeat (first | (with_reducible first | exact HB.out | apply zab | apply zaa | apply zac | refine zaj ?_ GE407.out) | exact HB.out)) hb); clear HO_13; clear HO451; clear HO454; clear BK407; clear HB; have HO_13 := n0_; have HO451 := n1_; have HO454 := n2_; have HO459 := n3_; have BK407 := n4_; have HB := n5_; clear n0_ n1_ n2_ n3_ n4_ n5_; (try clear hb); (try clear hb2); (try clear hk); (try clear hi); (try clear ho0); obtain ⟨Ao103, co103, eo103⟩ := Kd.zbm HO459.out; subst eo103) | (go_at_call 20; (with_reducible refine (za7.calls kj70 _ _ t442 _ _ t455 false _ ?side1 ?side2 ?side3 ?side4 A84.out).mono ?_); (case side1 => repeat (first | exact (Kd.za3 HO_13.out).2.2 | (with_reducible refine Kd.zbu ?_ _) | (with_reducible refine Kd.zbv ?_ _) | (with_reducible refine Kd.zb4 ?_))); (case side2 => exact (Kd.za3 HO_13.out).2.1); (case side3 => repeat (first | exact (Kd.za3 HO459.out).2.2 | (with_reducible refine Kd.zbu ?_ _) | (with_reducible refine Kd.zbv ?_ _) | (with_reducible refine Kd.zb4 ?_))); (case side4 => exact (Kd.za3 HO459.out).2.1); rintro e w' ⟨rfl, ⟨nd, rfl⟩⟩))
                        go_ret
                        exact ⟨by first | rfl | (simp [zak, zal] <;> rfl) | (simp [*, zak, zal] <;> rfl), by repeat (first | (with_reducible first | exact HB.out | apply zab | apply zaa | apply zac | refine zaj ?_ GE407.out) | exact HB.out)⟩
                      ·rw [if_neg c83] at H
                       have c83b0 : (t456 == t443) = false := beq_eq_false_iff_ne.mpr c83
                       have c83b1 : (t456 != t443) = true := bne_iff_ne.mpr c83
                       obtain rfl := Option.some.inj H
                       have hcz104_0 : wc.cell? ⟨gb407, 0, none⟩ = some (.int .u8 a2_0) := (zai BK407.out 0).trans rfl
                       have hcz104_1 : wc.cell? ⟨gb407, 1, none⟩ = some (.string a2_1) := (zai BK407.out 1).trans rfl
                       have hcz104_2 : wc.cell? ⟨gb407, 2, none⟩ = some (.int .i64 a2_2) := (zai BK407.out 2).trans rfl
                       have hfz104_0 := zaf BK407.out 0
                       have hfz104_1 := zaf BK407.out 1
                       have hfz104_2 := zaf BK407.out 2
                       go_wp2_with (first | ((with_reducible refine zbw (N := 137) rfl ?_); (try (refine zbo (by rfl) ?_; dsimp only)); refine Kd.R_lit k33 _ 33 ?hg (N := 137) ?hd (xs := ([(⟨a2_0, a2_1, a2_2⟩ : S33)] : List (S33))) (inner := [.int .u8 a2_0, .string a2_1, .int .i64 a2_2]) (ok := fun _ => True) (okp := fun _ => True) ?hr ?hp (fun _ hk => hk) trivial (Below.refl _ _) (Nat.le_refl _) (by simp) ?_; (case hd => rfl); (case hg => rfl); (case hr => first | (go_simp; done) | (go_simp; rfl)); (case hp => exact (Reps.c3 (show Kd.M k33 _ _ _ (⟨a2_0, a2_1, a2_2⟩ : S33) [.int .u8 a2_0, .string a2_1, .int .i64 a2_2] from (k33_mkM _ _ _ (⟨a2_0, a2_1, a2_2⟩ : S33) )) (Reps.none _ _))); intro v450 w105 ho106 hb hg_ hnew_; clear hg_ hnew_; (first | rw [← Ny449.out] at ho106 | (simp only [Int.reduceToNat] at ho106; rw [← Ny449.out] at ho106)); have n0_ := zad.mk (Kd.zct (by (with_reducible repeat (first | apply Kd.zan | apply Kd.zaq | apply Kd.zaw)); exact HO_12.out) (Kd.zd9 ho106) hb); have n1_ := zad.mk (Kd.zbk (by (with_reducible repeat (first | apply Kd.zan | apply Kd.zaq | apply Kd.zaw)); exact HO_13.out) hb); have n2_ := zad.mk (Kd.zbq (Kd.zed (Kd.zea ho106 (Kd.R_lt (by (with_reducible repeat (first | apply Kd.zan | apply Kd.zaq | apply Kd.zaw)); exact HO_12.out))) (g := gb407) (o := .cells #[.int .u8 a2_0, .string a2_1, .int .i64 a2_2] 33 (0, 0)) (by (with_reducible repeat (first | refine zas ?_ _ | refine zat ?_ | refine zar ?_ _)); exact BK407.out)) (zao (by repeat (first | (with_reducible first | exact HB.out | apply zab | apply zaa | apply zac | refine zaj ?_ GE407.out) | exact HB.out)))); have n3_ := zad.mk (zbg (g := gb407) (o := .cells #[.int .u8 a2_0, .string a2_1, .int .i64 a2_2] 33 (0, 0)) (by (with_reducible repeat (first | refine zas ?_ _ | refine zat ?_ | refine zar ?_ _)); exact BK407.out) hb); have n4_ := zad.mk (zah (by repeat (first | (with_reducible first | exact HB.out | apply zab | apply zaa | apply zac | refine zaj ?_ GE407.out) | exact HB.out)) hb); clear HO_12; clear HO_13; clear BK407; clear HB; have HO_12 := n0_; have HO_13 := n1_; have HO451 := n2_; have BK407 := n3_; have HB := n4_; clear n0_ n1_ n2_ n3_ n4_; clear hb ho106; obtain ⟨Ao108, co108, eo108⟩ := Kd.zbm HO451.out; subst eo108) | ((with_reducible refine zbb (b := .append) (xs := #[.tmp 135, .tmp 137]) rfl ?_); (try (refine zbo (by rfl) ?_; dsimp only)); at_builtin; refine Kd.zch k33 (w0 := w) w.heap.size rfl (.tmp 135) (.tmp 137) 25 33 (.agg #[(.int .u8 0), (.string ⟨#[]⟩), (.int .i64 0)]) 32 rfl Tryz.underlying25 info33 rfl (by decide) (by omega) (.slice Ao63 y439.length co63) y439 y449 _ _ _ (fun k_ => some k_ ≠ (.slice Ao108 y449.length co108 : Value).ownBlock ∧ k_ ≠ gb407) (fun _ => False) rfl rfl ?aO ?aR (fun _ _ h => h) (fun _ h => h.elim) ?aF ?aB ?aS ?aL ?_; (case aR => repeat (first | exact (Kd.za3 HO451.out).2.2 | (with_reducible refine Kd.zbu ?_ _) | (with_reducible refine Kd.zbv ?_ _) | (with_reducible refine Kd.zb4 ?_))); (case aB => exact (by repeat (first | (with_reducible first | exact HB.out | apply zab | apply zaa | apply zac | refine zaj ?_ GE407.out) | exact HB.out))); (case aF => exact (fun k_ hk => ⟨Kd.fresh' (Kd.R_lt (by (with_reducible repeat (first | apply Kd.zan | apply Kd.zaq | apply Kd.zaw)); exact HO451.out)) k_ hk, Kd.freshB (g := gb407) (o := .cells #[.int .u8 a2_0, .string a2_1, .int .i64 a2_2] 33 (0, 0)) (by (with_reducible repeat (first | refine zas ?_ _ | refine zat ?_ | refine zar ?_ _)); exact BK407.out) k_ hk⟩)); (case aO => exact (by (with_reducible repeat (first | apply Kd.zan | apply Kd.zaq | apply Kd.zaw)); exact Kd.zbr HO_12.out (fun _ hk => ⟨hk.2, hk.1⟩))); (case aS => exact (zao (by repeat (first | (with_reducible first | exact HB.out | apply zab | apply zaa | apply zac | refine zaj ?_ GE407.out) | exact HB.out)))); (case aL => have := LMc80.out; omega); intro v453 w107 ho hb hg hat; rw [← Ny452.out] at ho; have n0_ := zad.mk (Kd.R_over' (by (with_reducible repeat (first | apply Kd.zan | apply Kd.zaq | apply Kd.zaw)); exact HO_13.out) (Kd.R_typed (by (with_reducible repeat (first | apply Kd.zan | apply Kd.zaq | apply Kd.zaw)); exact HO_12.out)) (by decide) hg); have n1_ := zad.mk (zb5 (g := gb407) (o := .cells #[.int .u8 a2_0, .string a2_1, .int .i64 a2_2] 33 (0, 0)) (by (with_reducible repeat (first | refine zas ?_ _ | refine zat ?_ | refine zar ?_ _)); exact BK407.out) hg (Kd.zdz HO_12.out (fun _ hk => hk.1))); have n2_ := zad.mk (Kd.zb8 (ok := (fun k_ => k_ ≠ gb407)) (by (with_reducible repeat (first | apply Kd.zan | apply Kd.zaq | apply Kd.zaw)); exact Kd.zbr HO451.out (fun _ hk => ⟨hk.2, hk.1.2⟩)) hg hat); have n3_ := zad.mk (hb); have n4_ := zad.mk (ho); clear HO_13; clear BK407; clear HO451; clear HB; clear HO_12; have HO_13 := n0_; have BK407 := n1_; have HO451 := n2_; have HB := n3_; have HO454 := n4_; clear n0_ n1_ n2_ n3_ n4_; clear ho hb hg hat; obtain ⟨Ao109, co109, eo109⟩ := Kd.zbm HO454.out; subst eo109) | ((with_reducible refine zav (f := 10) rfl ?_); refine zbl (some 141) rfl rfl Tryz.func10 (by kernel_rfl) rfl #[.slice Ao109 y452.length co109, .int .i64 (l1.length : Int)] rfl (by (try simp only [List.map_toArray, List.map_cons, List.map_nil]); first | done | rfl | (simp only [List.length_drop, List.length_take]; rfl)) ?_; (with_reducible refine (za5.calls kj70 _ _ y452 (l1.length : Int) t455 t456 t457 _ ?side1 ?side2 ?side3 A81.out).mono ?_); (case side1 => repeat (first | exact (Kd.za3 HO454.out).2.2 | (with_reducible refine Kd.zbu ?_ _) | (with_reducible refine Kd.zbv ?_ _) | (with_reducible refine Kd.zb4 ?_))); (case side2 => exact (Kd.za3 HO454.out).2.1); (case side3 => exact Tabs.below hT (by repeat (first | (with_reducible first | exact HB.out | apply zab | apply zaa | apply zac | refine zaj ?_ GE407.out) | exact HB.out))); rintro e w110 ⟨v458, rfl, ho0, hb⟩; refine ⟨_, rfl, ?_⟩; have n0_ := zad.mk (Kd.zct (by (with_reducible repeat (first | apply Kd.zan | apply Kd.zaq | apply Kd.zaw)); exact HO_13.out) (Kd.zd9 ho0) hb); have n1_ := zad.mk (Kd.zbk (by (with_reducible repeat (first | apply Kd.zan | apply Kd.zaq | apply Kd.zaw)); exact HO451.out) hb); have n2_ := zad.mk (Kd.zbk (by (with_reducible repeat (first | apply Kd.zan | apply Kd.zaq | apply Kd.zaw)); exact HO454.out) hb); have n3_ := zad.mk (Kd.zbq (Kd.zea ho0 (Kd.R_lt (by (with_reducible repeat (first | apply Kd.zan | apply Kd.zaq | apply Kd.zaw)); exact HO_13.out))) (zao (by repeat (first | (with_reducible first | exact HB.out | apply zab | apply zaa | apply zac | refine zaj ?_ GE407.out) | exact HB.out)))); have n4_ := zad.mk (zbg (g := gb407) (o := .cells #[.int .u8 a2_0, .string a2_1, .int .i64 a2_2] 33 (0, 0)) (by (with_reducible repeat (first | refine zas ?_ _ | refine zat ?_ | refine zar ?_ _)); exact BK407.out) hb); have n5_ := zad.mk (zah (by repeat (first | (with_reducible first | exact HB.out | apply zab | apply zaa | apply zac | refine zaj ?_ GE407.out) | exact HB.out)) hb); clear HO_13; clear HO451; clear HO454; clear BK407; clear HB; have HO_13 := n0_; have HO451 := n1_; have HO454 := n2_; have HO459 := n3_; have BK407 := n4_; have HB := n5_; clear n0_ n1_ n2_ n3_ n4_ n5_; (try clear hb); (try clear hb2); (try clear hk); (try clear hi); (try clear ho0)))
                       go_ret
                       exact ⟨by first | rfl | (simp [zak, zal] <;> rfl) | (simp [*, zak, zal] <;> rfl), by repeat (first | (with_reducible first | exact HB.out | apply zab | apply zaa | apply zac | refine zaj ?_ GE407.out) | exact HB.out)⟩
                     ·rw [if_neg c82] at H
                      have c82b0 : (t457 == 0) = false := beq_eq_false_iff_ne.mpr c82
                      have c82b1 : (t457 != 0) = true := bne_iff_ne.mpr c82
                      obtain rfl := Option.some.inj H
                      have hcz111_0 : wc.cell? ⟨gb407, 0, none⟩ = some (.int .u8 a2_0) := (zai BK407.out 0).trans rfl
                      have hcz111_1 : wc.cell? ⟨gb407, 1, none⟩ = some (.string a2_1) := (zai BK407.out 1).trans rfl
                      have hcz111_2 : wc.cell? ⟨gb407, 2, none⟩ = some (.int .i64 a2_2) := (zai BK407.out 2).trans rfl
                      have hfz111_0 := zaf BK407.out 0
                      have hfz111_1 := zaf BK407.out 1
                      have hfz111_2 := zaf BK407.out 2
                      go_wp2_with (first | ((with_reducible refine zbw (N := 137) rfl ?_); (try (refine zbo (by rfl) ?_; dsimp only)); refine Kd.R_lit k33 _ 33 ?hg (N := 137) ?hd (xs := ([(⟨a2_0, a2_1, a2_2⟩ : S33)] : List (S33))) (inner := [.int .u8 a2_0, .string a2_1, .int .i64 a2_2]) (ok := fun _ => True) (okp := fun _ => True) ?hr ?hp (fun _ hk => hk) trivial (Below.refl _ _) (Nat.le_refl _) (by simp) ?_; (case hd => rfl); (case hg => rfl); (case hr => first | (go_simp; done) | (go_simp; rfl)); (case hp => exact (Reps.c3 (show Kd.M k33 _ _ _ (⟨a2_0, a2_1, a2_2⟩ : S33) [.int .u8 a2_0, .string a2_1, .int .i64 a2_2] from (k33_mkM _ _ _ (⟨a2_0, a2_1, a2_2⟩ : S33) )) (Reps.none _ _))); intro v450 w112 ho113 hb hg_ hnew_; clear hg_ hnew_; (first | rw [← Ny449.out] at ho113 | (simp only [Int.reduceToNat] at ho113; rw [← Ny449.out] at ho113)); have n0_ := zad.mk (Kd.zct (by (with_reducible repeat (first | apply Kd.zan | apply Kd.zaq | apply Kd.zaw)); exact HO_12.out) (Kd.zd9 ho113) hb); have n1_ := zad.mk (Kd.zbk (by (with_reducible repeat (first | apply Kd.zan | apply Kd.zaq | apply Kd.zaw)); exact HO_13.out) hb); have n2_ := zad.mk (Kd.zbq (Kd.zed (Kd.zea ho113 (Kd.R_lt (by (with_reducible repeat (first | apply Kd.zan | apply Kd.zaq | apply Kd.zaw)); exact HO_12.out))) (g := gb407) (o := .cells #[.int .u8 a2_0, .string a2_1, .int .i64 a2_2] 33 (0, 0)) (by (with_reducible repeat (first | refine zas ?_ _ | refine zat ?_ | refine zar ?_ _)); exact BK407.out)) (zao (by repeat (first | (with_reducible first | exact HB.out | apply zab | apply zaa | apply zac | refine zaj ?_ GE407.out) | exact HB.out)))); have n3_ := zad.mk (zbg (g := gb407) (o := .cells #[.int .u8 a2_0, .string a2_1, .int .i64 a2_2] 33 (0, 0)) (by (with_reducible repeat (first | refine zas ?_ _ | refine zat ?_ | refine zar ?_ _)); exact BK407.out) hb); have n4_ := zad.mk (zah (by repeat (first | (with_reducible first | exact HB.out | apply zab | apply zaa | apply zac | refine zaj ?_ GE407.out) | exact HB.out)) hb); clear HO_12; clear HO_13; clear BK407; clear HB; have HO_12 := n0_; have HO_13 := n1_; have HO451 := n2_; have BK407 := n3_; have HB := n4_; clear n0_ n1_ n2_ n3_ n4_; clear hb ho113; obtain ⟨Ao115, co115, eo115⟩ := Kd.zbm HO451.out; subst eo115) | ((with_reducible refine zbb (b := .append) (xs := #[.tmp 135, .tmp 137]) rfl ?_); (try (refine zbo (by rfl) ?_; dsimp only)); at_builtin; refine Kd.zch k33 (w0 := w) w.heap.size rfl (.tmp 135) (.tmp 137) 25 33 (.agg #[(.int .u8 0), (.string ⟨#[]⟩), (.int .i64 0)]) 32 rfl Tryz.underlying25 info33 rfl (by decide) (by omega) (.slice Ao63 y439.length co63) y439 y449 _ _ _ (fun k_ => some k_ ≠ (.slice Ao115 y449.length co115 : Value).ownBlock ∧ k_ ≠ gb407) (fun _ => False) rfl rfl ?aO ?aR (fun _ _ h => h) (fun _ h => h.elim) ?aF ?aB ?aS ?aL ?_; (case aR => repeat (first | exact (Kd.za3 HO451.out).2.2 | (with_reducible refine Kd.zbu ?_ _) | (with_reducible refine Kd.zbv ?_ _) | (with_reducible refine Kd.zb4 ?_))); (case aB => exact (by repeat (first | (with_reducible first | exact HB.out | apply zab | apply zaa | apply zac | refine zaj ?_ GE407.out) | exact HB.out))); (case aF => exact (fun k_ hk => ⟨Kd.fresh' (Kd.R_lt (by (with_reducible repeat (first | apply Kd.zan | apply Kd.zaq | apply Kd.zaw)); exact HO451.out)) k_ hk, Kd.freshB (g := gb407) (o := .cells #[.int .u8 a2_0, .string a2_1, .int .i64 a2_2] 33 (0, 0)) (by (with_reducible repeat (first | refine zas ?_ _ | refine zat ?_ | refine zar ?_ _)); exact BK407.out) k_ hk⟩)); (case aO => exact (by (with_reducible repeat (first | apply Kd.zan | apply Kd.zaq | apply Kd.zaw)); exact Kd.zbr HO_12.out (fun _ hk => ⟨hk.2, hk.1⟩))); (case aS => exact (zao (by repeat (first | (with_reducible first | exact HB.out | apply zab | apply zaa | apply zac | refine zaj ?_ GE407.out) | exact HB.out)))); (case aL => have := LMc80.out; omega); intro v453 w114 ho hb hg hat; rw [← Ny452.out] at ho; have n0_ := zad.mk (Kd.R_over' (by (with_reducible repeat (first | apply Kd.zan | apply Kd.zaq | apply Kd.zaw)); exact HO_13.out) (Kd.R_typed (by (with_reducible repeat (first | apply Kd.zan | apply Kd.zaq | apply Kd.zaw)); exact HO_12.out)) (by decide) hg); have n1_ := zad.mk (zb5 (g := gb407) (o := .cells #[.int .u8 a2_0, .string a2_1, .int .i64 a2_2] 33 (0, 0)) (by (with_reducible repeat (first | refine zas ?_ _ | refine zat ?_ | refine zar ?_ _)); exact BK407.out) hg (Kd.zdz HO_12.out (fun _ hk => hk.1))); have n2_ := zad.mk (Kd.zb8 (ok := (fun k_ => k_ ≠ gb407)) (by (with_reducible repeat (first | apply Kd.zan | apply Kd.zaq | apply Kd.zaw)); exact Kd.zbr HO451.out (fun _ hk => ⟨hk.2, hk.1.2⟩)) hg hat); have n3_ := zad.mk (hb); have n4_ := zad.mk (ho); clear HO_13; clear BK407; clear HO451; clear HB; clear HO_12; have HO_13 := n0_; have BK407 := n1_; have HO451 := n2_; have HB := n3_; have HO454 := n4_; clear n0_ n1_ n2_ n3_ n4_; clear ho hb hg hat; obtain ⟨Ao116, co116, eo116⟩ := Kd.zbm HO454.out; subst eo116) | ((with_reducible refine zav (f := 10) rfl ?_); refine zbl (some 141) rfl rfl Tryz.func10 (by kernel_rfl) rfl #[.slice Ao116 y452.length co116, .int .i64 (l1.length : Int)] rfl (by (try simp only [List.map_toArray, List.map_cons, List.map_nil]); first | done | rfl | (simp only [List.length_drop, List.length_take]; rfl)) ?_; (with_reducible refine (za5.calls kj70 _ _ y452 (l1.length : Int) t455 t456 t457 _ ?side1 ?side2 ?side3 A81.out).mono ?_); (case side1 => repeat (first | exact (Kd.za3 HO454.out).2.2 | (with_reducible refine Kd.zbu ?_ _) | (with_reducible refine Kd.zbv ?_ _) | (with_reducible refine Kd.zb4 ?_))); (case side2 => exact (Kd.za3 HO454.out).2.1); (case side3 => exact Tabs.below hT (by repeat (first | (with_reducible first | exact HB.out | apply zab | apply zaa | apply zac | refine zaj ?_ GE407.out) | exact HB.out))); rintro e w117 ⟨v458, rfl, ho0, hb⟩; refine ⟨_, rfl, ?_⟩; have n0_ := zad.mk (Kd.zct (by (with_reducible repeat (first | apply Kd.zan | apply Kd.zaq | apply Kd.zaw)); exact HO_13.out) (Kd.zd9 ho0) hb); have n1_ := zad.mk (Kd.zbk (by (with_reducible repeat (first | apply Kd.zan | apply Kd.zaq | apply Kd.zaw)); exact HO451.out) hb); have n2_ := zad.mk (Kd.zbk (by (with_reducible repeat (first | apply Kd.zan | apply Kd.zaq | apply Kd.zaw)); exact HO454.out) hb); have n3_ := zad.mk (Kd.zbq (Kd.zea ho0 (Kd.R_lt (by (with_reducible repeat (first | apply Kd.zan | apply Kd.zaq | apply Kd.zaw)); exact HO_13.out))) (zao (by repeat (first | (with_reducible first | exact HB.out | apply zab | apply zaa | apply zac | refine zaj ?_ GE407.out) | exact HB.out)))); have n4_ := zad.mk (zbg (g := gb407) (o := .cells #[.int .u8 a2_0, .string a2_1, .int .i64 a2_2] 33 (0, 0)) (by (with_reducible repeat (first | refine zas ?_ _ | refine zat ?_ | refine zar ?_ _)); exact BK407.out) hb); have n5_ := zad.mk (zah (by repeat (first | (with_reducible first | exact HB.out | apply zab | apply zaa | apply zac | refine zaj ?_ GE407.out) | exact HB.out)) hb); clear HO_13; clear HO451; clear HO454; clear BK407; clear HB; have HO_13 := n0_; have HO451 := n1_; have HO454 := n2_; have HO459 := n3_; have BK407 := n4_; have HB := n5_; clear n0_ n1_ n2_ n3_ n4_ n5_; (try clear hb); (try clear hb2); (try clear hk); (try clear hi); (try clear ho0)))
                      go_ret
                      exact ⟨by first | rfl | (simp [zak, zal] <;> rfl) | (simp [*, zak, zal] <;> rfl), by repeat (first | (with_reducible first | exact HB.out | apply zab | apply zaa | apply zac | refine zaj ?_ GE407.out) | exact HB.out)⟩
                    ·rw [if_neg c80] at H
                     exact absurd H (by simp)
                   ·replace c79 := Bool.eq_false_iff.mpr c79
                    subst c79
                    have H1 : ((zaz.f kj70).bind fun t462 => (some t462)) = some r := by rw [if_neg (show ¬ (false = true) by decide)] at H; exact H
                    clear H
                    have H := H1
                    clear H1
                    replace H := Option.bind_eq_some_iff.mp H
                    obtain ⟨t462, A1180, H⟩ := H
                    replace H : (some t462) = some r := H
                    have A118 := zad.mk A1180
                    clear A1180
                    obtain rfl := Option.some.inj H
                    go_wp2_with (first | ((with_reducible refine zav (f := 12) rfl ?_); refine zbl (some 160) rfl rfl Tryz.func12 (by kernel_rfl) rfl #[] rfl (by (try simp only [List.map_toArray, List.map_cons, List.map_nil]); first | done | rfl | (simp only [List.length_drop, List.length_take]; rfl)) ?_; (with_reducible refine (zaz.calls kj70  t462 _ ?side1 A118.out).mono ?_); (case side1 => exact Tabs.below hT (by repeat (first | (with_reducible first | exact HB.out | apply zab | apply zaa | apply zac | refine zaj ?_ GE407.out) | exact HB.out))); rintro e w119 ⟨rfl, hb⟩; refine ⟨_, rfl, ?_⟩; have n0_ := zad.mk (Kd.zbk (by (with_reducible repeat (first | apply Kd.zan | apply Kd.zaq | apply Kd.zaw)); exact HO_12.out) hb); have n1_ := zad.mk (Kd.zbk (by (with_reducible repeat (first | apply Kd.zan | apply Kd.zaq | apply Kd.zaw)); exact HO_13.out) hb); have n2_ := zad.mk (zbg (g := gb407) (o := .cells #[.int .u8 a2_0, .string a2_1, .int .i64 a2_2] 33 (0, 0)) (by (with_reducible repeat (first | refine zas ?_ _ | refine zat ?_ | refine zar ?_ _)); exact BK407.out) hb); have n3_ := zad.mk (zah (by repeat (first | (with_reducible first | exact HB.out | apply zab | apply zaa | apply zac | refine zaj ?_ GE407.out) | exact HB.out)) hb); clear HO_12; clear HO_13; clear BK407; clear HB; have HO_12 := n0_; have HO_13 := n1_; have BK407 := n2_; have HB := n3_; clear n0_ n1_ n2_ n3_; (try clear hb); (try clear hb2); (try clear hk); (try clear hi)))
                    go_ret
                    exact ⟨by first | rfl | (simp [zak, zal] <;> rfl) | (simp [*, zak, zal] <;> rfl), by repeat (first | (with_reducible first | exact HB.out | apply zab | apply zaa | apply zac | refine zaj ?_ GE407.out) | exact HB.out)⟩
             ·rw [if_neg c54] at H
              exact absurd H (by simp)
            ·rw [if_neg c53] at H
             exact absurd H (by simp)
        ·rw [if_neg c43] at H
         exact absurd H (by simp)
       ·rw [if_neg c42] at H
        exact absurd H (by simp)
end Go.Proofs.YtgmmngipnjmkfaaGreatDoor.Q
end
