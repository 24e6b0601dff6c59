/- Lemmas of the proof (cut to what it uses, by wip/trim.py). -/
import Derived.BigQuiet
import Derived.Lib.Hide
import Derived.Lib.SliceRun
import Derived.Deep.QuietTactic
import Derived.Test.YtgmmngipnjmkfaaGreatDoorEo1
import Derived.Test.YtgmmngipnjmkfaaGreatDoorEo2
import Derived.Test.YtgmmngipnjmkfaaGreatDoorEo3
section
namespace Go.Proofs.YtgmmngipnjmkfaaGreatDoor.Q
open Go.Proofs.YtgmmngipnjmkfaaGreatDoor.Hand
open Go.RowKit Go.Proofs.YtgmmngipnjmkfaaGreatDoorW.PrintWords Go.Proofs.YtgmmngipnjmkfaaGreatDoorW.PrintLast Go.Proofs.YtgmmngipnjmkfaaGreatDoorW.PrintMore
attribute [local go_sem] zda zdb zdm zdn zcq zcr zdc zdd
set_option linter.unusedVariables false
set_option linter.unusedSimpArgs false
def zbq.f (a0 : Int) : Option (Int) := some (kindOf a0)
theorem zbq.calls (a0 : Int) (r : Int) (w : World) (h : zbq.f a0 = some r) :
    Calls Tryz.prog 25 #[.int .u8 a0] w fun e w' => e = .returned (.int .u8 r) ∧ Below w.heap.size w w' := by
  obtain rfl := Option.some.inj h
  exact zc9 a0 w
def za5.l0 : Nat → ByteArray → Int → Option (Int)
  | 0, _, _ => none
  | k + 1, x0, x3 => if x3 < (x0.size : Int) then (if 0 ≤ x3 then ((zbq.f (bt x0 x3)).bind fun t101 => (if 0 < (x0.size : Int) then ((zbq.f (bt x0 0)).bind fun t102 => (if t101 = t102 then (za5.l0 k x0 (wrap64 (x3 + 1))) else (some x3))) else (none))) else (none)) else (some x3)
def za5.f (k : Nat) (a0 : ByteArray) : Option (Int) := za5.l0 k a0 1
theorem za5.zdf : ∀ k, (∀ y0 y1, LeO (za5.l0 k y0 y1) (za5.l0 (k + 1) y0 y1))
  | 0 => fun _ _ r h => by simp [za5.l0] at h
  | k + 1 => by
    have ih0 := za5.zdf k
    · intro y0 y1
      unfold za5.l0
      repeat' first
      | (with_reducible exact ih0 _ _)
      | (with_reducible exact LeO.refl _)
      | (with_reducible exact LeO.none _)
      | (with_reducible refine LeO.ite ?_ ?_)
      | (with_reducible refine LeO.bind ?_ (fun _ => ?_))
      | exact ih0 _ _
      | exact LeO.none _
      | refine LeO.ite ?_ ?_
      | refine LeO.bind ?_ (fun _ => ?_)
theorem za5.mono : ∀ a0 k, LeO (za5.f k a0) (za5.f (k + 1) a0) := by
  intro a0 k
  have ih0 := za5.zdf k
  unfold za5.f
  repeat' first
      | (with_reducible exact ih0 _ _)
      | (with_reducible exact LeO.refl _)
      | (with_reducible exact LeO.none _)
      | (with_reducible refine LeO.ite ?_ ?_)
      | (with_reducible refine LeO.bind ?_ (fun _ => ?_))
      | exact ih0 _ _
      | exact LeO.none _
      | refine LeO.ite ?_ ?_
      | refine LeO.bind ?_ (fun _ => ?_)
def za5.T2 : Bool × List (List Nat × List Nat) := (true, [([], []), ([], []), ([1], [1]), ([0, 2], [0, 2]), ([3], [3]), ([4], [4]), ([4], [4]), ([5, 6, 4], [4, 5, 6]), ([7, 4, 4], [4, 7]), ([4], [4]), ([9, 4], [4, 9]), ([10, 8, 4], [4, 10]), ([8, 11, 4], [4, 8, 11]), ([4, 12], [4, 12])])
def za5.B2 : List Nat := [0, 0, 2, 7, 15, 31, 31, 127, 255, 31, 543, 2047, 4095, 8191]
theorem za5.tab2 : rtab .any (opsOf Tryz.f39 2) = za5.T2 := by kernel_rfl
theorem za5.bits2 : waitsOk za5.T2.2 za5.B2 = true := by kernel_rfl
set_option maxHeartbeats 8000000 in
set_option maxRecDepth 100000 in
theorem za5.calls (k : Nat) (a0 : ByteArray) (r : Int) (w : World) (h : za5.f k a0 = some r) :
 Calls Tryz.prog 39 #[.string a0] w fun e w' => e = .returned (.int .i64 r) ∧ Below w.heap.size w w' := by
 have HB := zad.mk (Below.refl w.heap.size w)
 have H : (za5.l0 k a0 1) = some r := h
 clear h
 have H' := zad.mk H
 clear H
 go_enter Tryz.func39, Tryz.ntmps39
 go_wp2
 go_loopg [3] k (fun kq v3 w' => ∃ (x3_1 : Int), v3 = .int .i64 x3_1 ∧ zad (za5.l0 kq a0 x3_1 = some r) ∧ zad (kq ≤ k) ∧ zad (Below w.heap.size w w'))
 case atStart => exact ⟨(1), (by first | rfl | (simp; done) | (simp [*]; done)), H', ⟨Nat.le_refl _⟩, ⟨by repeat (first | (with_reducible first | exact HB.out | apply zab | apply zaa | apply zac) | exact HB.out)⟩⟩
 case round =>
  clear H'
  obtain ⟨x3_1, rfl, HA, HK1, HB⟩ := hrel
  cases gk with
  | zero => exact absurd HA.out (by simp [za5.l0])
  | succ k1 =>
   have H := HA.out
   clear HA
   simp only [za5.l0] at H
   by_cases c2 : x3_1 < (a0.size : Int)
   ·rw [if_pos c2] at H
    have c2b0 : decide (x3_1 < (a0.size : Int)) = true := decide_eq_true c2
    clear c2
    by_cases c3 : 0 ≤ x3_1
    ·rw [if_pos c3] at H
     have c3b0 : decide (0 ≤ x3_1) = true := decide_eq_true c3
     clear c3
     replace H := Option.bind_eq_some_iff.mp H
     obtain ⟨t101, A50, H⟩ := H
     replace H : (if 0 < (a0.size : Int) then ((zbq.f (bt a0 0)).bind fun t102 => (if t101 = t102 then (za5.l0 k1 a0 (wrap64 (x3_1 + 1))) else (some x3_1))) else (none)) = some r := H
     have A5 := zad.mk A50
     clear A50
     by_cases c6 : 0 < (a0.size : Int)
     ·rw [if_pos c6] at H
      have c6b0 : decide (0 < (a0.size : Int)) = true := decide_eq_true c6
      have c6b1 : decide (0 < a0.size) = true := decide_eq_true (by omega)
      clear c6
      replace H := Option.bind_eq_some_iff.mp H
      obtain ⟨t102, A80, H⟩ := H
      replace H : (if t101 = t102 then (za5.l0 k1 a0 (wrap64 (x3_1 + 1))) else (some x3_1)) = some r := H
      have A8 := zad.mk A80
      clear A80
      by_cases c9 : t101 = t102
      ·rw [if_pos c9] at H
       have c9b0 : (t101 == t102) = true := beq_iff_eq.mpr c9
       have c9b1 : (t101 != t102) = false := bne_eq_false_iff_eq.mpr c9
       clear c9
       have H' := zad.mk H
       clear H
       try go_wp2
       have n0_ := zad.mk (zac HB.out)
       clear HB
       have HB := n0_
       clear n0_
       have p4 : 0 ≤ (x3_1 : Int) := of_decide_eq_true (by first | (with_reducible assumption) | assumption)
       have q4 : x3_1 < (a0.size : Int) := of_decide_eq_true (by first | (with_reducible assumption) | assumption)
       have hx4 := bt_at a0 x3_1
       replace p4 := eq_true p4
       replace q4 := eq_true q4
       have p7 : 0 ≤ (0 : Int) := (by omega)
       have q7 : 0 < a0.size := (by have : (0 : Int) < (a0.size : Int) := of_decide_eq_true (by first | (with_reducible assumption) | assumption); omega)
       have hx7 : ∀ h : 0 < a0.size, ((a0[0]'h).toNat : Int) = bt a0 0 := bt_at a0 0
       clear p7
       have qi7 : (0 < (a0.size : Int)) = True := eq_true (of_decide_eq_true (by first | (with_reducible assumption) | assumption))
       replace q7 := eq_true q7
       refine start_ (n := 14) (S := fun w' => True) (ds := []) #[false, false, false, false, false, false, false, false, false, false, false, false, false, false] (by kernel_rfl) rfl rfl trivial (fun hHeld => ?_); refine with_tabW za5.tab2 za5.bits2 (fun HT_ HW_ => ?_)
       generalize wr.drew = w10 at HB hHeld ⊢
       refine pure_ (i := 0) (N := some 4) (v := ?_) (a' := ?_) #[true, false, false, false, false, false, false, false, false, false, false, false, false, false] rfl rfl (zbi HT_.out (by kernel_rfl)) (fun _ _ _ h => h) (Or.inl ⟨by rfl, ?_⟩) ?_ ?_
       rotate_left
       ·intro w'
        go_simp
        with_reducible rfl
       rotate_left
       ·simp only [Act.put, List.setIfInBounds_toArray, List.set_cons_zero, List.set_cons_succ, i64_w, i32_w]
        rfl
       refine pure_ (i := 1) (N := some 5) (v := ?_) (a' := ?_) #[true, true, false, false, false, false, false, false, false, false, false, false, false, false] rfl rfl (zbi HT_.out (by kernel_rfl)) (fun _ _ _ h => h) (Or.inl ⟨by rfl, ?_⟩) ?_ ?_
       rotate_left
       ·intro w'
        go_simp
        with_reducible rfl
       rotate_left
       ·simp only [Act.put, List.setIfInBounds_toArray, List.set_cons_zero, List.set_cons_succ, i64_w, i32_w]
        rfl
       refine pure_ (i := 2) (N := some 6) (v := ?_) (a' := ?_) #[true, true, true, false, false, false, false, false, false, false, false, false, false, false] rfl rfl (zbi HT_.out (by kernel_rfl)) (fun _ _ _ h => h) (Or.inl ⟨by rfl, ?_⟩) ?_ ?_
       rotate_left
       ·intro w'
        go_simp
        with_reducible rfl
       rotate_left
       ·simp only [Act.put, List.setIfInBounds_toArray, List.set_cons_zero, List.set_cons_succ, i64_w, i32_w]
        rfl
       refine pure_ (i := 3) (N := some 7) (v := ?_) (a' := ?_) #[true, true, true, true, false, false, false, false, false, false, false, false, false, false] rfl rfl (zbi HT_.out (by kernel_rfl)) (fun _ _ _ h => h) (Or.inl ⟨by rfl, ?_⟩) ?_ ?_
       rotate_left
       ·intro w'
        go_simp
        with_reducible rfl
       rotate_left
       ·simp only [Act.put, List.setIfInBounds_toArray, List.set_cons_zero, List.set_cons_succ, i64_w, i32_w]
        rfl
       refine pure_ (i := 4) (N := some 8) (v := ?_) (a' := ?_) #[true, true, true, true, true, false, false, false, false, false, false, false, false, false] rfl rfl (zbi HT_.out (by kernel_rfl)) (fun _ _ _ h => h) (Or.inl ⟨by rfl, ?_⟩) ?_ ?_
       rotate_left
       ·intro w'
        go_simp
        with_reducible rfl
       rotate_left
       ·simp only [Act.put, List.setIfInBounds_toArray, List.set_cons_zero, List.set_cons_succ, i64_w, i32_w]
        rfl
       refine pure_ (i := 5) (N := some 9) (v := ?_) (a' := ?_) #[true, true, true, true, true, true, false, false, false, false, false, false, false, false] rfl rfl (zbi HT_.out (by kernel_rfl)) (fun _ _ _ h => h) (Or.inl ⟨by rfl, ?_⟩) ?_ ?_
       rotate_left
       ·intro w'
        go_simp
        with_reducible rfl
       rotate_left
       ·simp only [Act.put, List.setIfInBounds_toArray, List.set_cons_zero, List.set_cons_succ, i64_w, i32_w]
        rfl
       refine pure_ (i := 6) (N := some 10) (v := ?_) (a' := ?_) #[true, true, true, true, true, true, true, false, false, false, false, false, false, false] rfl rfl (zbi HT_.out (by kernel_rfl)) (fun _ _ _ h => h) (Or.inl ⟨by rfl, ?_⟩) ?_ ?_
       rotate_left
       ·intro w'
        go_simp
        with_reducible rfl
       rotate_left
       ·simp only [Act.put, List.setIfInBounds_toArray, List.set_cons_zero, List.set_cons_succ, i64_w, i32_w]
        rfl
       refine pure_ (i := 9) (N := some 13) (v := ?_) (a' := ?_) #[true, true, true, true, true, true, true, false, false, true, false, false, false, false] rfl rfl (zbi HT_.out (by kernel_rfl)) (fun _ _ _ h => h) (Or.inl ⟨by rfl, ?_⟩) ?_ ?_
       rotate_left
       ·intro w'
        go_simp
        with_reducible rfl
       rotate_left
       ·simp only [Act.put, List.setIfInBounds_toArray, List.set_cons_zero, List.set_cons_succ, i64_w, i32_w]
        rfl
       refine take_ (i := 7) (N := some 11) (v := ?_) (a' := ?_) #[true, true, true, true, true, true, true, true, false, true, false, false, false, false] rfl rfl (zdt HT_.out HW_.out (by kernel_rfl)) (fun _ _ _ h => h) (Or.inl ⟨by rfl, ?_⟩) hHeld ?_ ?_
       rotate_left
       ·intro w' _
        go_simp
        with_reducible rfl
       rotate_left
       ·simp only [Act.put, List.setIfInBounds_toArray, List.set_cons_zero, List.set_cons_succ, i64_w, i32_w]
        rfl
       refine take_ (i := 10) (N := some 14) (v := ?_) (a' := ?_) #[true, true, true, true, true, true, true, true, false, true, true, false, false, false] rfl rfl (zdt HT_.out HW_.out (by kernel_rfl)) (fun _ _ _ h => h) (Or.inl ⟨by rfl, ?_⟩) hHeld ?_ ?_
       rotate_left
       ·intro w' _
        go_simp
        with_reducible rfl
       rotate_left
       ·simp only [Act.put, List.setIfInBounds_toArray, List.set_cons_zero, List.set_cons_succ, i64_w, i32_w]
        rfl
       refine one_ (i := 8) (N := some 12) #[true, true, true, true, true, true, true, true, true, true, true, false, false, false] rfl rfl (one_of HT_.out (by kernel_rfl)) (by decide) (fun K hK => ?_)
       refine goes_ Tryz.func25 (by kernel_rfl) rfl #[.int .u8 (bt a0 x3_1)] (by rfl) rfl rfl (by (try simp only [List.map_toArray, List.map_cons, List.map_nil]); first | done | rfl | (simp only [List.length_drop, List.length_take]; rfl)) ?_
       with_reducible refine (zbq.calls (bt a0 x3_1) t101 _ A5.out).mono ?_
       rintro e w11 ⟨rfl, hb⟩
       refine ⟨_, rfl, ?_⟩
       have n0_ := zad.mk (zaf (by repeat (first | (with_reducible first | exact HB.out | apply zab | apply zaa | apply zac) | exact HB.out)) hb)
       clear HB
       have HB := n0_
       clear n0_
       (try clear hb)
       (try clear hb2)
       (try clear hk)
       (try clear hi)
       refine hK.out _ _ trivial (fun hHeld => ?_)
       clear hK K
       refine norm_ (a' := ?_) ?_ ?_
       rotate_left
       ·show Act.put _ (some 12) _ = _
        simp only [Act.put, List.setIfInBounds_toArray, List.set_cons_zero, List.set_cons_succ, i64_w, i32_w]
        rfl
       refine one_ (i := 11) (N := some 15) #[true, true, true, true, true, true, true, true, true, true, true, true, false, false] rfl rfl (one_of HT_.out (by kernel_rfl)) (by decide) (fun K hK => ?_)
       refine goes_ Tryz.func25 (by kernel_rfl) rfl #[.int .u8 (bt a0 0)] (by rfl) rfl rfl (by (try simp only [List.map_toArray, List.map_cons, List.map_nil]); first | done | rfl | (simp only [List.length_drop, List.length_take]; rfl)) ?_
       with_reducible refine (zbq.calls (bt a0 0) t102 _ A8.out).mono ?_
       rintro e w12 ⟨rfl, hb⟩
       refine ⟨_, rfl, ?_⟩
       have n0_ := zad.mk (zaf (by repeat (first | (with_reducible first | exact HB.out | apply zab | apply zaa | apply zac) | exact HB.out)) hb)
       clear HB
       have HB := n0_
       clear n0_
       (try clear hb)
       (try clear hb2)
       (try clear hk)
       (try clear hi)
       refine hK.out _ _ trivial (fun hHeld => ?_)
       clear hK K
       refine norm_ (a' := ?_) ?_ ?_
       rotate_left
       ·show Act.put _ (some 15) _ = _
        simp only [Act.put, List.setIfInBounds_toArray, List.set_cons_zero, List.set_cons_succ, i64_w, i32_w]
        rfl
       refine pure_ (i := 12) (N := some 16) (v := ?_) (a' := ?_) #[true, true, true, true, true, true, true, true, true, true, true, true, true, false] rfl rfl (zbi HT_.out (by kernel_rfl)) (fun _ _ _ h => h) (Or.inl ⟨by rfl, ?_⟩) ?_ ?_
       rotate_left
       ·intro w'
        go_simp
        with_reducible rfl
       rotate_left
       ·simp only [Act.put, List.setIfInBounds_toArray, List.set_cons_zero, List.set_cons_succ, i64_w, i32_w]
        rfl
       refine pure_ (i := 13) (N := some 17) (v := ?_) (a' := ?_) #[true, true, true, true, true, true, true, true, true, true, true, true, true, true] rfl rfl (zbi HT_.out (by kernel_rfl)) (fun _ _ _ h => h) (Or.inl ⟨by rfl, ?_⟩) ?_ ?_
       rotate_left
       ·intro w'
        go_simp
        with_reducible rfl
       rotate_left
       ·simp only [Act.put, List.setIfInBounds_toArray, List.set_cons_zero, List.set_cons_succ, i64_w, i32_w]
        rfl
       refine done_ (done_of HT_.out (by kernel_rfl)) ?_
       try go_wp2
       go_roundg k1
       case measure => have := HK1.out; omega
       case rel => exact ⟨(wrap64 (x3_1 + 1)), (by first | rfl | (simp; done) | (simp [*]; done)), H', ⟨by have := HK1.out; omega⟩, ⟨by repeat (first | (with_reducible first | exact HB.out | apply zab | apply zaa | apply zac) | exact HB.out)⟩⟩
      ·rw [if_neg c9] at H
       have c9b0 : (t101 == t102) = false := beq_eq_false_iff_ne.mpr c9
       have c9b1 : (t101 != t102) = true := bne_iff_ne.mpr c9
       obtain rfl := Option.some.inj H
       try go_wp2
       have n0_ := zad.mk (zac HB.out)
       clear HB
       have HB := n0_
       clear n0_
       have p4 : 0 ≤ (x3_1 : Int) := of_decide_eq_true (by first | (with_reducible assumption) | assumption)
       have q4 : x3_1 < (a0.size : Int) := of_decide_eq_true (by first | (with_reducible assumption) | assumption)
       have hx4 := bt_at a0 x3_1
       replace p4 := eq_true p4
       replace q4 := eq_true q4
       have p7 : 0 ≤ (0 : Int) := (by omega)
       have q7 : 0 < a0.size := (by have : (0 : Int) < (a0.size : Int) := of_decide_eq_true (by first | (with_reducible assumption) | assumption); omega)
       have hx7 : ∀ h : 0 < a0.size, ((a0[0]'h).toNat : Int) = bt a0 0 := bt_at a0 0
       clear p7
       have qi7 : (0 < (a0.size : Int)) = True := eq_true (of_decide_eq_true (by first | (with_reducible assumption) | assumption))
       replace q7 := eq_true q7
       refine start_ (n := 14) (S := fun w' => True) (ds := []) #[false, false, false, false, false, false, false, false, false, false, false, false, false, false] (by kernel_rfl) rfl rfl trivial (fun hHeld => ?_); refine with_tabW za5.tab2 za5.bits2 (fun HT_ HW_ => ?_)
       generalize wr.drew = w13 at HB hHeld ⊢
       refine pure_ (i := 0) (N := some 4) (v := ?_) (a' := ?_) #[true, false, false, false, false, false, false, false, false, false, false, false, false, false] rfl rfl (zbi HT_.out (by kernel_rfl)) (fun _ _ _ h => h) (Or.inl ⟨by rfl, ?_⟩) ?_ ?_
       rotate_left
       ·intro w'
        go_simp
        with_reducible rfl
       rotate_left
       ·simp only [Act.put, List.setIfInBounds_toArray, List.set_cons_zero, List.set_cons_succ, i64_w, i32_w]
        rfl
       refine pure_ (i := 1) (N := some 5) (v := ?_) (a' := ?_) #[true, true, false, false, false, false, false, false, false, false, false, false, false, false] rfl rfl (zbi HT_.out (by kernel_rfl)) (fun _ _ _ h => h) (Or.inl ⟨by rfl, ?_⟩) ?_ ?_
       rotate_left
       ·intro w'
        go_simp
        with_reducible rfl
       rotate_left
       ·simp only [Act.put, List.setIfInBounds_toArray, List.set_cons_zero, List.set_cons_succ, i64_w, i32_w]
        rfl
       refine pure_ (i := 2) (N := some 6) (v := ?_) (a' := ?_) #[true, true, true, false, false, false, false, false, false, false, false, false, false, false] rfl rfl (zbi HT_.out (by kernel_rfl)) (fun _ _ _ h => h) (Or.inl ⟨by rfl, ?_⟩) ?_ ?_
       rotate_left
       ·intro w'
        go_simp
        with_reducible rfl
       rotate_left
       ·simp only [Act.put, List.setIfInBounds_toArray, List.set_cons_zero, List.set_cons_succ, i64_w, i32_w]
        rfl
       refine pure_ (i := 3) (N := some 7) (v := ?_) (a' := ?_) #[true, true, true, true, false, false, false, false, false, false, false, false, false, false] rfl rfl (zbi HT_.out (by kernel_rfl)) (fun _ _ _ h => h) (Or.inl ⟨by rfl, ?_⟩) ?_ ?_
       rotate_left
       ·intro w'
        go_simp
        with_reducible rfl
       rotate_left
       ·simp only [Act.put, List.setIfInBounds_toArray, List.set_cons_zero, List.set_cons_succ, i64_w, i32_w]
        rfl
       refine pure_ (i := 4) (N := some 8) (v := ?_) (a' := ?_) #[true, true, true, true, true, false, false, false, false, false, false, false, false, false] rfl rfl (zbi HT_.out (by kernel_rfl)) (fun _ _ _ h => h) (Or.inl ⟨by rfl, ?_⟩) ?_ ?_
       rotate_left
       ·intro w'
        go_simp
        with_reducible rfl
       rotate_left
       ·simp only [Act.put, List.setIfInBounds_toArray, List.set_cons_zero, List.set_cons_succ, i64_w, i32_w]
        rfl
       refine pure_ (i := 5) (N := some 9) (v := ?_) (a' := ?_) #[true, true, true, true, true, true, false, false, false, false, false, false, false, false] rfl rfl (zbi HT_.out (by kernel_rfl)) (fun _ _ _ h => h) (Or.inl ⟨by rfl, ?_⟩) ?_ ?_
       rotate_left
       ·intro w'
        go_simp
        with_reducible rfl
       rotate_left
       ·simp only [Act.put, List.setIfInBounds_toArray, List.set_cons_zero, List.set_cons_succ, i64_w, i32_w]
        rfl
       refine pure_ (i := 6) (N := some 10) (v := ?_) (a' := ?_) #[true, true, true, true, true, true, true, false, false, false, false, false, false, false] rfl rfl (zbi HT_.out (by kernel_rfl)) (fun _ _ _ h => h) (Or.inl ⟨by rfl, ?_⟩) ?_ ?_
       rotate_left
       ·intro w'
        go_simp
        with_reducible rfl
       rotate_left
       ·simp only [Act.put, List.setIfInBounds_toArray, List.set_cons_zero, List.set_cons_succ, i64_w, i32_w]
        rfl
       refine pure_ (i := 9) (N := some 13) (v := ?_) (a' := ?_) #[true, true, true, true, true, true, true, false, false, true, false, false, false, false] rfl rfl (zbi HT_.out (by kernel_rfl)) (fun _ _ _ h => h) (Or.inl ⟨by rfl, ?_⟩) ?_ ?_
       rotate_left
       ·intro w'
        go_simp
        with_reducible rfl
       rotate_left
       ·simp only [Act.put, List.setIfInBounds_toArray, List.set_cons_zero, List.set_cons_succ, i64_w, i32_w]
        rfl
       refine take_ (i := 7) (N := some 11) (v := ?_) (a' := ?_) #[true, true, true, true, true, true, true, true, false, true, false, false, false, false] rfl rfl (zdt HT_.out HW_.out (by kernel_rfl)) (fun _ _ _ h => h) (Or.inl ⟨by rfl, ?_⟩) hHeld ?_ ?_
       rotate_left
       ·intro w' _
        go_simp
        with_reducible rfl
       rotate_left
       ·simp only [Act.put, List.setIfInBounds_toArray, List.set_cons_zero, List.set_cons_succ, i64_w, i32_w]
        rfl
       refine take_ (i := 10) (N := some 14) (v := ?_) (a' := ?_) #[true, true, true, true, true, true, true, true, false, true, true, false, false, false] rfl rfl (zdt HT_.out HW_.out (by kernel_rfl)) (fun _ _ _ h => h) (Or.inl ⟨by rfl, ?_⟩) hHeld ?_ ?_
       rotate_left
       ·intro w' _
        go_simp
        with_reducible rfl
       rotate_left
       ·simp only [Act.put, List.setIfInBounds_toArray, List.set_cons_zero, List.set_cons_succ, i64_w, i32_w]
        rfl
       refine one_ (i := 8) (N := some 12) #[true, true, true, true, true, true, true, true, true, true, true, false, false, false] rfl rfl (one_of HT_.out (by kernel_rfl)) (by decide) (fun K hK => ?_)
       refine goes_ Tryz.func25 (by kernel_rfl) rfl #[.int .u8 (bt a0 x3_1)] (by rfl) rfl rfl (by (try simp only [List.map_toArray, List.map_cons, List.map_nil]); first | done | rfl | (simp only [List.length_drop, List.length_take]; rfl)) ?_
       with_reducible refine (zbq.calls (bt a0 x3_1) t101 _ A5.out).mono ?_
       rintro e w14 ⟨rfl, hb⟩
       refine ⟨_, rfl, ?_⟩
       have n0_ := zad.mk (zaf (by repeat (first | (with_reducible first | exact HB.out | apply zab | apply zaa | apply zac) | exact HB.out)) hb)
       clear HB
       have HB := n0_
       clear n0_
       (try clear hb)
       (try clear hb2)
       (try clear hk)
       (try clear hi)
       refine hK.out _ _ trivial (fun hHeld => ?_)
       clear hK K
       refine norm_ (a' := ?_) ?_ ?_
       rotate_left
       ·show Act.put _ (some 12) _ = _
        simp only [Act.put, List.setIfInBounds_toArray, List.set_cons_zero, List.set_cons_succ, i64_w, i32_w]
        rfl
       refine one_ (i := 11) (N := some 15) #[true, true, true, true, true, true, true, true, true, true, true, true, false, false] rfl rfl (one_of HT_.out (by kernel_rfl)) (by decide) (fun K hK => ?_)
       refine goes_ Tryz.func25 (by kernel_rfl) rfl #[.int .u8 (bt a0 0)] (by rfl) rfl rfl (by (try simp only [List.map_toArray, List.map_cons, List.map_nil]); first | done | rfl | (simp only [List.length_drop, List.length_take]; rfl)) ?_
       with_reducible refine (zbq.calls (bt a0 0) t102 _ A8.out).mono ?_
       rintro e w15 ⟨rfl, hb⟩
       refine ⟨_, rfl, ?_⟩
       have n0_ := zad.mk (zaf (by repeat (first | (with_reducible first | exact HB.out | apply zab | apply zaa | apply zac) | exact HB.out)) hb)
       clear HB
       have HB := n0_
       clear n0_
       (try clear hb)
       (try clear hb2)
       (try clear hk)
       (try clear hi)
       refine hK.out _ _ trivial (fun hHeld => ?_)
       clear hK K
       refine norm_ (a' := ?_) ?_ ?_
       rotate_left
       ·show Act.put _ (some 15) _ = _
        simp only [Act.put, List.setIfInBounds_toArray, List.set_cons_zero, List.set_cons_succ, i64_w, i32_w]
        rfl
       refine pure_ (i := 12) (N := some 16) (v := ?_) (a' := ?_) #[true, true, true, true, true, true, true, true, true, true, true, true, true, false] rfl rfl (zbi HT_.out (by kernel_rfl)) (fun _ _ _ h => h) (Or.inl ⟨by rfl, ?_⟩) ?_ ?_
       rotate_left
       ·intro w'
        go_simp
        with_reducible rfl
       rotate_left
       ·simp only [Act.put, List.setIfInBounds_toArray, List.set_cons_zero, List.set_cons_succ, i64_w, i32_w]
        rfl
       refine pure_ (i := 13) (N := some 17) (v := ?_) (a' := ?_) #[true, true, true, true, true, true, true, true, true, true, true, true, true, true] rfl rfl (zbi HT_.out (by kernel_rfl)) (fun _ _ _ h => h) (Or.inl ⟨by rfl, ?_⟩) ?_ ?_
       rotate_left
       ·intro w'
        go_simp
        with_reducible rfl
       rotate_left
       ·simp only [Act.put, List.setIfInBounds_toArray, List.set_cons_zero, List.set_cons_succ, i64_w, i32_w]
        rfl
       refine done_ (done_of HT_.out (by kernel_rfl)) ?_
       try go_wp2
       go_ret
       exact ⟨by first | rfl | (simp [zah, zai] <;> rfl) | (simp [*, zah, zai] <;> rfl), by repeat (first | (with_reducible first | exact HB.out | apply zab | apply zaa | apply zac) | exact HB.out)⟩
     ·rw [if_neg c6] at H
      exact absurd H (by simp)
    ·rw [if_neg c3] at H
     exact absurd H (by simp)
   ·rw [if_neg c2] at H
    have c2b0 : decide (x3_1 < (a0.size : Int)) = false := decide_eq_false c2
    clear c2
    obtain rfl := Option.some.inj H
    try go_wp2
    have n0_ := zad.mk (zac HB.out)
    clear HB
    have HB := n0_
    clear n0_
    refine start_ (n := 14) (S := fun w' => True) (ds := []) #[false, false, false, false, false, false, false, false, false, false, false, false, false, false] (by kernel_rfl) rfl rfl trivial (fun hHeld => ?_); refine with_tabW za5.tab2 za5.bits2 (fun HT_ HW_ => ?_)
    generalize wr.drew = w16 at HB hHeld ⊢
    refine pure_ (i := 0) (N := some 4) (v := ?_) (a' := ?_) #[true, false, false, false, false, false, false, false, false, false, false, false, false, false] rfl rfl (zbi HT_.out (by kernel_rfl)) (fun _ _ _ h => h) (Or.inl ⟨by rfl, ?_⟩) ?_ ?_
    rotate_left
    ·intro w'
     go_simp
     with_reducible rfl
    rotate_left
    ·simp only [Act.put, List.setIfInBounds_toArray, List.set_cons_zero, List.set_cons_succ, i64_w, i32_w]
     rfl
    refine pure_ (i := 1) (N := some 5) (v := ?_) (a' := ?_) #[true, true, false, false, false, false, false, false, false, false, false, false, false, false] rfl rfl (zbi HT_.out (by kernel_rfl)) (fun _ _ _ h => h) (Or.inl ⟨by rfl, ?_⟩) ?_ ?_
    rotate_left
    ·intro w'
     go_simp
     with_reducible rfl
    rotate_left
    ·simp only [Act.put, List.setIfInBounds_toArray, List.set_cons_zero, List.set_cons_succ, i64_w, i32_w]
     rfl
    refine pure_ (i := 2) (N := some 6) (v := ?_) (a' := ?_) #[true, true, true, false, false, false, false, false, false, false, false, false, false, false] rfl rfl (zbi HT_.out (by kernel_rfl)) (fun _ _ _ h => h) (Or.inl ⟨by rfl, ?_⟩) ?_ ?_
    rotate_left
    ·intro w'
     go_simp
     with_reducible rfl
    rotate_left
    ·simp only [Act.put, List.setIfInBounds_toArray, List.set_cons_zero, List.set_cons_succ, i64_w, i32_w]
     rfl
    refine pure_ (i := 3) (N := some 7) (v := ?_) (a' := ?_) #[true, true, true, true, false, false, false, false, false, false, false, false, false, false] rfl rfl (zbi HT_.out (by kernel_rfl)) (fun _ _ _ h => h) (Or.inl ⟨by rfl, ?_⟩) ?_ ?_
    rotate_left
    ·intro w'
     go_simp
     with_reducible rfl
    rotate_left
    ·simp only [Act.put, List.setIfInBounds_toArray, List.set_cons_zero, List.set_cons_succ, i64_w, i32_w]
     rfl
    refine pure_ (i := 4) (N := some 8) (v := ?_) (a' := ?_) #[true, true, true, true, true, false, false, false, false, false, false, false, false, false] rfl rfl (zbi HT_.out (by kernel_rfl)) (fun _ _ _ h => h) (Or.inl ⟨by rfl, ?_⟩) ?_ ?_
    rotate_left
    ·intro w'
     go_simp
     with_reducible rfl
    rotate_left
    ·simp only [Act.put, List.setIfInBounds_toArray, List.set_cons_zero, List.set_cons_succ, i64_w, i32_w]
     rfl
    refine pure_ (i := 5) (N := some 9) (v := undef) (a' := ?_) #[true, true, true, true, true, true, false, false, false, false, false, false, false, false] rfl rfl (zbi HT_.out (by kernel_rfl)) (fun _ _ _ h => h) (Or.inr ⟨by rfl, rfl⟩) ?_ ?_
    rotate_left
    ·simp only [Act.put, List.setIfInBounds_toArray, List.set_cons_zero, List.set_cons_succ, i64_w, i32_w]
     rfl
    refine pure_ (i := 6) (N := some 10) (v := undef) (a' := ?_) #[true, true, true, true, true, true, true, false, false, false, false, false, false, false] rfl rfl (zbi HT_.out (by kernel_rfl)) (fun _ _ _ h => h) (Or.inr ⟨by rfl, rfl⟩) ?_ ?_
    rotate_left
    ·simp only [Act.put, List.setIfInBounds_toArray, List.set_cons_zero, List.set_cons_succ, i64_w, i32_w]
     rfl
    refine pure_ (i := 7) (N := some 11) (v := undef) (a' := ?_) #[true, true, true, true, true, true, true, true, false, false, false, false, false, false] rfl rfl (zbi HT_.out (by kernel_rfl)) (fun _ _ _ h => h) (Or.inr ⟨by rfl, rfl⟩) ?_ ?_
    rotate_left
    ·simp only [Act.put, List.setIfInBounds_toArray, List.set_cons_zero, List.set_cons_succ, i64_w, i32_w]
     rfl
    refine pure_ (i := 8) (N := some 12) (v := undef) (a' := ?_) #[true, true, true, true, true, true, true, true, true, false, false, false, false, false] rfl rfl (zbi HT_.out (by kernel_rfl)) (fun _ _ _ h => h) (Or.inr ⟨by rfl, rfl⟩) ?_ ?_
    rotate_left
    ·simp only [Act.put, List.setIfInBounds_toArray, List.set_cons_zero, List.set_cons_succ, i64_w, i32_w]
     rfl
    refine pure_ (i := 9) (N := some 13) (v := undef) (a' := ?_) #[true, true, true, true, true, true, true, true, true, true, false, false, false, false] rfl rfl (zbi HT_.out (by kernel_rfl)) (fun _ _ _ h => h) (Or.inr ⟨by rfl, rfl⟩) ?_ ?_
    rotate_left
    ·simp only [Act.put, List.setIfInBounds_toArray, List.set_cons_zero, List.set_cons_succ, i64_w, i32_w]
     rfl
    refine pure_ (i := 10) (N := some 14) (v := undef) (a' := ?_) #[true, true, true, true, true, true, true, true, true, true, true, false, false, false] rfl rfl (zbi HT_.out (by kernel_rfl)) (fun _ _ _ h => h) (Or.inr ⟨by rfl, rfl⟩) ?_ ?_
    rotate_left
    ·simp only [Act.put, List.setIfInBounds_toArray, List.set_cons_zero, List.set_cons_succ, i64_w, i32_w]
     rfl
    refine pure_ (i := 11) (N := some 15) (v := undef) (a' := ?_) #[true, true, true, true, true, true, true, true, true, true, true, true, false, false] rfl rfl (zbi HT_.out (by kernel_rfl)) (fun _ _ _ h => h) (Or.inr ⟨by rfl, rfl⟩) ?_ ?_
    rotate_left
    ·simp only [Act.put, List.setIfInBounds_toArray, List.set_cons_zero, List.set_cons_succ, i64_w, i32_w]
     rfl
    refine pure_ (i := 12) (N := some 16) (v := undef) (a' := ?_) #[true, true, true, true, true, true, true, true, true, true, true, true, true, false] rfl rfl (zbi HT_.out (by kernel_rfl)) (fun _ _ _ h => h) (Or.inr ⟨by rfl, rfl⟩) ?_ ?_
    rotate_left
    ·simp only [Act.put, List.setIfInBounds_toArray, List.set_cons_zero, List.set_cons_succ, i64_w, i32_w]
     rfl
    refine pure_ (i := 13) (N := some 17) (v := ?_) (a' := ?_) #[true, true, true, true, true, true, true, true, true, true, true, true, true, true] rfl rfl (zbi HT_.out (by kernel_rfl)) (fun _ _ _ h => h) (Or.inl ⟨by rfl, ?_⟩) ?_ ?_
    rotate_left
    ·intro w'
     go_simp
     with_reducible rfl
    rotate_left
    ·simp only [Act.put, List.setIfInBounds_toArray, List.set_cons_zero, List.set_cons_succ, i64_w, i32_w]
     rfl
    refine done_ (done_of HT_.out (by kernel_rfl)) ?_
    try go_wp2
    go_ret
    exact ⟨by first | rfl | (simp [zah, zai] <;> rfl) | (simp [*, zah, zai] <;> rfl), by repeat (first | (with_reducible first | exact HB.out | apply zab | apply zaa | apply zac) | exact HB.out)⟩
def zb1.f (a0 : ByteArray) (a1 : Int) : Option (Int × Int) := if a1 < 0 ∨ a1 > (a0.size : Int) then some (0, 2) else some (symT (a0.extract a1.toNat a0.size), 0)
theorem zb1.calls (a0 : ByteArray) (a1 : Int) (r1 : Int) (r2 : Int) (w : World) (h : zb1.f a0 a1 = some (r1, r2)) :
    Calls Tryz.prog 40 #[.string a0, .int .i64 a1] w fun e w' => e = .returned (.tuple #[.int .i64 r1, .int .i64 r2]) ∧ Below w.heap.size w w' := by
  unfold zb1.f at h
  by_cases e : a1 < 0 ∨ a1 > (a0.size : Int)
  · rw [if_pos e] at h
    obtain ⟨rfl, rfl⟩ := Prod.mk.inj (Option.some.inj h)
    exact symbol_out a0 a1 w e
  · rw [if_neg e] at h
    obtain ⟨rfl, rfl⟩ := Prod.mk.inj (Option.some.inj h)
    obtain ⟨k, rfl⟩ := Int.eq_ofNat_of_zero_le (show 0 ≤ a1 by omega)
    exact symbol_in a0 k w (by omega)
def zbx.f (k : Nat) (a0 : ByteArray) : Option (Int × ByteArray × Int) := if 0 < (a0.size : Int) then ((zbq.f (bt a0 0)).bind fun t104 => (if t104 = 2 then ((za5.f k a0).bind fun t105 => (if 0 ≤ t105 then (if t105 ≤ (a0.size : Int) then (some (1, a0.extract 0 (t105 : Int).toNat, 0)) else (none)) else (none))) else (if t104 = 3 then ((za5.f k a0).bind fun t106 => (if 0 ≤ t106 then (if t106 ≤ (a0.size : Int) then (some (2, a0.extract 0 (t106 : Int).toNat, 0)) else (none)) else (none))) else ((zb1.f a0 0).bind fun bt107 => (if 0 ≤ bt107.1 then (if bt107.1 ≤ (a0.size : Int) then (some (3, a0.extract 0 (bt107.1 : Int).toNat, 0)) else (none)) else (none)))))) else (none)
theorem zbx.mono : ∀ a0 k, LeO (zbx.f k a0) (zbx.f (k + 1) a0) := by
  intro a0 k
  unfold zbx.f
  repeat' first
      | (with_reducible exact za5.mono _ _)
      | (with_reducible exact LeO.refl _)
      | (with_reducible exact LeO.none _)
      | (with_reducible refine LeO.ite ?_ ?_)
      | (with_reducible refine LeO.bind ?_ (fun _ => ?_))
      | exact za5.mono _ _
      | exact LeO.none _
      | refine LeO.ite ?_ ?_
      | refine LeO.bind ?_ (fun _ => ?_)
set_option maxHeartbeats 8000000 in
set_option maxRecDepth 100000 in
theorem zbx.calls (k : Nat) (a0 : ByteArray) (r1 : Int) (r2 : ByteArray) (r3 : Int) (w : World) (h : zbx.f k a0 = some (r1, r2, r3)) :
    Calls Tryz.prog 26 #[.string a0] w fun e w' => e = .returned (.agg #[.int .u8 r1, .string r2, .int .i64 r3]) ∧ Below w.heap.size w w' := by
  have hu33 := Tryz.underlying33
  have HB := zad.mk (Below.refl w.heap.size w)
  have H : (if 0 < (a0.size : Int) then ((zbq.f (bt a0 0)).bind fun t104 => (if t104 = 2 then ((za5.f k a0).bind fun t105 => (if 0 ≤ t105 then (if t105 ≤ (a0.size : Int) then (some (1, a0.extract 0 (t105 : Int).toNat, 0)) else (none)) else (none))) else (if t104 = 3 then ((za5.f k a0).bind fun t106 => (if 0 ≤ t106 then (if t106 ≤ (a0.size : Int) then (some (2, a0.extract 0 (t106 : Int).toNat, 0)) else (none)) else (none))) else ((zb1.f a0 0).bind fun bt107 => (if 0 ≤ bt107.1 then (if bt107.1 ≤ (a0.size : Int) then (some (3, a0.extract 0 (bt107.1 : Int).toNat, 0)) else (none)) else (none)))))) else (none)) = some (r1, r2, r3) := h
  clear h
  by_cases c2 : 0 < (a0.size : Int)
  · rw [if_pos c2] at H
    have c2b0 : decide (0 < (a0.size : Int)) = true := decide_eq_true c2
    have c2b1 : decide (0 < a0.size) = true := decide_eq_true (by omega)
    clear c2
    replace H := Option.bind_eq_some_iff.mp H
    obtain ⟨t104, A40, H⟩ := H
    replace H : (if t104 = 2 then ((za5.f k a0).bind fun t105 => (if 0 ≤ t105 then (if t105 ≤ (a0.size : Int) then (some (1, a0.extract 0 (t105 : Int).toNat, 0)) else (none)) else (none))) else (if t104 = 3 then ((za5.f k a0).bind fun t106 => (if 0 ≤ t106 then (if t106 ≤ (a0.size : Int) then (some (2, a0.extract 0 (t106 : Int).toNat, 0)) else (none)) else (none))) else ((zb1.f a0 0).bind fun bt107 => (if 0 ≤ bt107.1 then (if bt107.1 ≤ (a0.size : Int) then (some (3, a0.extract 0 (bt107.1 : Int).toNat, 0)) else (none)) else (none))))) = some (r1, r2, r3) := H
    have A4 := zad.mk A40
    clear A40
    by_cases c5 : t104 = 2
    · rw [if_pos c5] at H
      have c5b0 : (t104 == 2) = true := beq_iff_eq.mpr c5
      have c5b1 : (t104 != 2) = false := bne_eq_false_iff_eq.mpr c5
      clear c5
      replace H := Option.bind_eq_some_iff.mp H
      obtain ⟨t105, A60, H⟩ := H
      replace H : (if 0 ≤ t105 then (if t105 ≤ (a0.size : Int) then (some (1, a0.extract 0 (t105 : Int).toNat, 0)) else (none)) else (none)) = some (r1, r2, r3) := H
      have A6 := zad.mk A60
      clear A60
      by_cases c7 : 0 ≤ t105
      · rw [if_pos c7] at H
        have c7b0 := eq_true c7
        have c7b1 : decide (0 ≤ t105) = true := decide_eq_true c7
        clear c7
        by_cases c8 : t105 ≤ (a0.size : Int)
        · rw [if_pos c8] at H
          have c8b0 := eq_true c8
          have c8b1 : decide (t105 ≤ (a0.size : Int)) = true := decide_eq_true c8
          clear c8
          simp only [Option.some.injEq, Prod.mk.injEq] at H
          obtain ⟨rfl, rfl, rfl⟩ := H
          go_enter Tryz.func26, Tryz.ntmps26
          go_wp2_with (first | ((with_reducible refine zbt (N := 2) rfl ?_); refine zbs ?hg (N := 2) ?hd (cs := #[.int .u8 0, .string (⟨#[]⟩ : ByteArray), .int .i64 0]) (t := 33) ?hr ?_; (case hd => rfl); (case hg => rfl); (case hr => first | (go_simp; done) | (go_simp; rfl)); intro gb103 hg w9 hbox hb; have n0_ := zad.mk (zaf (by repeat (first | (with_reducible first | exact HB.out | apply zab | apply zaa | apply zac) | exact HB.out)) hb); have n1_ := zad.mk (hbox); have n2_ := zad.mk ((by rw [hg]; exact (zao (by repeat (first | (with_reducible first | exact HB.out | apply zab | apply zaa | apply zac) | exact HB.out))) : w.heap.size ≤ gb103)); have n3_ := zad.mk ((by rw [hg]; exact (zao (by repeat (first | (with_reducible first | exact HB.out | apply zab | apply zaa | apply zac) | exact HB.out))) : w.heap.size ≤ gb103)); clear HB; have HB := n0_; have BK103 := n1_; have GW103 := n2_; have GE103 := n3_; clear n0_ n1_ n2_ n3_; clear hb hbox hg; have p3 : 0 ≤ (0 : Int) := (by omega); have q3 : 0 < a0.size := (by have : (0 : Int) < (a0.size : Int) := of_decide_eq_true (by first | (with_reducible assumption) | assumption); omega); have hx3 : ∀ h : 0 < a0.size, ((a0[0]'h).toNat : Int) = bt a0 0 := bt_at a0 0; clear p3; have qi3 : (0 < (a0.size : Int)) = True := eq_true (of_decide_eq_true (by first | (with_reducible assumption) | assumption)); replace q3 := eq_true q3) | ((with_reducible refine zan (f := 25) rfl ?_); refine zbd (some 7) rfl rfl Tryz.func25 (by kernel_rfl) rfl #[.int .u8 (bt a0 0)] rfl (by (try simp only [List.map_toArray, List.map_cons, List.map_nil]); first | done | rfl | (simp only [List.length_drop, List.length_take]; rfl)) ?_; (with_reducible refine (zbq.calls (bt a0 0) t104 _ A4.out).mono ?_); rintro e w10 ⟨rfl, hb⟩; refine ⟨_, rfl, ?_⟩; have n0_ := zad.mk (zbn (g := gb103) (o := .cells #[.int .u8 0, .string (⟨#[]⟩ : ByteArray), .int .i64 0] 33 (0, 0)) (by (with_reducible repeat (first | refine zas ?_ _ | refine zaw ?_ | refine zar ?_ _)); exact BK103.out) hb); have n1_ := zad.mk (zaf (by repeat (first | (with_reducible first | exact HB.out | apply zab | apply zaa | apply zac | refine zaq ?_ GE103.out) | exact HB.out)) hb); clear BK103; clear HB; have BK103 := n0_; have HB := n1_; clear n0_ n1_; (try clear hb); (try clear hb2); (try clear hk); (try clear hi)) | ((with_reducible refine zan (f := 39) rfl ?_); refine zbd (some 12) rfl rfl Tryz.func39 (by kernel_rfl) rfl #[.string a0] rfl (by (try simp only [List.map_toArray, List.map_cons, List.map_nil]); first | done | rfl | (simp only [List.length_drop, List.length_take]; rfl)) ?_; (with_reducible refine (za5.calls k a0 t105 _ A6.out).mono ?_); rintro e w11 ⟨rfl, hb⟩; refine ⟨_, rfl, ?_⟩; have n0_ := zad.mk (zbn (g := gb103) (o := .cells #[.int .u8 0, .string (⟨#[]⟩ : ByteArray), .int .i64 0] 33 (0, 0)) (by (with_reducible repeat (first | refine zas ?_ _ | refine zaw ?_ | refine zar ?_ _)); exact BK103.out) hb); have n1_ := zad.mk (zaf (by repeat (first | (with_reducible first | exact HB.out | apply zab | apply zaa | apply zac | refine zaq ?_ GE103.out) | exact HB.out)) hb); clear BK103; clear HB; have BK103 := n0_; have HB := n1_; clear n0_ n1_; (try clear hb); (try clear hb2); (try clear hk); (try clear hi); have hcz12_0 : w11.cell? ⟨gb103, 0, none⟩ = some (.int .u8 0) := (zal BK103.out 0).trans rfl; have hcz12_1 : w11.cell? ⟨gb103, 1, none⟩ = some (.string (⟨#[]⟩ : ByteArray)) := (zal BK103.out 1).trans rfl; have hcz12_2 : w11.cell? ⟨gb103, 2, none⟩ = some (.int .i64 0) := (zal BK103.out 2).trans rfl; have hfz12_0 := zaj BK103.out 0; have hfz12_1 := zaj BK103.out 1; have hfz12_2 := zaj BK103.out 2))
          refine bodyPost_ret (results_cell_row rfl _ _ gb103 33 #[.int .u8 1, .string (a0.extract 0 (t105 : Int).toNat), .int .i64 0] (0, 0) _ rfl (by (with_reducible repeat (first | refine zas ?_ _ | refine zaw ?_ | refine zar ?_ _)); refine zbw (cs := #[.int .u8 1, .string (a0.extract 0 (t105 : Int).toNat), .int .i64 0]) ?_ 2 _ rfl; (with_reducible repeat (first | refine zas ?_ _ | refine zaw ?_ | refine zar ?_ _)); refine zbw (cs := #[.int .u8 1, .string (⟨#[]⟩ : ByteArray), .int .i64 0]) ?_ 1 _ rfl; (with_reducible repeat (first | refine zas ?_ _ | refine zaw ?_ | refine zar ?_ _)); refine zbw (cs := #[.int .u8 0, .string (⟨#[]⟩ : ByteArray), .int .i64 0]) ?_ 0 _ rfl; (with_reducible repeat (first | refine zas ?_ _ | refine zaw ?_ | refine zar ?_ _)); exact BK103.out) Tryz.underlying33 rfl (by kernel_rfl)) rfl ?_
          exact ⟨by first | rfl | (simp [zah, zai] <;> rfl) | (simp [*, zah, zai] <;> rfl), by repeat (first | (with_reducible first | exact HB.out | apply zab | apply zaa | apply zac | refine zaq ?_ GE103.out) | exact HB.out)⟩
        · rw [if_neg c8] at H
          exact absurd H (by simp)
      · rw [if_neg c7] at H
        exact absurd H (by simp)
    · rw [if_neg c5] at H
      have c5b0 : (t104 == 2) = false := beq_eq_false_iff_ne.mpr c5
      have c5b1 : (t104 != 2) = true := bne_iff_ne.mpr c5
      by_cases c13 : t104 = 3
      · rw [if_pos c13] at H
        have c13b0 : (t104 == 3) = true := beq_iff_eq.mpr c13
        have c13b1 : (t104 != 3) = false := bne_eq_false_iff_eq.mpr c13
        clear c13
        replace H := Option.bind_eq_some_iff.mp H
        obtain ⟨t106, A140, H⟩ := H
        replace H : (if 0 ≤ t106 then (if t106 ≤ (a0.size : Int) then (some (2, a0.extract 0 (t106 : Int).toNat, 0)) else (none)) else (none)) = some (r1, r2, r3) := H
        have A14 := zad.mk A140
        clear A140
        by_cases c15 : 0 ≤ t106
        · rw [if_pos c15] at H
          have c15b0 := eq_true c15
          have c15b1 : decide (0 ≤ t106) = true := decide_eq_true c15
          clear c15
          by_cases c16 : t106 ≤ (a0.size : Int)
          · rw [if_pos c16] at H
            have c16b0 := eq_true c16
            have c16b1 : decide (t106 ≤ (a0.size : Int)) = true := decide_eq_true c16
            clear c16
            simp only [Option.some.injEq, Prod.mk.injEq] at H
            obtain ⟨rfl, rfl, rfl⟩ := H
            go_enter Tryz.func26, Tryz.ntmps26
            go_wp2_with (first | ((with_reducible refine zbt (N := 2) rfl ?_); refine zbs ?hg (N := 2) ?hd (cs := #[.int .u8 0, .string (⟨#[]⟩ : ByteArray), .int .i64 0]) (t := 33) ?hr ?_; (case hd => rfl); (case hg => rfl); (case hr => first | (go_simp; done) | (go_simp; rfl)); intro gb103 hg w17 hbox hb; have n0_ := zad.mk (zaf (by repeat (first | (with_reducible first | exact HB.out | apply zab | apply zaa | apply zac) | exact HB.out)) hb); have n1_ := zad.mk (hbox); have n2_ := zad.mk ((by rw [hg]; exact (zao (by repeat (first | (with_reducible first | exact HB.out | apply zab | apply zaa | apply zac) | exact HB.out))) : w.heap.size ≤ gb103)); have n3_ := zad.mk ((by rw [hg]; exact (zao (by repeat (first | (with_reducible first | exact HB.out | apply zab | apply zaa | apply zac) | exact HB.out))) : w.heap.size ≤ gb103)); clear HB; have HB := n0_; have BK103 := n1_; have GW103 := n2_; have GE103 := n3_; clear n0_ n1_ n2_ n3_; clear hb hbox hg; have p3 : 0 ≤ (0 : Int) := (by omega); have q3 : 0 < a0.size := (by have : (0 : Int) < (a0.size : Int) := of_decide_eq_true (by first | (with_reducible assumption) | assumption); omega); have hx3 : ∀ h : 0 < a0.size, ((a0[0]'h).toNat : Int) = bt a0 0 := bt_at a0 0; clear p3; have qi3 : (0 < (a0.size : Int)) = True := eq_true (of_decide_eq_true (by first | (with_reducible assumption) | assumption)); replace q3 := eq_true q3) | ((with_reducible refine zan (f := 25) rfl ?_); refine zbd (some 7) rfl rfl Tryz.func25 (by kernel_rfl) rfl #[.int .u8 (bt a0 0)] rfl (by (try simp only [List.map_toArray, List.map_cons, List.map_nil]); first | done | rfl | (simp only [List.length_drop, List.length_take]; rfl)) ?_; (with_reducible refine (zbq.calls (bt a0 0) t104 _ A4.out).mono ?_); rintro e w18 ⟨rfl, hb⟩; refine ⟨_, rfl, ?_⟩; have n0_ := zad.mk (zbn (g := gb103) (o := .cells #[.int .u8 0, .string (⟨#[]⟩ : ByteArray), .int .i64 0] 33 (0, 0)) (by (with_reducible repeat (first | refine zas ?_ _ | refine zaw ?_ | refine zar ?_ _)); exact BK103.out) hb); have n1_ := zad.mk (zaf (by repeat (first | (with_reducible first | exact HB.out | apply zab | apply zaa | apply zac | refine zaq ?_ GE103.out) | exact HB.out)) hb); clear BK103; clear HB; have BK103 := n0_; have HB := n1_; clear n0_ n1_; (try clear hb); (try clear hb2); (try clear hk); (try clear hi)) | ((with_reducible refine zan (f := 39) rfl ?_); refine zbd (some 19) rfl rfl Tryz.func39 (by kernel_rfl) rfl #[.string a0] rfl (by (try simp only [List.map_toArray, List.map_cons, List.map_nil]); first | done | rfl | (simp only [List.length_drop, List.length_take]; rfl)) ?_; (with_reducible refine (za5.calls k a0 t106 _ A14.out).mono ?_); rintro e w19 ⟨rfl, hb⟩; refine ⟨_, rfl, ?_⟩; have n0_ := zad.mk (zbn (g := gb103) (o := .cells #[.int .u8 0, .string (⟨#[]⟩ : ByteArray), .int .i64 0] 33 (0, 0)) (by (with_reducible repeat (first | refine zas ?_ _ | refine zaw ?_ | refine zar ?_ _)); exact BK103.out) hb); have n1_ := zad.mk (zaf (by repeat (first | (with_reducible first | exact HB.out | apply zab | apply zaa | apply zac | refine zaq ?_ GE103.out) | exact HB.out)) hb); clear BK103; clear HB; have BK103 := n0_; have HB := n1_; clear n0_ n1_; (try clear hb); (try clear hb2); (try clear hk); (try clear hi); have hcz20_0 : w19.cell? ⟨gb103, 0, none⟩ = some (.int .u8 0) := (zal BK103.out 0).trans rfl; have hcz20_1 : w19.cell? ⟨gb103, 1, none⟩ = some (.string (⟨#[]⟩ : ByteArray)) := (zal BK103.out 1).trans rfl; have hcz20_2 : w19.cell? ⟨gb103, 2, none⟩ = some (.int .i64 0) := (zal BK103.out 2).trans rfl; have hfz20_0 := zaj BK103.out 0; have hfz20_1 := zaj BK103.out 1; have hfz20_2 := zaj BK103.out 2))
            refine bodyPost_ret (results_cell_row rfl _ _ gb103 33 #[.int .u8 2, .string (a0.extract 0 (t106 : Int).toNat), .int .i64 0] (0, 0) _ rfl (by (with_reducible repeat (first | refine zas ?_ _ | refine zaw ?_ | refine zar ?_ _)); refine zbw (cs := #[.int .u8 2, .string (a0.extract 0 (t106 : Int).toNat), .int .i64 0]) ?_ 2 _ rfl; (with_reducible repeat (first | refine zas ?_ _ | refine zaw ?_ | refine zar ?_ _)); refine zbw (cs := #[.int .u8 2, .string (⟨#[]⟩ : ByteArray), .int .i64 0]) ?_ 1 _ rfl; (with_reducible repeat (first | refine zas ?_ _ | refine zaw ?_ | refine zar ?_ _)); refine zbw (cs := #[.int .u8 0, .string (⟨#[]⟩ : ByteArray), .int .i64 0]) ?_ 0 _ rfl; (with_reducible repeat (first | refine zas ?_ _ | refine zaw ?_ | refine zar ?_ _)); exact BK103.out) Tryz.underlying33 rfl (by kernel_rfl)) rfl ?_
            exact ⟨by first | rfl | (simp [zah, zai] <;> rfl) | (simp [*, zah, zai] <;> rfl), by repeat (first | (with_reducible first | exact HB.out | apply zab | apply zaa | apply zac | refine zaq ?_ GE103.out) | exact HB.out)⟩
          · rw [if_neg c16] at H
            exact absurd H (by simp)
        · rw [if_neg c15] at H
          exact absurd H (by simp)
      · rw [if_neg c13] at H
        have c13b0 : (t104 == 3) = false := beq_eq_false_iff_ne.mpr c13
        have c13b1 : (t104 != 3) = true := bne_iff_ne.mpr c13
        replace H := Option.bind_eq_some_iff.mp H
        obtain ⟨⟨t107, t108⟩, A210, H⟩ := H
        replace H : (if 0 ≤ t107 then (if t107 ≤ (a0.size : Int) then (some (3, a0.extract 0 (t107 : Int).toNat, 0)) else (none)) else (none)) = some (r1, r2, r3) := H
        have A21 := zad.mk A210
        clear A210
        by_cases c22 : 0 ≤ t107
        · rw [if_pos c22] at H
          have c22b0 := eq_true c22
          have c22b1 : decide (0 ≤ t107) = true := decide_eq_true c22
          clear c22
          by_cases c23 : t107 ≤ (a0.size : Int)
          · rw [if_pos c23] at H
            have c23b0 := eq_true c23
            have c23b1 : decide (t107 ≤ (a0.size : Int)) = true := decide_eq_true c23
            clear c23
            simp only [Option.some.injEq, Prod.mk.injEq] at H
            obtain ⟨rfl, rfl, rfl⟩ := H
            go_enter Tryz.func26, Tryz.ntmps26
            go_wp2_with (first | ((with_reducible refine zbt (N := 2) rfl ?_); refine zbs ?hg (N := 2) ?hd (cs := #[.int .u8 0, .string (⟨#[]⟩ : ByteArray), .int .i64 0]) (t := 33) ?hr ?_; (case hd => rfl); (case hg => rfl); (case hr => first | (go_simp; done) | (go_simp; rfl)); intro gb103 hg w24 hbox hb; have n0_ := zad.mk (zaf (by repeat (first | (with_reducible first | exact HB.out | apply zab | apply zaa | apply zac) | exact HB.out)) hb); have n1_ := zad.mk (hbox); have n2_ := zad.mk ((by rw [hg]; exact (zao (by repeat (first | (with_reducible first | exact HB.out | apply zab | apply zaa | apply zac) | exact HB.out))) : w.heap.size ≤ gb103)); have n3_ := zad.mk ((by rw [hg]; exact (zao (by repeat (first | (with_reducible first | exact HB.out | apply zab | apply zaa | apply zac) | exact HB.out))) : w.heap.size ≤ gb103)); clear HB; have HB := n0_; have BK103 := n1_; have GW103 := n2_; have GE103 := n3_; clear n0_ n1_ n2_ n3_; clear hb hbox hg; have p3 : 0 ≤ (0 : Int) := (by omega); have q3 : 0 < a0.size := (by have : (0 : Int) < (a0.size : Int) := of_decide_eq_true (by first | (with_reducible assumption) | assumption); omega); have hx3 : ∀ h : 0 < a0.size, ((a0[0]'h).toNat : Int) = bt a0 0 := bt_at a0 0; clear p3; have qi3 : (0 < (a0.size : Int)) = True := eq_true (of_decide_eq_true (by first | (with_reducible assumption) | assumption)); replace q3 := eq_true q3) | ((with_reducible refine zan (f := 25) rfl ?_); refine zbd (some 7) rfl rfl Tryz.func25 (by kernel_rfl) rfl #[.int .u8 (bt a0 0)] rfl (by (try simp only [List.map_toArray, List.map_cons, List.map_nil]); first | done | rfl | (simp only [List.length_drop, List.length_take]; rfl)) ?_; (with_reducible refine (zbq.calls (bt a0 0) t104 _ A4.out).mono ?_); rintro e w25 ⟨rfl, hb⟩; refine ⟨_, rfl, ?_⟩; have n0_ := zad.mk (zbn (g := gb103) (o := .cells #[.int .u8 0, .string (⟨#[]⟩ : ByteArray), .int .i64 0] 33 (0, 0)) (by (with_reducible repeat (first | refine zas ?_ _ | refine zaw ?_ | refine zar ?_ _)); exact BK103.out) hb); have n1_ := zad.mk (zaf (by repeat (first | (with_reducible first | exact HB.out | apply zab | apply zaa | apply zac | refine zaq ?_ GE103.out) | exact HB.out)) hb); clear BK103; clear HB; have BK103 := n0_; have HB := n1_; clear n0_ n1_; (try clear hb); (try clear hb2); (try clear hk); (try clear hi)) | ((with_reducible refine zan (f := 40) rfl ?_); refine zbd (some 24) rfl rfl Tryz.func40 (by kernel_rfl) rfl #[.string a0, .int .i64 0] rfl (by (try simp only [List.map_toArray, List.map_cons, List.map_nil]); first | done | rfl | (simp only [List.length_drop, List.length_take]; rfl)) ?_; (with_reducible refine (zb1.calls a0 0 t107 t108 _ A21.out).mono ?_); rintro e w26 ⟨rfl, hb⟩; refine ⟨_, rfl, ?_⟩; have n0_ := zad.mk (zbn (g := gb103) (o := .cells #[.int .u8 0, .string (⟨#[]⟩ : ByteArray), .int .i64 0] 33 (0, 0)) (by (with_reducible repeat (first | refine zas ?_ _ | refine zaw ?_ | refine zar ?_ _)); exact BK103.out) hb); have n1_ := zad.mk (zaf (by repeat (first | (with_reducible first | exact HB.out | apply zab | apply zaa | apply zac | refine zaq ?_ GE103.out) | exact HB.out)) hb); clear BK103; clear HB; have BK103 := n0_; have HB := n1_; clear n0_ n1_; (try clear hb); (try clear hb2); (try clear hk); (try clear hi); have hcz27_0 : w26.cell? ⟨gb103, 0, none⟩ = some (.int .u8 0) := (zal BK103.out 0).trans rfl; have hcz27_1 : w26.cell? ⟨gb103, 1, none⟩ = some (.string (⟨#[]⟩ : ByteArray)) := (zal BK103.out 1).trans rfl; have hcz27_2 : w26.cell? ⟨gb103, 2, none⟩ = some (.int .i64 0) := (zal BK103.out 2).trans rfl; have hfz27_0 := zaj BK103.out 0; have hfz27_1 := zaj BK103.out 1; have hfz27_2 := zaj BK103.out 2))
            refine bodyPost_ret (results_cell_row rfl _ _ gb103 33 #[.int .u8 3, .string (a0.extract 0 (t107 : Int).toNat), .int .i64 0] (0, 0) _ rfl (by (with_reducible repeat (first | refine zas ?_ _ | refine zaw ?_ | refine zar ?_ _)); refine zbw (cs := #[.int .u8 3, .string (a0.extract 0 (t107 : Int).toNat), .int .i64 0]) ?_ 2 _ rfl; (with_reducible repeat (first | refine zas ?_ _ | refine zaw ?_ | refine zar ?_ _)); refine zbw (cs := #[.int .u8 3, .string (⟨#[]⟩ : ByteArray), .int .i64 0]) ?_ 1 _ rfl; (with_reducible repeat (first | refine zas ?_ _ | refine zaw ?_ | refine zar ?_ _)); refine zbw (cs := #[.int .u8 0, .string (⟨#[]⟩ : ByteArray), .int .i64 0]) ?_ 0 _ rfl; (with_reducible repeat (first | refine zas ?_ _ | refine zaw ?_ | refine zar ?_ _)); exact BK103.out) Tryz.underlying33 rfl (by kernel_rfl)) rfl ?_
            exact ⟨by first | rfl | (simp [zah, zai] <;> rfl) | (simp [*, zah, zai] <;> rfl), by repeat (first | (with_reducible first | exact HB.out | apply zab | apply zaa | apply zac | refine zaq ?_ GE103.out) | exact HB.out)⟩
          · rw [if_neg c23] at H
            exact absurd H (by simp)
        · rw [if_neg c22] at H
          exact absurd H (by simp)
  · rw [if_neg c2] at H
    exact absurd H (by simp)
def zdo.f (a0 : ByteArray) : Option (Int × Int) := if a0.size ≤ 140737488351232 then some (readL a0.data.toList) else none
theorem zdo.calls (a0 : ByteArray) (r1 : Int) (r2 : Int) (w : World) (hT : Tabs w) (h : zdo.f a0 = some (r1, r2)) :
    Calls Tryz.prog 41 #[.string a0] w fun e w' => e = .returned (.tuple #[.int .i64 r1, .int .i64 r2]) ∧ Below w.heap.size w w' := by
  unfold zdo.f at h
  by_cases e : a0.size ≤ 140737488351232
  · rw [if_pos e] at h
    have h2 := Option.some.inj h
    rw [show r1 = (readL a0.data.toList).1 by rw [h2], show r2 = (readL a0.data.toList).2 by rw [h2]]
    exact read_any a0 w hT e
  · rw [if_neg e] at h; cases h
def zc2.f (a0 : ByteArray) : Option (Bool) := some (isWord a0)
theorem zc2.calls (a0 : ByteArray) (r : Bool) (w : World) (hT : Tabs w) (h : zc2.f a0 = some r) :
    Calls Tryz.prog 42 #[.string a0] w fun e w' => e = .returned (.bool r) ∧ Below w.heap.size w w' := by
  obtain rfl := Option.some.inj h
  exact word_any a0 w hT.sp hT.size
end Go.Proofs.YtgmmngipnjmkfaaGreatDoor.Q
end
section
namespace Go.Proofs.YtgmmngipnjmkfaaGreatDoor.Hand
open Go.RowKit Go.Proofs.YtgmmngipnjmkfaaGreatDoorW.PrintWords
set_option linter.unusedVariables false
theorem with_fact {P : Program} {ops : Array Oper} {Q : Exit → Act → World → Prop} {l : List Oper} {a : Act} {W : World} {p : Addr} {v : Value} (h : W.cell? p = some v) (k : W.cell? p = some v → wpList P ops Q l a W) : wpList P ops Q l a W := k h
theorem cell_spot {w : World} {a : Addr} {v : Value} (h : w.cell? a = some v) : a.spot = none := by
  unfold World.cell? at h
  split at h
  · split at h
    · cases h
    · next hs => exact Option.not_isSome_iff_eq_none.1 hs
  · cases h
def joinB (l : List ByteArray) (a : ByteArray) : ByteArray := ⟨(Lib.join (l.map (·.data.toList)) a.data.toList).toArray⟩
theorem join_any (A0 : Option Addr) (c0 : Nat) (l0 : List ByteArray) (a1 : ByteArray) (w : World) (hr0 : Kd.C Kd.string w A0 l0.length l0) (hc0 : l0.length ≤ c0)
    (hN : l0.length ≤ 140737488355328) (hlen : (Lib.join (l0.map (·.data.toList)) a1.data.toList).length ≤ 140737488355328) :
    Calls Tryz.prog 43 #[.slice A0 l0.length c0, .string a1] w fun e w' => e = .returned (.string (joinB l0 a1)) ∧ Below w.heap.size w w' := by
  by_cases h0 : l0 = []
  · subst h0
    refine (Tryz.strings_Join_none A0 c0 a1 w).mono ?_
    rintro e w' ⟨rfl, rfl⟩
    exact ⟨rfl, Below.refl _ _⟩
  · have hp : 0 < l0.length := List.length_pos_iff.2 h0
    obtain ⟨ad, hA, hx⟩ := Kd.zcd hr0 0 (by omega) (by omega)
    subst hA
    have hx0 : w.cell? ad = some (.string (rdOf ByteArray.empty l0 0)) := by simpa [Addr.add] using hx
    have hs := cell_spot hx0
    obtain ⟨bk, o, sp⟩ := ad
    simp only at hs
    subst hs
    refine Tryz.strings_Join bk o c0 l0 a1 w ?_ (World.block_lt_of_cell? w _ hx0) hN hc0 hlen
    intro j x hj
    have hjl : j < l0.length := by
      rcases Nat.lt_or_ge j l0.length with h | h
      · exact h
      · rw [List.getElem?_eq_none h] at hj; cases hj
    obtain ⟨ad2, hA2, hx2⟩ := Kd.zcd hr0 (j : Int) (by omega) (by omega)
    cases hA2
    have hr : rdOf ByteArray.empty l0 (j : Int) = x := by
      unfold rdOf
      rw [Int.toNat_natCast, List.getD_eq_getElem?_getD, hj, Option.getD_some]
    rw [hr, Int.toNat_natCast] at hx2
    rw [← hx2]
    unfold Addr.add
    by_cases hj0 : j = 0
    · subst hj0; simp
    · rw [if_neg hj0]
end Go.Proofs.YtgmmngipnjmkfaaGreatDoor.Hand
end
section
namespace Go.Proofs.YtgmmngipnjmkfaaGreatDoor.Hand
open Go.RowKit Go.Proofs.YtgmmngipnjmkfaaGreatDoorW.PrintWords Go.Proofs.YtgmmngipnjmkfaaGreatDoorW.PrintLast Go.Proofs.YtgmmngipnjmkfaaGreatDoorW.PrintMore Go.Proofs.YtgmmngipnjmkfaaGreatDoor.Q
theorem infoNd : (Tryz.prog.info? 43).map (fun i => (i.zero, i.size, i.bytes)) = some (some (.agg #[(.int .u8 0), (.int .i64 0), (.int .i64 0), (.int .i64 0), (.int .i64 0)]), 5, 40) := by kernel_rfl
theorem nodes_KM {w w1 : World} {base : Nat} {okp : Nat → Prop} (x : S43) (cs : List Value) (h : k43.K w x cs) : k43.M w1 base okp x cs := by
  obtain rfl := k43_open h
  exact k43_mkM _ _ _ x
def clonePost (l0 : List S43) (w : World) (e : Ending) (w' : World) : Prop :=
  ∃ v0_ : Value, e = .returned v0_ ∧ Kd.R k43 43 w' w.heap.size (fun _ => True) v0_ l0 ∧ Below w.heap.size w w'
set_option maxRecDepth 100000 in
set_option maxHeartbeats 2000000 in
theorem clone_any (A0 : Option Addr) (c0 : Nat) (l0 : List S43) (w : World) (hr0 : Kd.C k43 w A0 l0.length l0) (hl : l0.length ≤ 1000000) :
    Calls Tryz.prog 56 #[.slice A0 l0.length c0] w (clonePost l0 w) := by
  have hnl : ∀ (W : World) (a : Option Addr) (n : Nat), (binOp .eql 29 (.slice a n c0) (.slice none 0 0)).run Tryz.prog W = .ok (.bool a.isNone) W := fun W a n => Lib.run_eql_slice_nil W _ _ a n c0 0 0 Tryz.underlying29
  cases A0 with
  | none =>
    have h0 : l0 = [] := by
      rcases Nat.eq_zero_or_pos l0.length with h | h
      · exact List.eq_nil_of_length_eq_zero h
      · obtain ⟨ad, h, _⟩ := hr0.2.2 h; cases h
    subst h0
    go_enter Tryz.func56, Tryz.ntmps56
    go_wp2
    go_ret
    exact ⟨_, rfl, Kd.R_nil _ _ _ _ _, Below.refl _ _⟩
  | some ad =>
    have HR := zad.mk hr0
    have HL := zad.mk hl
    clear hr0 hl
    go_enter Tryz.func56, Tryz.ntmps56
    go_wp2_with (first
      | ((with_reducible refine zbe (b := .append) (xs := #[.tmp 5, .tmp 6]) rfl ?_);
         refine Kd.R_append_rows k43 (Rr := k43.K w) (w0 := w) w.heap.size rfl (.tmp 5) (.tmp 6) 29 43 _ 40 rfl Tryz.underlying29 infoNd rfl (by decide) (by omega)
          (.slice (some ⟨w.heap.size, 0, none⟩) 0 0) [] l0 (some ad) l0.length c0 (fun _ => True) (fun _ => False) rfl rfl ?aO ?aR (fun x cs h => nodes_KM x cs h) (fun _ hk => hk.elim) (fun _ _ => trivial) ?aB ?aS ?aL ?_;
         (case aO => exact ⟨fun _ _ => trivial, [], World.ownsRow_lit (base := w.heap.size) (e := 43) (size := 5) w #[] 0 (Nat.le_refl _) (by decide) (by simp), Reps.none _ _⟩);
         (case aR => exact HR.out.imp_ ((Below.refl _ _).alloc (Nat.le_refl _) _) (fun _ _ h => h));
         (case aB => exact (Below.refl _ _).alloc (Nat.le_refl _) _);
         (case aS => simp);
         (case aL => have := HL.out; simp only [List.length_nil]; omega);
         intro v1 w1 ho hb hg hat; have HO := zad.mk ho; have HB := zad.mk hb; clear ho hb hg hat))
    go_ret
    exact ⟨_, rfl, HO.out, HB.out⟩
end Go.Proofs.YtgmmngipnjmkfaaGreatDoor.Hand
end
section
namespace Go.Proofs.YtgmmngipnjmkfaaGreatDoor.Pure
open Go.Proofs.YtgmmngipnjmkfaaGreatDoor.Q
abbrev Nd := S43
abbrev Tp := S94
def cntI (k : Int) : Nat := if k ≤ 4 then 0 else if k ≤ 6 then 1 else 2
def atP (ps : List Tp) (i : Nat) : Int := match ps[i]? with | some p => p.f0 | none => 0
def max2 (a b : Int) : Int := if a < b then b else a
def min2 (a b : Int) : Int := if b < a then b else a
def ownB (x : Nd) (ps : List Tp) : Bool :=
  decide (x.f1 = if x.f0 = 1 then max2 x.f1 0 else 0) && (decide (x.f2 = atP ps 0) && (decide (x.f3 = atP ps 1) && decide (x.f4 = min2 (max2 x.f4 0) 400)))
def addP (t p : Tp) : Tp := ⟨t.f0, t.f1 + p.f1, max2 t.f2 (p.f2 + 1)⟩
def topOf (i : Int) (ps : List Tp) : Tp := ps.foldl addP ⟨i, 1, 1⟩
def kdOk (k : Int) : Prop := 1 ≤ k ∧ k ≤ 19
instance (k : Int) : Decidable (kdOk k) := by unfold kdOk; exact inferInstance
def tloop : List Nd → Int → List Tp → List Tp → List Tp × Bool
  | [], _, st, all => (all, decide (st.length = 1))
  | x :: r, i, st, all =>
    if kdOk x.f0 ∧ cntI x.f0 ≤ st.length then
      if ownB x (st.drop (st.length - cntI x.f0)) = true then
        tloop r (i + 1) (st.take (st.length - cntI x.f0) ++ [topOf i (st.drop (st.length - cntI x.f0))]) (all ++ [topOf i (st.drop (st.length - cntI x.f0))])
      else (all, false)
    else (all, false)
def lastD (all : List Tp) : Int := match all.getLast? with | some p => p.f2 | none => 0
def chk (l : List Nd) : Int :=
  if 60 < l.length then 4 else if (tloop l 0 [] []).2 = false then 8 else if 20 < lastD (tloop l 0 [] []).1 then 34 else 0
namespace Tr
def flat : Tr → Nat → List Nd
  | leaf k n p, _ => [⟨k, n, 0, 0, p⟩]
  | un k p a, o => a.flat o ++ [⟨k, 0, ((o + a.size : Nat) : Int) - 1, 0, p⟩]
  | bin k p a b, o => a.flat o ++ (b.flat (o + a.size) ++ [⟨k, 0, ((o + a.size : Nat) : Int) - 1, ((o + a.size + b.size : Nat) : Int) - 1, p⟩])
def tp (t : Tr) (o : Nat) : Tp := ⟨((o + t.size : Nat) : Int) - 1, t.size, t.depth⟩
def tops : Tr → Nat → List Tp
  | t@(leaf _ _ _), o => [t.tp o]
  | t@(un _ _ a), o => a.tops o ++ [t.tp o]
  | t@(bin _ _ a b), o => a.tops o ++ (b.tops (o + a.size) ++ [t.tp o])
theorem zb7 : ∀ (t : Tr) (o : Nat), (t.flat o).length = t.size
  | leaf .., _ => rfl
  | un _ _ a, o => by simp [flat, size, zb7 a o]
  | bin _ _ a b, o => by simp [flat, size, zb7 a o, zb7 b (o + a.size)]; omega
theorem tops_last (t : Tr) (o : Nat) : (t.tops o).getLast? = some (t.tp o) := by
  cases t <;> simp [tops]
end Tr
theorem lastD_tops (t : Tr) (o : Nat) : lastD (t.tops o) = (t.depth : Int) := by unfold lastD; rw [t.tops_last]; rfl
theorem max2_eq (a b : Int) : max2 a b = max a b := by unfold max2; omega
theorem cnt_leaf {k : Int} (h : k ≤ 4) : cntI k = 0 := if_pos h
theorem cnt_un {k : Int} (h : k = 5 ∨ k = 6) : cntI k = 1 := by unfold cntI; rw [if_neg (by omega), if_pos (by omega)]
theorem cnt_bin {k : Int} (h : 7 ≤ k) : cntI k = 2 := by unfold cntI; rw [if_neg (by omega), if_neg (by omega)]
theorem drop_snoc1 (st : List Tp) (p : Tp) : (st ++ [p]).drop ((st ++ [p]).length - 1) = [p] ∧ (st ++ [p]).take ((st ++ [p]).length - 1) = st := by
  rw [List.length_append, List.length_singleton, Nat.add_sub_cancel]
  exact ⟨List.drop_left, List.take_left⟩
theorem drop_snoc2 (st : List Tp) (p q : Tp) : (st ++ [p] ++ [q]).drop ((st ++ [p] ++ [q]).length - 2) = [p, q] ∧ (st ++ [p] ++ [q]).take ((st ++ [p] ++ [q]).length - 2) = st := by
  rw [List.append_assoc, List.length_append]
  simp only [List.cons_append, List.nil_append, List.length_cons, List.length_nil, Nat.zero_add, Nat.reduceAdd, Nat.add_sub_cancel]
  exact ⟨List.drop_left, List.take_left⟩
theorem top_un (i : Int) (a : Tr) (k p : Int) (o : Nat) (hi : i = ((o + a.size : Nat) : Int)) : topOf i [a.tp o] = (Tr.un k p a).tp o := by
  have := a.depth_pos
  simp only [topOf, List.foldl, addP, Tr.tp, Tr.size, Tr.depth, max2_eq]
  congr 1 <;> omega
theorem top_bin (i : Int) (a b : Tr) (k p : Int) (o : Nat) (hi : i = ((o + a.size + b.size : Nat) : Int)) : topOf i [a.tp o, b.tp (o + a.size)] = (Tr.bin k p a b).tp o := by
  have := a.depth_pos
  have := b.depth_pos
  simp only [topOf, List.foldl, addP, Tr.tp, Tr.size, Tr.depth, max2_eq]
  congr 1 <;> omega
theorem tloop_flat : ∀ (t : Tr), t.WF → ∀ (o : Nat) (r : List Nd) (st all : List Tp), tloop (t.flat o ++ r) o st all = tloop r ((o + t.size : Nat) : Int) (st ++ [t.tp o]) (all ++ t.tops o)
  | .leaf k n p, h, o, r, st, all => by
    obtain ⟨h1, h2, h3, h4, h5, h6, h7⟩ := h
    have hc := cnt_leaf h2
    have ho : ownB ⟨k, n, 0, 0, p⟩ [] = true := by
      unfold ownB atP max2 min2
      simp only [Bool.and_eq_true, decide_eq_true_eq, List.getElem?_nil, true_and]
      refine ⟨?_, by omega⟩
      rcases h5 with h5 | h5
      · subst h5; split <;> omega
      · rw [if_pos h5]; omega
    have ht : topOf (o : Int) [] = (Tr.leaf k n p).tp o := by simp [topOf, Tr.tp, Tr.size, Tr.depth]
    simp only [Tr.flat, List.cons_append, List.nil_append, tloop]
    rw [if_pos ⟨⟨h1, by omega⟩, by omega⟩]
    simp only [hc, Nat.sub_zero, List.drop_length, List.take_length]
    rw [if_pos ho, ht]
    rfl
  | .un k p a, h, o, r, st, all => by
    obtain ⟨h1, h2, h3, h4⟩ := h
    have hc := cnt_un h1
    simp only [Tr.flat, List.append_assoc, List.cons_append, List.nil_append]
    rw [tloop_flat a h4 o _ st all]
    obtain ⟨hd, htk⟩ := drop_snoc1 st (a.tp o)
    have ho : ownB ⟨k, 0, ((o + a.size : Nat) : Int) - 1, 0, p⟩ [a.tp o] = true := by
      unfold ownB atP max2 min2 Tr.tp
      simp only [Bool.and_eq_true, decide_eq_true_eq, List.getElem?_cons_zero, List.getElem?_cons_succ, List.getElem?_nil, true_and]
      exact ⟨by split <;> simp, by omega⟩
    simp only [tloop]
    rw [if_pos ⟨⟨by omega, by omega⟩, by rw [hc]; simp⟩]
    simp only [hc]
    rw [hd, htk, if_pos ho, top_un _ a k p o rfl]
    simp only [Tr.size, Tr.tops, List.append_assoc]
    congr 1
  | .bin k p a b, h, o, r, st, all => by
    obtain ⟨h1, h2, h3, h4, h5, h6⟩ := h
    have hc := cnt_bin h1
    simp only [Tr.flat, List.append_assoc, List.cons_append, List.nil_append]
    rw [tloop_flat a h5 o _ st all, tloop_flat b h6 (o + a.size) _ _ _]
    obtain ⟨hd, htk⟩ := drop_snoc2 st (a.tp o) (b.tp (o + a.size))
    have ho : ownB ⟨k, 0, ((o + a.size : Nat) : Int) - 1, ((o + a.size + b.size : Nat) : Int) - 1, p⟩ [a.tp o, b.tp (o + a.size)] = true := by
      unfold ownB atP max2 min2 Tr.tp
      simp only [Bool.and_eq_true, decide_eq_true_eq, List.getElem?_cons_zero, List.getElem?_cons_succ, true_and]
      exact ⟨by split <;> simp, by omega⟩
    simp only [tloop]
    rw [if_pos ⟨⟨by omega, by omega⟩, by rw [hc]; simp⟩]
    simp only [hc]
    rw [hd, htk, if_pos ho, top_bin _ a b k p o rfl]
    simp only [Tr.size, Tr.tops, List.append_assoc]
    congr 1
    omega
def fsize : List Tr → Nat
  | [] => 0
  | t :: r => t.size + fsize r
def fflat : List Tr → Nat → List Nd
  | [], _ => []
  | t :: r, o => t.flat o ++ fflat r (o + t.size)
def ftps : List Tr → Nat → List Tp
  | [], _ => []
  | t :: r, o => t.tp o :: ftps r (o + t.size)
theorem ftps_len : ∀ (fs : List Tr) (o : Nat), (ftps fs o).length = fs.length
  | [], _ => rfl
  | t :: r, o => by simp [ftps, ftps_len r]
theorem zb8 : ∀ (fs gs : List Tr), fsize (fs ++ gs) = fsize fs + fsize gs
  | [], gs => by simp [fsize]
  | t :: r, gs => by simp [fsize, zb8 r gs]; omega
theorem zci : ∀ (fs gs : List Tr) (o : Nat), fflat (fs ++ gs) o = fflat fs o ++ fflat gs (o + fsize fs)
  | [], gs, o => by simp [fflat, fsize]
  | t :: r, gs, o => by simp [fflat, fsize, zci r gs, Nat.add_assoc]
theorem zc4 : ∀ (fs gs : List Tr) (o : Nat), ftps (fs ++ gs) o = ftps fs o ++ ftps gs (o + fsize fs)
  | [], gs, o => by simp [ftps, fsize]
  | t :: r, gs, o => by simp [ftps, fsize, zc4 r gs, Nat.add_assoc]
theorem zc5 {α : Type} (l : List α) (h : 0 < l.length) : ∃ r x, l = r ++ [x] := by
  rcases List.eq_nil_or_concat l with h1 | ⟨r, x, h1⟩
  · subst h1; simp at h
  · exact ⟨r, x, by simpa using h1⟩
def fits64 (x : Nd) : Prop := x.f1 ≤ 9223372036854775807
theorem zcy (x : Nd) (ps : List Tp) : ownB x ps = true ↔ (x.f1 = if x.f0 = 1 then max2 x.f1 0 else 0) ∧ x.f2 = atP ps 0 ∧ x.f3 = atP ps 1 ∧ x.f4 = min2 (max2 x.f4 0) 400 := by
  unfold ownB; simp only [Bool.and_eq_true, decide_eq_true_eq]
theorem tloop_tree : ∀ (l : List Nd) (fs : List Tr) (all : List Tp), (∀ x ∈ l, fits64 x) → (∀ t ∈ fs, t.WF) → (tloop l (fsize fs : Nat) (ftps fs 0) all).2 = true → ∃ t : Tr, t.WF ∧ fflat fs 0 ++ l = t.flat 0
  | [], fs, all, _, hw, h => by
    simp only [tloop, decide_eq_true_eq, ftps_len] at h
    match fs, h with
    | [t], _ => exact ⟨t, hw t (by simp), by simp [fflat]⟩
  | x :: r, fs, all, hf, hw, h => by
    simp only [tloop] at h
    by_cases h1 : kdOk x.f0 ∧ cntI x.f0 ≤ (ftps fs 0).length
    · rw [if_pos h1] at h
      by_cases h2 : ownB x ((ftps fs 0).drop ((ftps fs 0).length - cntI x.f0)) = true
      · rw [if_pos h2] at h
        obtain ⟨⟨hk1, hk2⟩, hlen⟩ := h1
        rw [ftps_len] at hlen
        have hfx : fits64 x := hf x (by simp)
        have hfr : ∀ y ∈ r, fits64 y := fun y hy => hf y (by simp [hy])
        by_cases k4 : x.f0 ≤ 4
        · have hc := cnt_leaf k4
          simp only [hc, Nat.sub_zero, List.drop_length, List.take_length] at h h2
          obtain ⟨e1, e2, e3, e4⟩ := (zcy x []).1 h2
          have hn : 0 ≤ x.f1 ∧ (x.f1 = 0 ∨ x.f0 = 1) := by
            unfold max2 at e1; split at e1
            · refine ⟨?_, .inr ‹_›⟩
              split at e1 <;> omega
            · exact ⟨by omega, .inl e1⟩
          have hp : 0 ≤ x.f4 ∧ x.f4 ≤ 400 := by unfold min2 max2 at e4; split at e4 <;> split at e4 <;> omega
          have ht : topOf ((fsize fs : Nat) : Int) [] = (Tr.leaf x.f0 x.f1 x.f4).tp (0 + fsize fs) := by simp [topOf, Tr.tp, Tr.size, Tr.depth]
          rw [ht] at h
          have hS : ftps (fs ++ [.leaf x.f0 x.f1 x.f4]) 0 = ftps fs 0 ++ [(Tr.leaf x.f0 x.f1 x.f4).tp (0 + fsize fs)] := by rw [zc4]; rfl
          rw [← hS] at h
          have hz : ((fsize fs : Nat) : Int) + 1 = ((fsize (fs ++ [.leaf x.f0 x.f1 x.f4]) : Nat) : Int) := by rw [zb8]; simp [fsize, Tr.size]
          rw [hz] at h
          obtain ⟨t, hw', ht'⟩ := tloop_tree r (fs ++ [.leaf x.f0 x.f1 x.f4]) _ hfr (by
            intro t ht
            rcases List.mem_append.1 ht with ht | ht
            · exact hw t ht
            · rw [List.mem_singleton.1 ht]; exact ⟨hk1, k4, hn.1, hfx, hn.2, hp.1, hp.2⟩) h
          refine ⟨t, hw', ?_⟩
          rw [← ht', zci]
          have e2' : x.f2 = 0 := e2
          have e3' : x.f3 = 0 := e3
          obtain ⟨x0, x1, x2, x3, x4⟩ := x
          simp only at e2' e3'
          subst e2'; subst e3'
          simp [fflat, Tr.flat]
        · by_cases k6 : x.f0 ≤ 6
          · have hc := cnt_un (k := x.f0) (by omega)
            obtain ⟨gs, a, rfl⟩ := zc5 fs (by omega)
            have hS0 : ftps (gs ++ [a]) 0 = ftps gs 0 ++ [a.tp (0 + fsize gs)] := by rw [zc4]; rfl
            simp only [hc, hS0] at h h2
            obtain ⟨hd, htk⟩ := drop_snoc1 (ftps gs 0) (a.tp (0 + fsize gs))
            rw [hd, htk] at h
            rw [hd] at h2
            obtain ⟨e1, e2, e3, e4⟩ := (zcy x _).1 h2
            rw [if_neg (by omega)] at e1
            have hp : 0 ≤ x.f4 ∧ x.f4 ≤ 400 := by unfold min2 max2 at e4; split at e4 <;> split at e4 <;> omega
            have hz0 : ((fsize (gs ++ [a]) : Nat) : Int) = ((0 + fsize gs + a.size : Nat) : Int) := by rw [zb8]; simp [fsize]
            rw [top_un _ a x.f0 x.f4 (0 + fsize gs) hz0] at h
            have hS : ftps (gs ++ [.un x.f0 x.f4 a]) 0 = ftps gs 0 ++ [(Tr.un x.f0 x.f4 a).tp (0 + fsize gs)] := by rw [zc4]; rfl
            rw [← hS] at h
            have hz : ((fsize (gs ++ [a]) : Nat) : Int) + 1 = ((fsize (gs ++ [.un x.f0 x.f4 a]) : Nat) : Int) := by rw [zb8, zb8]; simp [fsize, Tr.size]; omega
            rw [hz] at h
            obtain ⟨t, hw', ht'⟩ := tloop_tree r (gs ++ [.un x.f0 x.f4 a]) _ hfr (by
              intro t ht
              rcases List.mem_append.1 ht with ht | ht
              · exact hw t (by simp [ht])
              · rw [List.mem_singleton.1 ht]; exact ⟨by omega, hp.1, hp.2, hw a (by simp)⟩) h
            refine ⟨t, hw', ?_⟩
            rw [← ht', zci, zci]
            have e2' : x.f2 = ((0 + fsize gs + a.size : Nat) : Int) - 1 := e2
            have e3' : x.f3 = 0 := e3
            obtain ⟨x0, x1, x2, x3, x4⟩ := x
            simp only at e1 e2' e3'
            subst e1; subst e2'; subst e3'
            simp [fflat, Tr.flat]
          · have hc := cnt_bin (k := x.f0) (by omega)
            obtain ⟨hs, b, rfl⟩ := zc5 fs (by omega)
            obtain ⟨gs, a, rfl⟩ := zc5 hs (by simp at hlen; omega)
            have hS0 : ftps (gs ++ [a] ++ [b]) 0 = ftps gs 0 ++ [a.tp (0 + fsize gs)] ++ [b.tp (0 + fsize gs + a.size)] := by
              rw [List.append_assoc, zc4]; simp [ftps]
            simp only [hc, hS0] at h h2
            obtain ⟨hd, htk⟩ := drop_snoc2 (ftps gs 0) (a.tp (0 + fsize gs)) (b.tp (0 + fsize gs + a.size))
            rw [hd, htk] at h
            rw [hd] at h2
            obtain ⟨e1, e2, e3, e4⟩ := (zcy x _).1 h2
            rw [if_neg (by omega)] at e1
            have hp : 0 ≤ x.f4 ∧ x.f4 ≤ 400 := by unfold min2 max2 at e4; split at e4 <;> split at e4 <;> omega
            have hz0 : ((fsize (gs ++ [a] ++ [b]) : Nat) : Int) = ((0 + fsize gs + a.size + b.size : Nat) : Int) := by rw [zb8, zb8]; simp [fsize]
            rw [top_bin _ a b x.f0 x.f4 (0 + fsize gs) hz0] at h
            have hS : ftps (gs ++ [.bin x.f0 x.f4 a b]) 0 = ftps gs 0 ++ [(Tr.bin x.f0 x.f4 a b).tp (0 + fsize gs)] := by rw [zc4]; rfl
            rw [← hS] at h
            have hz : ((fsize (gs ++ [a] ++ [b]) : Nat) : Int) + 1 = ((fsize (gs ++ [.bin x.f0 x.f4 a b]) : Nat) : Int) := by rw [zb8, zb8, zb8]; simp [fsize, Tr.size]; omega
            rw [hz] at h
            obtain ⟨t, hw', ht'⟩ := tloop_tree r (gs ++ [.bin x.f0 x.f4 a b]) _ hfr (by
              intro t ht
              rcases List.mem_append.1 ht with ht | ht
              · exact hw t (by simp [ht])
              · rw [List.mem_singleton.1 ht]; exact ⟨by omega, by omega, hp.1, hp.2, hw a (by simp), hw b (by simp)⟩) h
            refine ⟨t, hw', ?_⟩
            rw [← ht', List.append_assoc gs, zci, zci]
            have e2' : x.f2 = ((0 + fsize gs + a.size : Nat) : Int) - 1 := e2
            have e3' : x.f3 = ((0 + fsize gs + a.size + b.size : Nat) : Int) - 1 := e3
            obtain ⟨x0, x1, x2, x3, x4⟩ := x
            simp only at e1 e2' e3'
            subst e1; subst e2'; subst e3'
            simp [zci, fflat, fsize, Tr.flat]
      · rw [if_neg h2] at h; cases h
    · rw [if_neg h1] at h; cases h
theorem tloop_of (t : Tr) (h : t.WF) : tloop (t.flat 0) 0 [] [] = (t.tops 0, true) := by
  have := tloop_flat t h 0 [] [] []
  simp only [List.append_nil, List.nil_append, Int.natCast_zero] at this
  rw [this]; simp [tloop]
theorem chk_flat (t : Tr) (h : t.WF) : chk (t.flat 0) = if 60 < t.size then 4 else if 20 < t.depth then 34 else 0 := by
  unfold chk
  rw [t.zb7, tloop_of t h, lastD_tops, if_neg (show ¬ (true = false) by decide)]
  split
  · rfl
  · by_cases h2 : 20 < t.depth
    · rw [if_pos h2, if_pos (by omega)]
    · rw [if_neg h2, if_neg (by omega)]
theorem chk_zero {l : List Nd} (hf : ∀ x ∈ l, fits64 x) (h : chk l = 0) : ∃ t : Tr, t.ok ∧ l = t.flat 0 := by
  unfold chk at h
  by_cases h1 : 60 < l.length
  · rw [if_pos h1] at h; cases h
  rw [if_neg h1] at h
  by_cases h2 : (tloop l 0 [] []).2 = false
  · rw [if_pos h2] at h; cases h
  rw [if_neg h2] at h
  obtain ⟨t, hw, ht⟩ := tloop_tree l [] [] hf (by simp) (by simpa [fsize, ftps] using h2)
  have e : l = t.flat 0 := by simpa [fflat] using ht
  subst e
  rw [tloop_of t hw, lastD_tops] at h
  refine ⟨t, ⟨hw, by rw [t.zb7] at h1; omega, ?_⟩, rfl⟩
  by_cases h3 : 20 < t.depth
  · rw [if_pos (by omega)] at h; cases h
  · omega
theorem chk_ok {t : Tr} (h : t.ok) : chk (t.flat 0) = 0 := by
  rw [chk_flat t h.1, if_neg (by have := h.2.1; omega), if_neg (by have := h.2.2; omega)]
end Go.Proofs.YtgmmngipnjmkfaaGreatDoor.Pure
end
section
namespace Go.Proofs.YtgmmngipnjmkfaaGreatDoor.Hand
open Go.RowKit Go.Proofs.YtgmmngipnjmkfaaGreatDoorW.PrintWords Go.Proofs.YtgmmngipnjmkfaaGreatDoorW.PrintLast Go.Proofs.YtgmmngipnjmkfaaGreatDoorW.PrintMore Go.Proofs.YtgmmngipnjmkfaaGreatDoor.Q Go.Proofs.YtgmmngipnjmkfaaGreatDoor.Pure
theorem wp_loop_two {P : Program} {c : Code} {Q : Exit → Act → World → Prop} {a : Act} {w : World}
    (h : ∀ K : Act → World → Prop, (∀ a w, c.wp P (Exit.then (fun _ _ => False) Q) a w → K a w) → c.wp P (Exit.then K Q) a w) : (Code.loop c).wp P Q a w :=
  wp_loop_rounds 2 (by
    show c.wp P (Exit.then (Code.rounds P c Q 1) Q) a w
    exact h _ (fun _ _ h => h))
theorem wp_loop_three {P : Program} {c : Code} {Q : Exit → Act → World → Prop} {a : Act} {w : World}
    (h : ∀ K1 K2 : Act → World → Prop, (∀ a w, c.wp P (Exit.then K2 Q) a w → K1 a w) → (∀ a w, c.wp P (Exit.then (fun _ _ => False) Q) a w → K2 a w) → c.wp P (Exit.then K1 Q) a w) : (Code.loop c).wp P Q a w :=
  wp_loop_rounds 3 (by
    show c.wp P (Exit.then (Code.rounds P c Q 2) Q) a w
    exact h _ (Code.rounds P c Q 1) (fun _ _ h => h) (fun _ _ h => h))
theorem parts_0 (k : Int) (w : World) (h1 : 1 ≤ k) (h2 : k ≤ 4) : Calls Tryz.prog 36 #[.int .u8 k] w fun e w' => e = .returned (.tuple #[.int .i64 0, .int .i64 0]) ∧ w' = w := by
  go_enter Tryz.func36, Tryz.ntmps36
  go_wp2
  go_ret2
  exact ⟨rfl, rfl⟩
theorem parts_1 (k : Int) (w : World) (h : k = 5 ∨ k = 6) : Calls Tryz.prog 36 #[.int .u8 k] w fun e w' => e = .returned (.tuple #[.int .i64 1, .int .i64 0]) ∧ w' = w := by
  rcases h with rfl | rfl
  · go_enter Tryz.func36, Tryz.ntmps36
    go_wp2
    go_ret2
    exact ⟨rfl, rfl⟩
  · go_enter Tryz.func36, Tryz.ntmps36
    go_wp2
    go_ret2
    exact ⟨rfl, rfl⟩
theorem parts_2 (k : Int) (w : World) (h1 : 7 ≤ k) (h2 : k ≤ 19) : Calls Tryz.prog 36 #[.int .u8 k] w fun e w' => e = .returned (.tuple #[.int .i64 2, .int .i64 0]) ∧ w' = w := by
  have h3 : (k == 5) = false := by simp; omega
  have h4 : (k == 6) = false := by simp; omega
  have h5 : decide (k ≤ 4) = false := by simp; omega
  go_enter Tryz.func36, Tryz.ntmps36
  go_wp2
  go_ret2
  exact ⟨rfl, rfl⟩
theorem parts_no (k : Int) (w : World) (h : k < 1 ∨ 19 < k) : Calls Tryz.prog 36 #[.int .u8 k] w fun e w' => e = .returned (.tuple #[.int .i64 0, .int .i64 2]) ∧ w' = w := by
  have h3 : (k == 5) = false := by simp; omega
  have h4 : (k == 6) = false := by simp; omega
  rcases h with h | h
  · go_enter Tryz.func36, Tryz.ntmps36
    go_wp2
    go_ret2
    exact ⟨rfl, rfl⟩
  · have h5 : decide (k ≤ 4) = false := by simp; omega
    go_enter Tryz.func36, Tryz.ntmps36
    go_wp2
    go_ret2
    exact ⟨rfl, rfl⟩
def popPost (A B : Option Addr) (l1 n c c2 : Nat) (w : World) (e : Ending) (w' : World) : Prop := e = .returned (.tuple #[.slice A l1 c, .slice B n c2]) ∧ ∃ k, w' = w.drewN k
theorem infoTp : (Tryz.prog.info? 94).map (fun i => (i.zero, i.size, i.bytes)) = some (some (.agg #[(.int .i64 0), (.int .i64 0), (.int .i64 0)]), 3, 24) := by kernel_rfl
set_option maxRecDepth 100000 in
set_option maxHeartbeats 2000000 in
theorem pop_any (A : Option Addr) (len c n : Nat) (w : World) (hn : n ≤ len) (hc : len ≤ c) (hl : len ≤ 1000000) :
    Calls Tryz.prog 68 #[.slice A len c, .int .i64 (n : Int)] w
      (popPost A (if c = len - n then A else A.map (·.add ((len - n) * 3))) (len - n) n c (c - (len - n)) w) := by
  obtain ⟨i0, hi, hzz⟩ := Option.map_eq_some_iff.1 infoTp
  simp only [Prod.mk.injEq] at hzz
  obtain ⟨hz0, hz1, hz2⟩ := hzz
  have r1 := cut_to 67 94 .i64 Tryz.underlying67 hi A len c ((len - n : Nat) : Int) (by omega) (by omega) hc
  have r2 := cut_from 67 94 .i64 Tryz.underlying67 hi 3 hz1 A len c ((len - n : Nat) : Int) (by omega) (by omega)
  simp only [Int.toNat_natCast] at r1 r2
  rw [show len - (len - n) = n by omega] at r2
  obtain ⟨B, hB⟩ : ∃ B, B = (if c = len - n then A else A.map (·.add ((len - n) * 3))) := ⟨_, rfl⟩
  rw [← hB] at r2 ⊢
  clear hB hi hz0 hz1 hz2
  have hw : IntKind.i64.wrap ((len : Int) - (n : Int)) = ((len - n : Nat) : Int) := by
    rw [IntKind.wrap_i64]; omega
  obtain ⟨m, hm⟩ : ∃ m, m = len - n := ⟨_, rfl⟩
  rw [← hm] at r1 r2 hw ⊢
  clear hm hn hc hl
  go_enter Tryz.func68, Tryz.ntmps68
  go_wp2
  go_quiet (fail)
  go_wp2
  go_ret2
  exact ⟨rfl, _, rfl⟩
end Go.Proofs.YtgmmngipnjmkfaaGreatDoor.Hand
end
