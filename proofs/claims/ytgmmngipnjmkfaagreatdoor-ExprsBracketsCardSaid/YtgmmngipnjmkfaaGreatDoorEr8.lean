/- Lemmas of the proof (cut to what it uses, by wip/trim.py). -/
import Derived.Lib.ItoaNum
import Derived.Test.YtgmmngipnjmkfaaGreatDoorEr3
import Derived.Test.YtgmmngipnjmkfaaGreatDoorEr4
import Derived.Test.YtgmmngipnjmkfaaGreatDoorEr6
import Derived.Test.YtgmmngipnjmkfaaGreatDoorEr7
section
namespace Go.Proofs.YtgmmngipnjmkfaaGreatDoor.Q
open Go.Proofs.YtgmmngipnjmkfaaGreatDoor.Hand
open Go.RowKit Go.Proofs.YtgmmngipnjmkfaaGreatDoorW.PrintWords Go.Proofs.YtgmmngipnjmkfaaGreatDoorW.PrintLast Go.Proofs.YtgmmngipnjmkfaaGreatDoorW.PrintMore
attribute [local go_sem] zcy zcz zdb zdc zcp zcq zc0 zc1
set_option linter.unusedVariables false
set_option linter.unusedSimpArgs false
def zbc.f (k : Nat) (a0_0 : Int) (a0_1 : ByteArray) (a0_2 : Int) : Option (Bool) := if a0_0 = 1 then ((za2.f k a0_1).bind fun bt342 => (some (bt342.2 == 0))) else (if a0_0 = 2 then ((zbd.f k a0_1).bind fun t344 => (some t344)) else (if a0_0 = 3 then (if (a0_1.size : Int) > 0 then ((za9.f k a0_1 0).bind fun t345 => (some (t345 == (a0_1.size : Int)))) else (some false)) else (some false)))
def zbc.T8 : Bool × List (List Nat × List Nat) := (true, [([], []), ([0], [0]), ([1], [1]), ([2], [2]), ([3], [3]), ([4], [4]), ([5, 4], [4, 5]), ([6, 4, 4], [4, 6]), ([4], [4]), ([8, 4], [4, 8]), ([9, 4], [4, 9]), ([7, 10, 4], [4, 7, 10]), ([4, 11], [4, 11]), ([12, 7, 0, 1, 2, 3, 4, 5, 6, 7, 8, 9, 10, 11, 12], [12])])
def zbc.B8 : List Nat := [0, 1, 3, 7, 15, 31, 63, 127, 31, 287, 799, 2047, 4095, 8191]
theorem zbc.tab8 : rtab .any (opsOf Tryz.f31 8) = zbc.T8 := by kernel_rfl
theorem zbc.bits8 : waitsOk zbc.T8.2 zbc.B8 = true := by kernel_rfl
set_option maxHeartbeats 8000000 in
set_option maxRecDepth 100000 in
theorem zbc.calls (k : Nat) (a0_0 : Int) (a0_1 : ByteArray) (a0_2 : Int) (r : Bool) (w : World) (h : zbc.f k a0_0 a0_1 a0_2 = some r) :
    Calls Tryz.prog 31 #[.agg #[.int .u8 a0_0, .string a0_1, .int .i64 a0_2]] w fun e w' => e = .returned (.bool r) ∧ Below w.heap.size w w' := by
  have hu33 := Tryz.underlying33
  have HB := zad.mk (Below.refl w.heap.size w)
  have H : (if a0_0 = 1 then ((za2.f k a0_1).bind fun bt342 => (some (bt342.2 == 0))) else (if a0_0 = 2 then ((zbd.f k a0_1).bind fun t344 => (some t344)) else (if a0_0 = 3 then (if (a0_1.size : Int) > 0 then ((za9.f k a0_1 0).bind fun t345 => (some (t345 == (a0_1.size : Int)))) else (some false)) else (some false)))) = some r := h
  clear h
  by_cases c2 : a0_0 = 1
  · rw [if_pos c2] at H
    have c2b0 : (a0_0 == 1) = true := beq_iff_eq.mpr c2
    have c2b1 : (a0_0 != 1) = false := bne_eq_false_iff_eq.mpr c2
    clear c2
    replace H := Option.bind_eq_some_iff.mp H
    obtain ⟨⟨t342, t343⟩, A30, H⟩ := H
    replace H : (some (t343 == 0)) = some r := H
    have A3 := zad.mk A30
    clear A30
    obtain rfl := Option.some.inj H
    go_enter Tryz.func31, Tryz.ntmps31
    go_wp2_with (first | ((with_reducible refine zbw (N := 1) rfl ?_); (try (refine zbo (by rfl) ?_; dsimp only)); refine zby ?hg (N := 1) ?hd (cs := #[.int .u8 a0_0, .string a0_1, .int .i64 a0_2]) (t := 33) ?hr ?_; (case hd => rfl); (case hg => rfl); (case hr => first | (go_simp; done) | (go_simp; rfl)); intro gb341 hg w4 hbox hb; have n0_ := zad.mk (zah (by repeat (first | (with_reducible first | exact HB.out | apply zab | apply zaa | apply zac) | exact HB.out)) hb); have n1_ := zad.mk (hbox); have n2_ := zad.mk ((by rw [hg]; exact (zao (by repeat (first | (with_reducible first | exact HB.out | apply zab | apply zaa | apply zac) | exact HB.out))) : w.heap.size ≤ gb341)); have n3_ := zad.mk ((by rw [hg]; exact (zao (by repeat (first | (with_reducible first | exact HB.out | apply zab | apply zaa | apply zac) | exact HB.out))) : w.heap.size ≤ gb341)); clear HB; have HB := n0_; have BK341 := n1_; have GW341 := n2_; have GE341 := n3_; clear n0_ n1_ n2_ n3_; clear hb hbox hg; have hcz5_0 : w4.cell? ⟨gb341, 0, none⟩ = some (.int .u8 a0_0) := (zai BK341.out 0).trans rfl; have hcz5_1 : w4.cell? ⟨gb341, 1, none⟩ = some (.string a0_1) := (zai BK341.out 1).trans rfl; have hcz5_2 : w4.cell? ⟨gb341, 2, none⟩ = some (.int .i64 a0_2) := (zai BK341.out 2).trans rfl; have hfz5_0 := zaf BK341.out 0; have hfz5_1 := zaf BK341.out 1; have hfz5_2 := zaf BK341.out 2) | ((with_reducible refine zav (f := 50) rfl ?_); refine zbl (some 12) rfl rfl Tryz.func50 (by kernel_rfl) rfl #[.string a0_1] rfl (by (try simp only [List.map_toArray, List.map_cons, List.map_nil]); first | done | rfl | (simp only [List.length_drop, List.length_take]; rfl)) ?_; (with_reducible refine (za2.calls k a0_1 t342 t343 _ A3.out).mono ?_); rintro e w' ⟨rfl, ⟨nd, rfl⟩⟩; refine ⟨_, rfl, ?_⟩))
    go_ret
    exact ⟨by first | rfl | (simp [zak, zal] <;> rfl) | (simp [*, zak, zal] <;> rfl), by repeat (first | (with_reducible first | exact HB.out | apply zab | apply zaa | apply zac | refine zaj ?_ GE341.out) | exact HB.out)⟩
  · rw [if_neg c2] at H
    have c2b0 : (a0_0 == 1) = false := beq_eq_false_iff_ne.mpr c2
    have c2b1 : (a0_0 != 1) = true := bne_iff_ne.mpr c2
    by_cases c6 : a0_0 = 2
    · rw [if_pos c6] at H
      have c6b0 : (a0_0 == 2) = true := beq_iff_eq.mpr c6
      have c6b1 : (a0_0 != 2) = false := bne_eq_false_iff_eq.mpr c6
      clear c6
      replace H := Option.bind_eq_some_iff.mp H
      obtain ⟨t344, A70, H⟩ := H
      replace H : (some t344) = some r := H
      have A7 := zad.mk A70
      clear A70
      obtain rfl := Option.some.inj H
      go_enter Tryz.func31, Tryz.ntmps31
      go_wp2_with (first | ((with_reducible refine zbw (N := 1) rfl ?_); (try (refine zbo (by rfl) ?_; dsimp only)); refine zby ?hg (N := 1) ?hd (cs := #[.int .u8 a0_0, .string a0_1, .int .i64 a0_2]) (t := 33) ?hr ?_; (case hd => rfl); (case hg => rfl); (case hr => first | (go_simp; done) | (go_simp; rfl)); intro gb341 hg w8 hbox hb; have n0_ := zad.mk (zah (by repeat (first | (with_reducible first | exact HB.out | apply zab | apply zaa | apply zac) | exact HB.out)) hb); have n1_ := zad.mk (hbox); have n2_ := zad.mk ((by rw [hg]; exact (zao (by repeat (first | (with_reducible first | exact HB.out | apply zab | apply zaa | apply zac) | exact HB.out))) : w.heap.size ≤ gb341)); have n3_ := zad.mk ((by rw [hg]; exact (zao (by repeat (first | (with_reducible first | exact HB.out | apply zab | apply zaa | apply zac) | exact HB.out))) : w.heap.size ≤ gb341)); clear HB; have HB := n0_; have BK341 := n1_; have GW341 := n2_; have GE341 := n3_; clear n0_ n1_ n2_ n3_; clear hb hbox hg; have hcz9_0 : w8.cell? ⟨gb341, 0, none⟩ = some (.int .u8 a0_0) := (zai BK341.out 0).trans rfl; have hcz9_1 : w8.cell? ⟨gb341, 1, none⟩ = some (.string a0_1) := (zai BK341.out 1).trans rfl; have hcz9_2 : w8.cell? ⟨gb341, 2, none⟩ = some (.int .i64 a0_2) := (zai BK341.out 2).trans rfl; have hfz9_0 := zaf BK341.out 0; have hfz9_1 := zaf BK341.out 1; have hfz9_2 := zaf BK341.out 2) | ((with_reducible refine zav (f := 51) rfl ?_); refine zbl (some 21) rfl rfl Tryz.func51 (by kernel_rfl) rfl #[.string a0_1] rfl (by (try simp only [List.map_toArray, List.map_cons, List.map_nil]); first | done | rfl | (simp only [List.length_drop, List.length_take]; rfl)) ?_; (with_reducible refine (zbd.calls k a0_1 t344 _ A7.out).mono ?_); rintro e w10 ⟨rfl, hb⟩; refine ⟨_, rfl, ?_⟩; have n0_ := zad.mk (zbg (g := gb341) (o := .cells #[.int .u8 a0_0, .string a0_1, .int .i64 a0_2] 33 (0, 0)) (by (with_reducible repeat (first | refine zas ?_ _ | refine zat ?_ | refine zar ?_ _)); exact BK341.out) hb); have n1_ := zad.mk (zah (by repeat (first | (with_reducible first | exact HB.out | apply zab | apply zaa | apply zac | refine zaj ?_ GE341.out) | exact HB.out)) hb); clear BK341; clear HB; have BK341 := n0_; have HB := n1_; clear n0_ n1_; (try clear hb); (try clear hb2); (try clear hk); (try clear hi)))
      go_ret
      exact ⟨by first | rfl | (simp [zak, zal] <;> rfl) | (simp [*, zak, zal] <;> rfl), by repeat (first | (with_reducible first | exact HB.out | apply zab | apply zaa | apply zac | refine zaj ?_ GE341.out) | exact HB.out)⟩
    · rw [if_neg c6] at H
      have c6b0 : (a0_0 == 2) = false := beq_eq_false_iff_ne.mpr c6
      have c6b1 : (a0_0 != 2) = true := bne_iff_ne.mpr c6
      by_cases c11 : a0_0 = 3
      · rw [if_pos c11] at H
        have c11b0 : (a0_0 == 3) = true := beq_iff_eq.mpr c11
        have c11b1 : (a0_0 != 3) = false := bne_eq_false_iff_eq.mpr c11
        clear c11
        by_cases c12 : (a0_1.size : Int) > 0
        · rw [if_pos c12] at H
          have c12b0 : decide (0 < (a0_1.size : Int)) = true := decide_eq_true c12
          have c12b1 : decide (0 < a0_1.size) = true := decide_eq_true (by omega)
          clear c12
          replace H := Option.bind_eq_some_iff.mp H
          obtain ⟨t345, A130, H⟩ := H
          replace H : (some (t345 == (a0_1.size : Int))) = some r := H
          have A13 := zad.mk A130
          clear A130
          obtain rfl := Option.some.inj H
          go_enter Tryz.func31, Tryz.ntmps31
          try go_wp2_with (first | ((with_reducible refine zbw (N := 1) rfl ?_); (try (refine zbo (by rfl) ?_; dsimp only)); refine zby ?hg (N := 1) ?hd (cs := #[.int .u8 a0_0, .string a0_1, .int .i64 a0_2]) (t := 33) ?hr ?_; (case hd => rfl); (case hg => rfl); (case hr => first | (go_simp; done) | (go_simp; rfl)); intro gb341 hg w14 hbox hb; have n0_ := zad.mk (zah (by repeat (first | (with_reducible first | exact HB.out | apply zab | apply zaa | apply zac) | exact HB.out)) hb); have n1_ := zad.mk (hbox); have n2_ := zad.mk ((by rw [hg]; exact (zao (by repeat (first | (with_reducible first | exact HB.out | apply zab | apply zaa | apply zac) | exact HB.out))) : w.heap.size ≤ gb341)); have n3_ := zad.mk ((by rw [hg]; exact (zao (by repeat (first | (with_reducible first | exact HB.out | apply zab | apply zaa | apply zac) | exact HB.out))) : w.heap.size ≤ gb341)); clear HB; have HB := n0_; have BK341 := n1_; have GW341 := n2_; have GE341 := n3_; clear n0_ n1_ n2_ n3_; clear hb hbox hg; have hcz15_0 : w14.cell? ⟨gb341, 0, none⟩ = some (.int .u8 a0_0) := (zai BK341.out 0).trans rfl; have hcz15_1 : w14.cell? ⟨gb341, 1, none⟩ = some (.string a0_1) := (zai BK341.out 1).trans rfl; have hcz15_2 : w14.cell? ⟨gb341, 2, none⟩ = some (.int .i64 a0_2) := (zai BK341.out 2).trans rfl; have hfz15_0 := zaf BK341.out 0; have hfz15_1 := zaf BK341.out 1; have hfz15_2 := zaf BK341.out 2))
          have n0_ := zad.mk (zat BK341.out)
          have n1_ := zad.mk (zac HB.out)
          clear BK341
          clear HB
          have BK341 := n0_
          have HB := n1_
          clear n0_ n1_
          refine start_ (n := 14) (S := fun w' => w'.cell? ⟨gb341, 0, none⟩ = some (.int .u8 a0_0) ∧ w'.cell? ⟨gb341, 1, none⟩ = some (.string a0_1) ∧ w'.cell? ⟨gb341, 2, none⟩ = some (.int .i64 a0_2)) (ds := []) #[false, false, false, false, false, false, false, false, false, false, false, false, false, false] (by kernel_rfl) rfl rfl ⟨(zai BK341.out 0).trans rfl, (zai BK341.out 1).trans rfl, (zai BK341.out 2).trans rfl⟩ (fun hHeld => ?_); refine zc9 zbc.tab8 zbc.bits8 (fun HT_ HW_ => ?_)
          generalize w14.drew = w16 at BK341 HB hHeld ⊢
          refine pure_ (i := 0) (N := some 24) (v := ?_) (a' := ?_) #[true, false, false, false, false, false, false, false, false, false, false, false, false, false] rfl rfl (za4 HT_.out (by kernel_rfl)) (fun _ _ _ h => h) (Or.inl ⟨by rfl, ?_⟩) ?_ ?_
          rotate_left
          · intro w'
            go_simp
            with_reducible rfl
          rotate_left
          · simp only [Act.put, List.setIfInBounds_toArray, List.set_cons_zero, List.set_cons_succ, i64_w, i32_w]
            rfl
          refine take_ (i := 1) (N := some 25) (v := ?_) (a' := ?_) #[true, true, false, false, false, false, false, false, false, false, false, false, false, false] rfl rfl (zdt HT_.out HW_.out (by kernel_rfl)) (fun _ _ _ h => h) (Or.inl ⟨by rfl, ?_⟩) hHeld ?_ ?_
          rotate_left
          · rintro w' ⟨s0, s1, s2⟩
            go_simp
            with_reducible rfl
          rotate_left
          · simp only [Act.put, List.setIfInBounds_toArray, List.set_cons_zero, List.set_cons_succ, i64_w, i32_w]
            rfl
          refine pure_ (i := 2) (N := some 26) (v := ?_) (a' := ?_) #[true, true, true, false, false, false, false, false, false, false, false, false, false, false] rfl rfl (za4 HT_.out (by kernel_rfl)) (fun _ _ _ h => h) (Or.inl ⟨by rfl, ?_⟩) ?_ ?_
          rotate_left
          · intro w'
            go_simp
            with_reducible rfl
          rotate_left
          · simp only [Act.put, List.setIfInBounds_toArray, List.set_cons_zero, List.set_cons_succ, i64_w, i32_w]
            rfl
          refine pure_ (i := 3) (N := some 27) (v := ?_) (a' := ?_) #[true, true, true, true, false, false, false, false, false, false, false, false, false, false] rfl rfl (za4 HT_.out (by kernel_rfl)) (fun _ _ _ h => h) (Or.inl ⟨by rfl, ?_⟩) ?_ ?_
          rotate_left
          · intro w'
            go_simp
            with_reducible rfl
          rotate_left
          · simp only [Act.put, List.setIfInBounds_toArray, List.set_cons_zero, List.set_cons_succ, i64_w, i32_w]
            rfl
          refine pure_ (i := 4) (N := some 28) (v := ?_) (a' := ?_) #[true, true, true, true, true, false, false, false, false, false, false, false, false, false] rfl rfl (za4 HT_.out (by kernel_rfl)) (fun _ _ _ h => h) (Or.inl ⟨by rfl, ?_⟩) ?_ ?_
          rotate_left
          · intro w'
            go_simp
            with_reducible rfl
          rotate_left
          · simp only [Act.put, List.setIfInBounds_toArray, List.set_cons_zero, List.set_cons_succ, i64_w, i32_w]
            rfl
          refine pure_ (i := 5) (N := some 29) (v := ?_) (a' := ?_) #[true, true, true, true, true, true, false, false, false, false, false, false, false, false] rfl rfl (za4 HT_.out (by kernel_rfl)) (fun _ _ _ h => h) (Or.inl ⟨by rfl, ?_⟩) ?_ ?_
          rotate_left
          · intro w'
            go_simp
            with_reducible rfl
          rotate_left
          · simp only [Act.put, List.setIfInBounds_toArray, List.set_cons_zero, List.set_cons_succ, i64_w, i32_w]
            rfl
          refine pure_ (i := 8) (N := some 32) (v := ?_) (a' := ?_) #[true, true, true, true, true, true, false, false, true, false, false, false, false, false] rfl rfl (za4 HT_.out (by kernel_rfl)) (fun _ _ _ h => h) (Or.inl ⟨by rfl, ?_⟩) ?_ ?_
          rotate_left
          · intro w'
            go_simp
            with_reducible rfl
          rotate_left
          · simp only [Act.put, List.setIfInBounds_toArray, List.set_cons_zero, List.set_cons_succ, i64_w, i32_w]
            rfl
          refine take_ (i := 6) (N := some 30) (v := ?_) (a' := ?_) #[true, true, true, true, true, true, true, false, true, false, false, false, false, false] rfl rfl (zdt HT_.out HW_.out (by kernel_rfl)) (fun _ _ _ h => h) (Or.inl ⟨by rfl, ?_⟩) hHeld ?_ ?_
          rotate_left
          · rintro w' ⟨s0, s1, s2⟩
            go_simp
            with_reducible rfl
          rotate_left
          · simp only [Act.put, List.setIfInBounds_toArray, List.set_cons_zero, List.set_cons_succ, i64_w, i32_w]
            rfl
          refine take_ (i := 9) (N := some 33) (v := ?_) (a' := ?_) #[true, true, true, true, true, true, true, false, true, true, false, false, false, false] rfl rfl (zdt HT_.out HW_.out (by kernel_rfl)) (fun _ _ _ h => h) (Or.inl ⟨by rfl, ?_⟩) hHeld ?_ ?_
          rotate_left
          · rintro w' ⟨s0, s1, s2⟩
            go_simp
            with_reducible rfl
          rotate_left
          · simp only [Act.put, List.setIfInBounds_toArray, List.set_cons_zero, List.set_cons_succ, i64_w, i32_w]
            rfl
          refine pure_ (i := 10) (N := some 34) (v := ?_) (a' := ?_) #[true, true, true, true, true, true, true, false, true, true, true, false, false, false] rfl rfl (za4 HT_.out (by kernel_rfl)) (fun _ _ _ h => h) (Or.inl ⟨by rfl, ?_⟩) ?_ ?_
          rotate_left
          · intro w'
            go_simp
            with_reducible rfl
          rotate_left
          · simp only [Act.put, List.setIfInBounds_toArray, List.set_cons_zero, List.set_cons_succ, i64_w, i32_w]
            rfl
          refine one_ (i := 7) (N := some 31) #[true, true, true, true, true, true, true, true, true, true, true, false, false, false] rfl rfl (zdg HT_.out (by kernel_rfl)) (by decide) (fun K hK => ?_)
          refine goes_ Tryz.func52 (by kernel_rfl) rfl #[.string a0_1, .int .i64 0] (by rfl) rfl rfl (by (try simp only [List.map_toArray, List.map_cons, List.map_nil]); first | done | rfl | (simp only [List.length_drop, List.length_take]; rfl)) ?_
          with_reducible refine (za9.calls k a0_1 0 t345 _ A13.out).mono ?_
          rintro e w17 ⟨rfl, hb⟩
          refine ⟨_, rfl, ?_⟩
          have n0_ := zad.mk (zbg (g := gb341) (o := .cells #[.int .u8 a0_0, .string a0_1, .int .i64 a0_2] 33 (0, 0)) (by (with_reducible repeat (first | refine zas ?_ _ | refine zat ?_ | refine zar ?_ _)); exact BK341.out) hb)
          have n1_ := zad.mk (zah (by repeat (first | (with_reducible first | exact HB.out | apply zab | apply zaa | apply zac | refine zaj ?_ GE341.out) | exact HB.out)) hb)
          clear BK341
          clear HB
          have BK341 := n0_
          have HB := n1_
          clear n0_ n1_
          (try clear hb)
          (try clear hb2)
          (try clear hk)
          (try clear hi)
          refine hK.out _ _ ⟨(zai BK341.out 0).trans rfl, (zai BK341.out 1).trans rfl, (zai BK341.out 2).trans rfl⟩ (fun hHeld => ?_)
          clear hK K
          refine norm_ (a' := ?_) ?_ ?_
          rotate_left
          · show Act.put _ (some 31) _ = _
            simp only [Act.put, List.setIfInBounds_toArray, List.set_cons_zero, List.set_cons_succ, i64_w, i32_w]
            rfl
          refine pure_ (i := 11) (N := some 35) (v := ?_) (a' := ?_) #[true, true, true, true, true, true, true, true, true, true, true, true, false, false] rfl rfl (za4 HT_.out (by kernel_rfl)) (fun _ _ _ h => h) (Or.inl ⟨by rfl, ?_⟩) ?_ ?_
          rotate_left
          · intro w'
            go_simp
            with_reducible rfl
          rotate_left
          · simp only [Act.put, List.setIfInBounds_toArray, List.set_cons_zero, List.set_cons_succ, i64_w, i32_w]
            rfl
          refine pure_ (i := 12) (N := some 36) (v := ?_) (a' := ?_) #[true, true, true, true, true, true, true, true, true, true, true, true, true, false] rfl rfl (za4 HT_.out (by kernel_rfl)) (fun _ _ _ h => h) (Or.inl ⟨by rfl, ?_⟩) ?_ ?_
          rotate_left
          · intro w'
            go_simp
            with_reducible rfl
          rotate_left
          · simp only [Act.put, List.setIfInBounds_toArray, List.set_cons_zero, List.set_cons_succ, i64_w, i32_w]
            rfl
          refine pure_ (i := 13) (N := some 2) (v := ?_) (a' := ?_) #[true, true, true, true, true, true, true, true, true, true, true, true, true, true] rfl rfl (za4 HT_.out (by kernel_rfl)) (fun _ _ _ h => h) (Or.inl ⟨by rfl, ?_⟩) ?_ ?_
          rotate_left
          · intro w'
            go_simp
            with_reducible rfl
          rotate_left
          · simp only [Act.put, List.setIfInBounds_toArray, List.set_cons_zero, List.set_cons_succ, i64_w, i32_w]
            rfl
          refine done_ (done_of HT_.out (by kernel_rfl)) ?_
          try go_wp2
          go_ret
          exact ⟨by first | rfl | (simp [zak, zal] <;> rfl) | (simp [*, zak, zal] <;> rfl), by repeat (first | (with_reducible first | exact HB.out | apply zab | apply zaa | apply zac | refine zaj ?_ GE341.out) | exact HB.out)⟩
        · rw [if_neg c12] at H
          have c12b0 : decide (0 < (a0_1.size : Int)) = false := decide_eq_false c12
          have c12b1 : decide (0 < a0_1.size) = false := decide_eq_false (by omega)
          clear c12
          obtain rfl := Option.some.inj H
          go_enter Tryz.func31, Tryz.ntmps31
          try go_wp2_with (first | ((with_reducible refine zbw (N := 1) rfl ?_); (try (refine zbo (by rfl) ?_; dsimp only)); refine zby ?hg (N := 1) ?hd (cs := #[.int .u8 a0_0, .string a0_1, .int .i64 a0_2]) (t := 33) ?hr ?_; (case hd => rfl); (case hg => rfl); (case hr => first | (go_simp; done) | (go_simp; rfl)); intro gb341 hg w18 hbox hb; have n0_ := zad.mk (zah (by repeat (first | (with_reducible first | exact HB.out | apply zab | apply zaa | apply zac) | exact HB.out)) hb); have n1_ := zad.mk (hbox); have n2_ := zad.mk ((by rw [hg]; exact (zao (by repeat (first | (with_reducible first | exact HB.out | apply zab | apply zaa | apply zac) | exact HB.out))) : w.heap.size ≤ gb341)); have n3_ := zad.mk ((by rw [hg]; exact (zao (by repeat (first | (with_reducible first | exact HB.out | apply zab | apply zaa | apply zac) | exact HB.out))) : w.heap.size ≤ gb341)); clear HB; have HB := n0_; have BK341 := n1_; have GW341 := n2_; have GE341 := n3_; clear n0_ n1_ n2_ n3_; clear hb hbox hg; have hcz19_0 : w18.cell? ⟨gb341, 0, none⟩ = some (.int .u8 a0_0) := (zai BK341.out 0).trans rfl; have hcz19_1 : w18.cell? ⟨gb341, 1, none⟩ = some (.string a0_1) := (zai BK341.out 1).trans rfl; have hcz19_2 : w18.cell? ⟨gb341, 2, none⟩ = some (.int .i64 a0_2) := (zai BK341.out 2).trans rfl; have hfz19_0 := zaf BK341.out 0; have hfz19_1 := zaf BK341.out 1; have hfz19_2 := zaf BK341.out 2))
          have n0_ := zad.mk (zat BK341.out)
          have n1_ := zad.mk (zac HB.out)
          clear BK341
          clear HB
          have BK341 := n0_
          have HB := n1_
          clear n0_ n1_
          refine start_ (n := 14) (S := fun w' => w'.cell? ⟨gb341, 0, none⟩ = some (.int .u8 a0_0) ∧ w'.cell? ⟨gb341, 1, none⟩ = some (.string a0_1) ∧ w'.cell? ⟨gb341, 2, none⟩ = some (.int .i64 a0_2)) (ds := []) #[false, false, false, false, false, false, false, false, false, false, false, false, false, false] (by kernel_rfl) rfl rfl ⟨(zai BK341.out 0).trans rfl, (zai BK341.out 1).trans rfl, (zai BK341.out 2).trans rfl⟩ (fun hHeld => ?_); refine zc9 zbc.tab8 zbc.bits8 (fun HT_ HW_ => ?_)
          generalize w18.drew = w20 at BK341 HB hHeld ⊢
          refine pure_ (i := 0) (N := some 24) (v := ?_) (a' := ?_) #[true, false, false, false, false, false, false, false, false, false, false, false, false, false] rfl rfl (za4 HT_.out (by kernel_rfl)) (fun _ _ _ h => h) (Or.inl ⟨by rfl, ?_⟩) ?_ ?_
          rotate_left
          · intro w'
            go_simp
            with_reducible rfl
          rotate_left
          · simp only [Act.put, List.setIfInBounds_toArray, List.set_cons_zero, List.set_cons_succ, i64_w, i32_w]
            rfl
          refine take_ (i := 1) (N := some 25) (v := ?_) (a' := ?_) #[true, true, false, false, false, false, false, false, false, false, false, false, false, false] rfl rfl (zdt HT_.out HW_.out (by kernel_rfl)) (fun _ _ _ h => h) (Or.inl ⟨by rfl, ?_⟩) hHeld ?_ ?_
          rotate_left
          · rintro w' ⟨s0, s1, s2⟩
            go_simp
            with_reducible rfl
          rotate_left
          · simp only [Act.put, List.setIfInBounds_toArray, List.set_cons_zero, List.set_cons_succ, i64_w, i32_w]
            rfl
          refine pure_ (i := 2) (N := some 26) (v := ?_) (a' := ?_) #[true, true, true, false, false, false, false, false, false, false, false, false, false, false] rfl rfl (za4 HT_.out (by kernel_rfl)) (fun _ _ _ h => h) (Or.inl ⟨by rfl, ?_⟩) ?_ ?_
          rotate_left
          · intro w'
            go_simp
            with_reducible rfl
          rotate_left
          · simp only [Act.put, List.setIfInBounds_toArray, List.set_cons_zero, List.set_cons_succ, i64_w, i32_w]
            rfl
          refine pure_ (i := 3) (N := some 27) (v := ?_) (a' := ?_) #[true, true, true, true, false, false, false, false, false, false, false, false, false, false] rfl rfl (za4 HT_.out (by kernel_rfl)) (fun _ _ _ h => h) (Or.inl ⟨by rfl, ?_⟩) ?_ ?_
          rotate_left
          · intro w'
            go_simp
            with_reducible rfl
          rotate_left
          · simp only [Act.put, List.setIfInBounds_toArray, List.set_cons_zero, List.set_cons_succ, i64_w, i32_w]
            rfl
          refine pure_ (i := 4) (N := some 28) (v := ?_) (a' := ?_) #[true, true, true, true, true, false, false, false, false, false, false, false, false, false] rfl rfl (za4 HT_.out (by kernel_rfl)) (fun _ _ _ h => h) (Or.inl ⟨by rfl, ?_⟩) ?_ ?_
          rotate_left
          · intro w'
            go_simp
            with_reducible rfl
          rotate_left
          · simp only [Act.put, List.setIfInBounds_toArray, List.set_cons_zero, List.set_cons_succ, i64_w, i32_w]
            rfl
          refine pure_ (i := 5) (N := some 29) (v := undef) (a' := ?_) #[true, true, true, true, true, true, false, false, false, false, false, false, false, false] rfl rfl (za4 HT_.out (by kernel_rfl)) (fun _ _ _ h => h) (Or.inr ⟨by rfl, rfl⟩) ?_ ?_
          rotate_left
          · simp only [Act.put, List.setIfInBounds_toArray, List.set_cons_zero, List.set_cons_succ, i64_w, i32_w]
            rfl
          refine pure_ (i := 6) (N := some 30) (v := undef) (a' := ?_) #[true, true, true, true, true, true, true, false, false, false, false, false, false, false] rfl rfl (za4 HT_.out (by kernel_rfl)) (fun _ _ _ h => h) (Or.inr ⟨by rfl, rfl⟩) ?_ ?_
          rotate_left
          · simp only [Act.put, List.setIfInBounds_toArray, List.set_cons_zero, List.set_cons_succ, i64_w, i32_w]
            rfl
          refine pure_ (i := 7) (N := some 31) (v := undef) (a' := ?_) #[true, true, true, true, true, true, true, true, false, false, false, false, false, false] rfl rfl (za4 HT_.out (by kernel_rfl)) (fun _ _ _ h => h) (Or.inr ⟨by rfl, rfl⟩) ?_ ?_
          rotate_left
          · simp only [Act.put, List.setIfInBounds_toArray, List.set_cons_zero, List.set_cons_succ, i64_w, i32_w]
            rfl
          refine pure_ (i := 8) (N := some 32) (v := undef) (a' := ?_) #[true, true, true, true, true, true, true, true, true, false, false, false, false, false] rfl rfl (za4 HT_.out (by kernel_rfl)) (fun _ _ _ h => h) (Or.inr ⟨by rfl, rfl⟩) ?_ ?_
          rotate_left
          · simp only [Act.put, List.setIfInBounds_toArray, List.set_cons_zero, List.set_cons_succ, i64_w, i32_w]
            rfl
          refine pure_ (i := 9) (N := some 33) (v := undef) (a' := ?_) #[true, true, true, true, true, true, true, true, true, true, false, false, false, false] rfl rfl (za4 HT_.out (by kernel_rfl)) (fun _ _ _ h => h) (Or.inr ⟨by rfl, rfl⟩) ?_ ?_
          rotate_left
          · simp only [Act.put, List.setIfInBounds_toArray, List.set_cons_zero, List.set_cons_succ, i64_w, i32_w]
            rfl
          refine pure_ (i := 10) (N := some 34) (v := undef) (a' := ?_) #[true, true, true, true, true, true, true, true, true, true, true, false, false, false] rfl rfl (za4 HT_.out (by kernel_rfl)) (fun _ _ _ h => h) (Or.inr ⟨by rfl, rfl⟩) ?_ ?_
          rotate_left
          · simp only [Act.put, List.setIfInBounds_toArray, List.set_cons_zero, List.set_cons_succ, i64_w, i32_w]
            rfl
          refine pure_ (i := 11) (N := some 35) (v := undef) (a' := ?_) #[true, true, true, true, true, true, true, true, true, true, true, true, false, false] rfl rfl (za4 HT_.out (by kernel_rfl)) (fun _ _ _ h => h) (Or.inr ⟨by rfl, rfl⟩) ?_ ?_
          rotate_left
          · simp only [Act.put, List.setIfInBounds_toArray, List.set_cons_zero, List.set_cons_succ, i64_w, i32_w]
            rfl
          refine pure_ (i := 12) (N := some 36) (v := ?_) (a' := ?_) #[true, true, true, true, true, true, true, true, true, true, true, true, true, false] rfl rfl (za4 HT_.out (by kernel_rfl)) (fun _ _ _ h => h) (Or.inl ⟨by rfl, ?_⟩) ?_ ?_
          rotate_left
          · intro w'
            go_simp
            with_reducible rfl
          rotate_left
          · simp only [Act.put, List.setIfInBounds_toArray, List.set_cons_zero, List.set_cons_succ, i64_w, i32_w]
            rfl
          refine pure_ (i := 13) (N := some 2) (v := ?_) (a' := ?_) #[true, true, true, true, true, true, true, true, true, true, true, true, true, true] rfl rfl (za4 HT_.out (by kernel_rfl)) (fun _ _ _ h => h) (Or.inl ⟨by rfl, ?_⟩) ?_ ?_
          rotate_left
          · intro w'
            go_simp
            with_reducible rfl
          rotate_left
          · simp only [Act.put, List.setIfInBounds_toArray, List.set_cons_zero, List.set_cons_succ, i64_w, i32_w]
            rfl
          refine done_ (done_of HT_.out (by kernel_rfl)) ?_
          try go_wp2
          go_ret
          exact ⟨by first | rfl | (simp [zak, zal] <;> rfl) | (simp [*, zak, zal] <;> rfl), by repeat (first | (with_reducible first | exact HB.out | apply zab | apply zaa | apply zac | refine zaj ?_ GE341.out) | exact HB.out)⟩
      · rw [if_neg c11] at H
        have c11b0 : (a0_0 == 3) = false := beq_eq_false_iff_ne.mpr c11
        have c11b1 : (a0_0 != 3) = true := bne_iff_ne.mpr c11
        obtain rfl := Option.some.inj H
        go_enter Tryz.func31, Tryz.ntmps31
        go_wp2_with (first | ((with_reducible refine zbw (N := 1) rfl ?_); (try (refine zbo (by rfl) ?_; dsimp only)); refine zby ?hg (N := 1) ?hd (cs := #[.int .u8 a0_0, .string a0_1, .int .i64 a0_2]) (t := 33) ?hr ?_; (case hd => rfl); (case hg => rfl); (case hr => first | (go_simp; done) | (go_simp; rfl)); intro gb341 hg w21 hbox hb; have n0_ := zad.mk (zah (by repeat (first | (with_reducible first | exact HB.out | apply zab | apply zaa | apply zac) | exact HB.out)) hb); have n1_ := zad.mk (hbox); have n2_ := zad.mk ((by rw [hg]; exact (zao (by repeat (first | (with_reducible first | exact HB.out | apply zab | apply zaa | apply zac) | exact HB.out))) : w.heap.size ≤ gb341)); have n3_ := zad.mk ((by rw [hg]; exact (zao (by repeat (first | (with_reducible first | exact HB.out | apply zab | apply zaa | apply zac) | exact HB.out))) : w.heap.size ≤ gb341)); clear HB; have HB := n0_; have BK341 := n1_; have GW341 := n2_; have GE341 := n3_; clear n0_ n1_ n2_ n3_; clear hb hbox hg; have hcz22_0 : w21.cell? ⟨gb341, 0, none⟩ = some (.int .u8 a0_0) := (zai BK341.out 0).trans rfl; have hcz22_1 : w21.cell? ⟨gb341, 1, none⟩ = some (.string a0_1) := (zai BK341.out 1).trans rfl; have hcz22_2 : w21.cell? ⟨gb341, 2, none⟩ = some (.int .i64 a0_2) := (zai BK341.out 2).trans rfl; have hfz22_0 := zaf BK341.out 0; have hfz22_1 := zaf BK341.out 1; have hfz22_2 := zaf BK341.out 2))
        go_ret
        exact ⟨by first | rfl | (simp [zak, zal] <;> rfl) | (simp [*, zak, zal] <;> rfl), by repeat (first | (with_reducible first | exact HB.out | apply zab | apply zaa | apply zac | refine zaj ?_ GE341.out) | exact HB.out)⟩
mutual
def zax.l0 : Nat → List (S33) → Int → Int → Option (Int)
  | 0, _, _, _ => none
  | k + 1, x0, x1, x5 => if x5 < (x0.length : Int) then (if 0 ≤ x5 then ((zbc.f k ((zbh x0 x5).f0) ((zbh x0 x5).f1) ((zbh x0 x5).f2)).bind fun t347 => (if t347 = true then (if ((zbh x0 x5).f2) < 0 then (zax.j1 k x0 x1 x5 true) else (zax.j1 k x0 x1 x5 (decide (((zbh x0 x5).f2) > 400)))) else (zax.j1 k x0 x1 x5 true))) else (none)) else (if x1 < 0 then (some 2) else (if x1 > (x0.length : Int) then (some 2) else (some 0)))
def zax.j1 : Nat → List (S33) → Int → Int → Bool → Option (Int)
  | 0, _, _, _, _ => none
  | k + 1, x0, x1, x5, x36 => if x36 = true then (some 8) else (zax.l0 k x0 x1 (wrap64 (x5 + 1)))
end
def zax.f (k : Nat) (l0 : List (S33)) (a1 : Int) : Option (Int) := if (l0.length : Int) > 200 then (some 4) else (zax.l0 k l0 a1 0)
set_option maxHeartbeats 8000000 in
set_option maxRecDepth 100000 in
theorem zax.calls (k : Nat) (A0 : Option Addr) (c0 : Nat) (l0 : List (S33)) (a1 : Int) (r : Int) (w : World) (hr0 : Kd.C k33 w A0 l0.length l0) (hc0 : l0.length ≤ c0) (h : zax.f k l0 a1 = some r) :
 Calls Tryz.prog 14 #[.slice A0 l0.length c0, .int .i64 a1] w fun e w' => e = .returned (.int .i64 r) ∧ Below w.heap.size w w' := by
 have hu33 := Tryz.underlying33
 have HR0 := zad.mk hr0
 have HC0 := zad.mk hc0
 clear hr0 hc0
 have HB := zad.mk (Below.refl w.heap.size w)
 have H : (if (l0.length : Int) > 200 then (some 4) else (zax.l0 k l0 a1 0)) = some r := h
 clear h
 by_cases c3 : (l0.length : Int) > 200
 ·rw [if_pos c3] at H
  have c3b0 : decide (200 < (l0.length : Int)) = true := decide_eq_true c3
  have c3b1 : decide (200 < l0.length) = true := decide_eq_true (by omega)
  clear c3
  obtain rfl := Option.some.inj H
  go_enter Tryz.func14, Tryz.ntmps14
  go_wp2
  go_ret
  exact ⟨by first | rfl | (simp [zak, zal] <;> rfl) | (simp [*, zak, zal] <;> rfl), by repeat (first | (with_reducible first | exact HB.out | apply zab | apply zaa | apply zac) | exact HB.out)⟩
 ·rw [if_neg c3] at H
  have c3b0 : decide (200 < (l0.length : Int)) = false := decide_eq_false c3
  have c3b1 : decide (200 < l0.length) = false := decide_eq_false (by omega)
  clear c3
  have H' := zad.mk H
  clear H
  go_enter Tryz.func14, Tryz.ntmps14
  go_wp2
  go_loopg [5] k (fun kq v5 w' => ∃ (x5_1 : Int), v5 = .int .i64 x5_1 ∧ zad (zax.l0 kq l0 a1 x5_1 = some r) ∧ zad (kq ≤ k) ∧ zad (Below w.heap.size w w'))
  case atStart => exact ⟨(0), (by first | rfl | (simp; done) | (simp [*]; done)), H', ⟨Nat.le_refl _⟩, ⟨by repeat (first | (with_reducible first | exact HB.out | apply zab | apply zaa | apply zac) | exact HB.out)⟩⟩
  case round =>
   clear H'
   try clear c1
   try clear p2
   try clear c3
   try clear c3b0
   try clear c3b1
   obtain ⟨x5_1, rfl, HA, HK1, HB⟩ := hrel
   cases gk with
   | zero => exact absurd HA.out (by simp [zax.l0])
   | succ k1 =>
    have H := HA.out
    clear HA
    simp only [zax.l0] at H
    by_cases c4 : x5_1 < (l0.length : Int)
    ·rw [if_pos c4] at H
     have c4b0 : decide (x5_1 < (l0.length : Int)) = true := decide_eq_true c4
     clear c4
     have HC5 := zad.mk H
     clear H
     go_upto_region 6 with (fail)
     go_cut [36] (fun v36 wc => ∃ (kq : Nat) (x36_4 : Bool), v36 = .bool x36_4 ∧ zad (zax.j1 kq l0 a1 x5_1 x36_4 = some r) ∧ zad (kq ≤ k1) ∧ zad (Below w.heap.size w wc))
     case first =>
      have H := HC5.out
      clear HC5
      by_cases c6 : 0 ≤ x5_1
      ·rw [if_pos c6] at H
       have c6b0 : decide (0 ≤ x5_1) = true := decide_eq_true c6
       clear c6
       (first | rw [c6b0] | (simp only [i64_w, i32_w]; rw [c6b0]) | skip)
       replace H := Option.bind_eq_some_iff.mp H
       obtain ⟨t347, A70, H⟩ := H
       replace H : (if t347 = true then (if ((zbh l0 x5_1).f2) < 0 then (zax.j1 k1 l0 a1 x5_1 true) else (zax.j1 k1 l0 a1 x5_1 (decide (((zbh l0 x5_1).f2) > 400)))) else (zax.j1 k1 l0 a1 x5_1 true)) = some r := H
       have A7 := zad.mk A70
       clear A70
       by_cases c8 : t347 = true
       ·subst c8
        have H1 : (if ((zbh l0 x5_1).f2) < 0 then (zax.j1 k1 l0 a1 x5_1 true) else (zax.j1 k1 l0 a1 x5_1 (decide (((zbh l0 x5_1).f2) > 400)))) = some r := by rw [if_pos rfl] at H; exact H
        clear H
        have H := H1
        clear H1
        by_cases c9 : ((zbh l0 x5_1).f2) < 0
        ·rw [if_pos c9] at H
         have c9b0 : decide (((zbh l0 x5_1).f2) < 0) = true := decide_eq_true c9
         clear c9
         have H' := zad.mk H
         clear H
         have p346 : 0 ≤ (x5_1 : Int) := of_decide_eq_true (by first | (with_reducible assumption) | assumption)
         have q346 : x5_1 < (l0.length : Int) := of_decide_eq_true (by first | (with_reducible assumption) | assumption)
         obtain ⟨ad346, e346, hx346_0, hx346_1, hx346_2⟩ := zd2 HR0.out x5_1 p346 q346
         cases e346
         replace hx346_0 := (HB.out.cell (World.block_lt_of_cell? w _ hx346_0)).trans hx346_0
         replace hx346_1 := (HB.out.cell (World.block_lt_of_cell? w _ hx346_1)).trans hx346_1
         replace hx346_2 := (HB.out.cell (World.block_lt_of_cell? w _ hx346_2)).trans hx346_2
         replace p346 := eq_true p346
         replace q346 := eq_true q346
         go_wp2_with (first | ((with_reducible refine zav (f := 31) rfl ?_); refine zbl (some 19) rfl rfl Tryz.func31 (by kernel_rfl) rfl #[.agg #[.int .u8 ((zbh l0 x5_1).f0), .string ((zbh l0 x5_1).f1), .int .i64 ((zbh l0 x5_1).f2)]] rfl (by (try simp only [List.map_toArray, List.map_cons, List.map_nil]); first | done | rfl | (simp only [List.length_drop, List.length_take]; rfl)) ?_; (with_reducible refine (zbc.calls k1 ((zbh l0 x5_1).f0) ((zbh l0 x5_1).f1) ((zbh l0 x5_1).f2) true _ A7.out).mono ?_); rintro e w10 ⟨rfl, hb⟩; refine ⟨_, rfl, ?_⟩; have n0_ := zad.mk (zah (by repeat (first | (with_reducible first | exact HB.out | apply zab | apply zaa | apply zac) | exact HB.out)) hb); clear HB; have HB := n0_; clear n0_; (try clear hb); (try clear hb2); (try clear hk); (try clear hi); have p348 : 0 ≤ (x5_1 : Int) := of_decide_eq_true (by first | (with_reducible assumption) | assumption); have q348 : x5_1 < (l0.length : Int) := of_decide_eq_true (by first | (with_reducible assumption) | assumption); obtain ⟨ad348, e348, hx348_0, hx348_1, hx348_2⟩ := zd2 HR0.out x5_1 p348 q348; obtain rfl : ad346 = ad348 := (by injection e348); replace hx348_0 := (HB.out.cell (World.block_lt_of_cell? w _ hx348_0)).trans hx348_0; replace hx348_1 := (HB.out.cell (World.block_lt_of_cell? w _ hx348_1)).trans hx348_1; replace hx348_2 := (HB.out.cell (World.block_lt_of_cell? w _ hx348_2)).trans hx348_2; replace p348 := eq_true p348; replace q348 := eq_true q348))
         go_meet
         case rel => exact ⟨_, (true), (by first | rfl | (simp; done) | (simp [*]; done)), H', ⟨by have := HK1.out; first | omega | exact Nat.le_refl _⟩, ⟨by repeat (first | (with_reducible first | exact HB.out | apply zab | apply zaa | apply zac) | exact HB.out)⟩⟩
        ·rw [if_neg c9] at H
         have c9b0 : decide (((zbh l0 x5_1).f2) < 0) = false := decide_eq_false c9
         clear c9
         have H' := zad.mk H
         clear H
         have p346 : 0 ≤ (x5_1 : Int) := of_decide_eq_true (by first | (with_reducible assumption) | assumption)
         have q346 : x5_1 < (l0.length : Int) := of_decide_eq_true (by first | (with_reducible assumption) | assumption)
         obtain ⟨ad346, e346, hx346_0, hx346_1, hx346_2⟩ := zd2 HR0.out x5_1 p346 q346
         cases e346
         replace hx346_0 := (HB.out.cell (World.block_lt_of_cell? w _ hx346_0)).trans hx346_0
         replace hx346_1 := (HB.out.cell (World.block_lt_of_cell? w _ hx346_1)).trans hx346_1
         replace hx346_2 := (HB.out.cell (World.block_lt_of_cell? w _ hx346_2)).trans hx346_2
         replace p346 := eq_true p346
         replace q346 := eq_true q346
         go_wp2_with (first | ((with_reducible refine zav (f := 31) rfl ?_); refine zbl (some 19) rfl rfl Tryz.func31 (by kernel_rfl) rfl #[.agg #[.int .u8 ((zbh l0 x5_1).f0), .string ((zbh l0 x5_1).f1), .int .i64 ((zbh l0 x5_1).f2)]] rfl (by (try simp only [List.map_toArray, List.map_cons, List.map_nil]); first | done | rfl | (simp only [List.length_drop, List.length_take]; rfl)) ?_; (with_reducible refine (zbc.calls k1 ((zbh l0 x5_1).f0) ((zbh l0 x5_1).f1) ((zbh l0 x5_1).f2) true _ A7.out).mono ?_); rintro e w11 ⟨rfl, hb⟩; refine ⟨_, rfl, ?_⟩; have n0_ := zad.mk (zah (by repeat (first | (with_reducible first | exact HB.out | apply zab | apply zaa | apply zac) | exact HB.out)) hb); clear HB; have HB := n0_; clear n0_; (try clear hb); (try clear hb2); (try clear hk); (try clear hi); have p348 : 0 ≤ (x5_1 : Int) := of_decide_eq_true (by first | (with_reducible assumption) | assumption); have q348 : x5_1 < (l0.length : Int) := of_decide_eq_true (by first | (with_reducible assumption) | assumption); obtain ⟨ad348, e348, hx348_0, hx348_1, hx348_2⟩ := zd2 HR0.out x5_1 p348 q348; obtain rfl : ad346 = ad348 := (by injection e348); replace hx348_0 := (HB.out.cell (World.block_lt_of_cell? w _ hx348_0)).trans hx348_0; replace hx348_1 := (HB.out.cell (World.block_lt_of_cell? w _ hx348_1)).trans hx348_1; replace hx348_2 := (HB.out.cell (World.block_lt_of_cell? w _ hx348_2)).trans hx348_2; replace p348 := eq_true p348; replace q348 := eq_true q348; have p349 : 0 ≤ (x5_1 : Int) := of_decide_eq_true (by first | (with_reducible assumption) | assumption); have q349 : x5_1 < (l0.length : Int) := of_decide_eq_true (by first | (with_reducible assumption) | assumption); obtain ⟨ad349, e349, hx349_0, hx349_1, hx349_2⟩ := zd2 HR0.out x5_1 p349 q349; obtain rfl : ad346 = ad349 := (by injection e349); replace hx349_0 := (HB.out.cell (World.block_lt_of_cell? w _ hx349_0)).trans hx349_0; replace hx349_1 := (HB.out.cell (World.block_lt_of_cell? w _ hx349_1)).trans hx349_1; replace hx349_2 := (HB.out.cell (World.block_lt_of_cell? w _ hx349_2)).trans hx349_2; replace p349 := eq_true p349; replace q349 := eq_true q349))
         go_meet
         case rel => exact ⟨_, (decide (((zbh l0 x5_1).f2) > 400)), (by first | rfl | (simp; done) | (simp [*]; done)), H', ⟨by have := HK1.out; first | omega | exact Nat.le_refl _⟩, ⟨by repeat (first | (with_reducible first | exact HB.out | apply zab | apply zaa | apply zac) | exact HB.out)⟩⟩
       ·replace c8 := Bool.eq_false_iff.mpr c8
        subst c8
        have H1 : (zax.j1 k1 l0 a1 x5_1 true) = some r := by rw [if_neg (show ¬ (false = true) by decide)] at H; exact H
        clear H
        have H := H1
        clear H1
        have H' := zad.mk H
        clear H
        have p346 : 0 ≤ (x5_1 : Int) := of_decide_eq_true (by first | (with_reducible assumption) | assumption)
        have q346 : x5_1 < (l0.length : Int) := of_decide_eq_true (by first | (with_reducible assumption) | assumption)
        obtain ⟨ad346, e346, hx346_0, hx346_1, hx346_2⟩ := zd2 HR0.out x5_1 p346 q346
        cases e346
        replace hx346_0 := (HB.out.cell (World.block_lt_of_cell? w _ hx346_0)).trans hx346_0
        replace hx346_1 := (HB.out.cell (World.block_lt_of_cell? w _ hx346_1)).trans hx346_1
        replace hx346_2 := (HB.out.cell (World.block_lt_of_cell? w _ hx346_2)).trans hx346_2
        replace p346 := eq_true p346
        replace q346 := eq_true q346
        go_wp2_with (first | ((with_reducible refine zav (f := 31) rfl ?_); refine zbl (some 19) rfl rfl Tryz.func31 (by kernel_rfl) rfl #[.agg #[.int .u8 ((zbh l0 x5_1).f0), .string ((zbh l0 x5_1).f1), .int .i64 ((zbh l0 x5_1).f2)]] rfl (by (try simp only [List.map_toArray, List.map_cons, List.map_nil]); first | done | rfl | (simp only [List.length_drop, List.length_take]; rfl)) ?_; (with_reducible refine (zbc.calls k1 ((zbh l0 x5_1).f0) ((zbh l0 x5_1).f1) ((zbh l0 x5_1).f2) false _ A7.out).mono ?_); rintro e w12 ⟨rfl, hb⟩; refine ⟨_, rfl, ?_⟩; have n0_ := zad.mk (zah (by repeat (first | (with_reducible first | exact HB.out | apply zab | apply zaa | apply zac) | exact HB.out)) hb); clear HB; have HB := n0_; clear n0_; (try clear hb); (try clear hb2); (try clear hk); (try clear hi)))
        go_meet
        case rel => exact ⟨_, (true), (by first | rfl | (simp; done) | (simp [*]; done)), H', ⟨by have := HK1.out; first | omega | exact Nat.le_refl _⟩, ⟨by repeat (first | (with_reducible first | exact HB.out | apply zab | apply zaa | apply zac) | exact HB.out)⟩⟩
      ·rw [if_neg c6] at H
       exact absurd H (by simp)
     case rest =>
      clear HC5
      try clear c1
      try clear p2
      try clear c3
      try clear c3b0
      try clear c3b1
      try clear p3
      try clear q3
      try clear hx3
      try clear c4
      try clear c4b0
      try clear c6
      try clear c6b0
      try clear c8
      try clear c9
      try clear c9b0
      try clear hx346_0
      try clear hx346_1
      try clear hx346_2
      try clear hx348_0
      try clear hx348_1
      try clear hx348_2
      try clear hx349_0
      try clear hx349_1
      try clear hx349_2
      try clear p2
      try clear p346
      try clear p348
      try clear p349
      try clear q346
      try clear q348
      try clear q349
      obtain ⟨kq, x36_4, rfl, HA, HJ4, HB⟩ := hcut
      cases kq with
      | zero => exact absurd HA.out (by simp [zax.j1])
      | succ kj4 =>
       have H := HA.out
       clear HA
       simp only [zax.j1] at H
       by_cases c13 : x36_4 = true
       ·subst c13
        have H1 : (some 8) = some r := by rw [if_pos rfl] at H; exact H
        clear H
        have H := H1
        clear H1
        obtain rfl := Option.some.inj H
        go_wp2
        go_ret
        exact ⟨by first | rfl | (simp [zak, zal] <;> rfl) | (simp [*, zak, zal] <;> rfl), by repeat (first | (with_reducible first | exact HB.out | apply zab | apply zaa | apply zac) | exact HB.out)⟩
       ·replace c13 := Bool.eq_false_iff.mpr c13
        subst c13
        have H1 : (zax.l0 kj4 l0 a1 (wrap64 (x5_1 + 1))) = some r := by rw [if_neg (show ¬ (false = true) by decide)] at H; exact H
        clear H
        have H := H1
        clear H1
        have H' := zad.mk H
        clear H
        go_wp2
        go_roundg kj4
        case measure => have := HK1.out; have := HJ4.out; omega
        case rel => exact ⟨(wrap64 (x5_1 + 1)), (by first | rfl | (simp; done) | (simp [*]; done)), H', ⟨by have := HK1.out; have := HJ4.out; omega⟩, ⟨by repeat (first | (with_reducible first | exact HB.out | apply zab | apply zaa | apply zac) | exact HB.out)⟩⟩
    ·rw [if_neg c4] at H
     have c4b0 : decide (x5_1 < (l0.length : Int)) = false := decide_eq_false c4
     clear c4
     by_cases c14 : a1 < 0
     ·rw [if_pos c14] at H
      have c14b0 : decide (a1 < 0) = true := decide_eq_true c14
      clear c14
      obtain rfl := Option.some.inj H
      go_wp2
      go_ret
      exact ⟨by first | rfl | (simp [zak, zal] <;> rfl) | (simp [*, zak, zal] <;> rfl), by repeat (first | (with_reducible first | exact HB.out | apply zab | apply zaa | apply zac) | exact HB.out)⟩
     ·rw [if_neg c14] at H
      have c14b0 : decide (a1 < 0) = false := decide_eq_false c14
      clear c14
      by_cases c15 : a1 > (l0.length : Int)
      ·rw [if_pos c15] at H
       have c15b0 : decide ((l0.length : Int) < a1) = true := decide_eq_true c15
       clear c15
       obtain rfl := Option.some.inj H
       go_wp2
       go_ret
       exact ⟨by first | rfl | (simp [zak, zal] <;> rfl) | (simp [*, zak, zal] <;> rfl), by repeat (first | (with_reducible first | exact HB.out | apply zab | apply zaa | apply zac) | exact HB.out)⟩
      ·rw [if_neg c15] at H
       have c15b0 : decide ((l0.length : Int) < a1) = false := decide_eq_false c15
       clear c15
       obtain rfl := Option.some.inj H
       go_wp2
       go_ret
       exact ⟨by first | rfl | (simp [zak, zal] <;> rfl) | (simp [*, zak, zal] <;> rfl), by repeat (first | (with_reducible first | exact HB.out | apply zab | apply zaa | apply zac) | exact HB.out)⟩
def zb2.f (l0 : List (S43)) : Option (Bool) := some (decide ((l0.length : Int) > 70))
set_option maxHeartbeats 8000000 in
set_option maxRecDepth 100000 in
theorem zb2.calls (A0 : Option Addr) (c0 : Nat) (l0 : List (S43)) (r : Bool) (w : World) (hr0 : Kd.C k43 w A0 l0.length l0) (hc0 : l0.length ≤ c0) (h : zb2.f l0 = some r) :
    Calls Tryz.prog 17 #[.slice A0 l0.length c0] w fun e w' => e = .returned (.bool r) ∧ Drawn0 w w' := by
  have HR0 := zad.mk hr0
  have HC0 := zad.mk hc0
  clear hr0 hc0
  have H : (some (decide ((l0.length : Int) > 70))) = some r := h
  clear h
  obtain rfl := Option.some.inj H
  go_enter Tryz.func17, Tryz.ntmps17
  go_wp2
  go_ret
  exact ⟨by first | rfl | (simp; done) | (simp [*]; done), by repeat (first | exact Drawn0.refl _ | apply Drawn0.step)⟩
def zbi.f (a0 : Int) : Option (Int) := if a0 ≤ 4 then (some 0) else (if a0 ≤ 6 then (some 1) else (some 2))
set_option maxHeartbeats 8000000 in
set_option maxRecDepth 100000 in
theorem zbi.calls (a0 : Int) (r : Int) (w : World) (h : zbi.f a0 = some r) :
    Calls Tryz.prog 54 #[.int .u8 a0] w fun e w' => e = .returned (.int .i64 r) ∧ Drawn0 w w' := by
  have H : (if a0 ≤ 4 then (some 0) else (if a0 ≤ 6 then (some 1) else (some 2))) = some r := h
  clear h
  by_cases c2 : a0 ≤ 4
  · rw [if_pos c2] at H
    have c2b0 : decide (a0 ≤ 4) = true := decide_eq_true c2
    clear c2
    obtain rfl := Option.some.inj H
    go_enter Tryz.func54, Tryz.ntmps54
    go_wp2
    go_ret
    exact ⟨by first | rfl | (simp; done) | (simp [*]; done), by repeat (first | exact Drawn0.refl _ | apply Drawn0.step)⟩
  · rw [if_neg c2] at H
    have c2b0 : decide (a0 ≤ 4) = false := decide_eq_false c2
    clear c2
    by_cases c3 : a0 ≤ 6
    · rw [if_pos c3] at H
      have c3b0 : decide (a0 ≤ 6) = true := decide_eq_true c3
      clear c3
      obtain rfl := Option.some.inj H
      go_enter Tryz.func54, Tryz.ntmps54
      go_wp2
      go_ret
      exact ⟨by first | rfl | (simp; done) | (simp [*]; done), by repeat (first | exact Drawn0.refl _ | apply Drawn0.step)⟩
    · rw [if_neg c3] at H
      have c3b0 : decide (a0 ≤ 6) = false := decide_eq_false c3
      clear c3
      obtain rfl := Option.some.inj H
      go_enter Tryz.func54, Tryz.ntmps54
      go_wp2
      go_ret
      exact ⟨by first | rfl | (simp; done) | (simp [*]; done), by repeat (first | exact Drawn0.refl _ | apply Drawn0.step)⟩
def zbt.f (a0_0 : Int) (a0_1 : Int) (a0_2 : Int) (a0_3 : Int) (a0_4 : Int) (a1 : Int) (a2 : Int) : Option (Bool) := if a0_0 ≥ 1 then (if a0_0 ≤ 19 then (if a0_1 ≥ 0 then (if a0_1 = 0 then (if a0_4 ≥ 0 then (if a0_4 ≤ 400 then (if a0_2 = a1 then (some (a0_3 == a2)) else (some false)) else (some false)) else (some false)) else (if a0_0 = 1 then (if a0_4 ≥ 0 then (if a0_4 ≤ 400 then (if a0_2 = a1 then (some (a0_3 == a2)) else (some false)) else (some false)) else (some false)) else (some false))) else (some false)) else (some false)) else (some false)
set_option maxHeartbeats 8000000 in
set_option maxRecDepth 100000 in
theorem zbt.calls (a0_0 : Int) (a0_1 : Int) (a0_2 : Int) (a0_3 : Int) (a0_4 : Int) (a1 : Int) (a2 : Int) (r : Bool) (w : World) (h : zbt.f a0_0 a0_1 a0_2 a0_3 a0_4 a1 a2 = some r) :
    Calls Tryz.prog 55 #[.agg #[.int .u8 a0_0, .int .i64 a0_1, .int .i64 a0_2, .int .i64 a0_3, .int .i64 a0_4], .int .i64 a1, .int .i64 a2] w fun e w' => e = .returned (.bool r) ∧ Below w.heap.size w w' := by
  have hu43 := Tryz.underlying43
  have HB := zad.mk (Below.refl w.heap.size w)
  have H : (if a0_0 ≥ 1 then (if a0_0 ≤ 19 then (if a0_1 ≥ 0 then (if a0_1 = 0 then (if a0_4 ≥ 0 then (if a0_4 ≤ 400 then (if a0_2 = a1 then (some (a0_3 == a2)) else (some false)) else (some false)) else (some false)) else (if a0_0 = 1 then (if a0_4 ≥ 0 then (if a0_4 ≤ 400 then (if a0_2 = a1 then (some (a0_3 == a2)) else (some false)) else (some false)) else (some false)) else (some false))) else (some false)) else (some false)) else (some false)) = some r := h
  clear h
  by_cases c4 : a0_0 ≥ 1
  · rw [if_pos c4] at H
    have c4b0 : decide (1 ≤ a0_0) = true := decide_eq_true c4
    clear c4
    by_cases c5 : a0_0 ≤ 19
    · rw [if_pos c5] at H
      have c5b0 : decide (a0_0 ≤ 19) = true := decide_eq_true c5
      clear c5
      by_cases c6 : a0_1 ≥ 0
      · rw [if_pos c6] at H
        have c6b0 : decide (0 ≤ a0_1) = true := decide_eq_true c6
        clear c6
        by_cases c7 : a0_1 = 0
        · rw [if_pos c7] at H
          have c7b0 : (a0_1 == 0) = true := beq_iff_eq.mpr c7
          have c7b1 : (a0_1 != 0) = false := bne_eq_false_iff_eq.mpr c7
          clear c7
          by_cases c8 : a0_4 ≥ 0
          · rw [if_pos c8] at H
            have c8b0 : decide (0 ≤ a0_4) = true := decide_eq_true c8
            clear c8
            by_cases c9 : a0_4 ≤ 400
            · rw [if_pos c9] at H
              have c9b0 : decide (a0_4 ≤ 400) = true := decide_eq_true c9
              clear c9
              by_cases c10 : a0_2 = a1
              · rw [if_pos c10] at H
                have c10b0 : (a0_2 == a1) = true := beq_iff_eq.mpr c10
                have c10b1 : (a0_2 != a1) = false := bne_eq_false_iff_eq.mpr c10
                clear c10
                obtain rfl := Option.some.inj H
                go_enter Tryz.func55, Tryz.ntmps55
                go_wp2_with (first | ((with_reducible refine zbw (N := 3) rfl ?_); refine zby ?hg (N := 3) ?hd (cs := #[.int .u8 a0_0, .int .i64 a0_1, .int .i64 a0_2, .int .i64 a0_3, .int .i64 a0_4]) (t := 43) ?hr ?_; (case hd => rfl); (case hg => rfl); (case hr => first | (go_simp; done) | (go_simp; rfl)); intro gb361 hg w11 hbox hb; have n0_ := zad.mk (zah (by repeat (first | (with_reducible first | exact HB.out | apply zab | apply zaa | apply zac) | exact HB.out)) hb); have n1_ := zad.mk (hbox); have n2_ := zad.mk ((by rw [hg]; exact (zao (by repeat (first | (with_reducible first | exact HB.out | apply zab | apply zaa | apply zac) | exact HB.out))) : w.heap.size ≤ gb361)); have n3_ := zad.mk ((by rw [hg]; exact (zao (by repeat (first | (with_reducible first | exact HB.out | apply zab | apply zaa | apply zac) | exact HB.out))) : w.heap.size ≤ gb361)); clear HB; have HB := n0_; have BK361 := n1_; have GW361 := n2_; have GE361 := n3_; clear n0_ n1_ n2_ n3_; clear hb hbox hg; have hcz12_0 : w11.cell? ⟨gb361, 0, none⟩ = some (.int .u8 a0_0) := (zai BK361.out 0).trans rfl; have hcz12_1 : w11.cell? ⟨gb361, 1, none⟩ = some (.int .i64 a0_1) := (zai BK361.out 1).trans rfl; have hcz12_2 : w11.cell? ⟨gb361, 2, none⟩ = some (.int .i64 a0_2) := (zai BK361.out 2).trans rfl; have hcz12_3 : w11.cell? ⟨gb361, 3, none⟩ = some (.int .i64 a0_3) := (zai BK361.out 3).trans rfl; have hcz12_4 : w11.cell? ⟨gb361, 4, none⟩ = some (.int .i64 a0_4) := (zai BK361.out 4).trans rfl; have hfz12_0 := zaf BK361.out 0; have hfz12_1 := zaf BK361.out 1; have hfz12_2 := zaf BK361.out 2; have hfz12_3 := zaf BK361.out 3; have hfz12_4 := zaf BK361.out 4))
                go_ret
                exact ⟨by first | rfl | (simp [zak, zal] <;> rfl) | (simp [*, zak, zal] <;> rfl), by repeat (first | (with_reducible first | exact HB.out | apply zab | apply zaa | apply zac | refine zaj ?_ GE361.out) | exact HB.out)⟩
              · rw [if_neg c10] at H
                have c10b0 : (a0_2 == a1) = false := beq_eq_false_iff_ne.mpr c10
                have c10b1 : (a0_2 != a1) = true := bne_iff_ne.mpr c10
                obtain rfl := Option.some.inj H
                go_enter Tryz.func55, Tryz.ntmps55
                go_wp2_with (first | ((with_reducible refine zbw (N := 3) rfl ?_); refine zby ?hg (N := 3) ?hd (cs := #[.int .u8 a0_0, .int .i64 a0_1, .int .i64 a0_2, .int .i64 a0_3, .int .i64 a0_4]) (t := 43) ?hr ?_; (case hd => rfl); (case hg => rfl); (case hr => first | (go_simp; done) | (go_simp; rfl)); intro gb361 hg w13 hbox hb; have n0_ := zad.mk (zah (by repeat (first | (with_reducible first | exact HB.out | apply zab | apply zaa | apply zac) | exact HB.out)) hb); have n1_ := zad.mk (hbox); have n2_ := zad.mk ((by rw [hg]; exact (zao (by repeat (first | (with_reducible first | exact HB.out | apply zab | apply zaa | apply zac) | exact HB.out))) : w.heap.size ≤ gb361)); have n3_ := zad.mk ((by rw [hg]; exact (zao (by repeat (first | (with_reducible first | exact HB.out | apply zab | apply zaa | apply zac) | exact HB.out))) : w.heap.size ≤ gb361)); clear HB; have HB := n0_; have BK361 := n1_; have GW361 := n2_; have GE361 := n3_; clear n0_ n1_ n2_ n3_; clear hb hbox hg; have hcz14_0 : w13.cell? ⟨gb361, 0, none⟩ = some (.int .u8 a0_0) := (zai BK361.out 0).trans rfl; have hcz14_1 : w13.cell? ⟨gb361, 1, none⟩ = some (.int .i64 a0_1) := (zai BK361.out 1).trans rfl; have hcz14_2 : w13.cell? ⟨gb361, 2, none⟩ = some (.int .i64 a0_2) := (zai BK361.out 2).trans rfl; have hcz14_3 : w13.cell? ⟨gb361, 3, none⟩ = some (.int .i64 a0_3) := (zai BK361.out 3).trans rfl; have hcz14_4 : w13.cell? ⟨gb361, 4, none⟩ = some (.int .i64 a0_4) := (zai BK361.out 4).trans rfl; have hfz14_0 := zaf BK361.out 0; have hfz14_1 := zaf BK361.out 1; have hfz14_2 := zaf BK361.out 2; have hfz14_3 := zaf BK361.out 3; have hfz14_4 := zaf BK361.out 4))
                go_ret
                exact ⟨by first | rfl | (simp [zak, zal] <;> rfl) | (simp [*, zak, zal] <;> rfl), by repeat (first | (with_reducible first | exact HB.out | apply zab | apply zaa | apply zac | refine zaj ?_ GE361.out) | exact HB.out)⟩
            · rw [if_neg c9] at H
              have c9b0 : decide (a0_4 ≤ 400) = false := decide_eq_false c9
              clear c9
              obtain rfl := Option.some.inj H
              go_enter Tryz.func55, Tryz.ntmps55
              go_wp2_with (first | ((with_reducible refine zbw (N := 3) rfl ?_); refine zby ?hg (N := 3) ?hd (cs := #[.int .u8 a0_0, .int .i64 a0_1, .int .i64 a0_2, .int .i64 a0_3, .int .i64 a0_4]) (t := 43) ?hr ?_; (case hd => rfl); (case hg => rfl); (case hr => first | (go_simp; done) | (go_simp; rfl)); intro gb361 hg w15 hbox hb; have n0_ := zad.mk (zah (by repeat (first | (with_reducible first | exact HB.out | apply zab | apply zaa | apply zac) | exact HB.out)) hb); have n1_ := zad.mk (hbox); have n2_ := zad.mk ((by rw [hg]; exact (zao (by repeat (first | (with_reducible first | exact HB.out | apply zab | apply zaa | apply zac) | exact HB.out))) : w.heap.size ≤ gb361)); have n3_ := zad.mk ((by rw [hg]; exact (zao (by repeat (first | (with_reducible first | exact HB.out | apply zab | apply zaa | apply zac) | exact HB.out))) : w.heap.size ≤ gb361)); clear HB; have HB := n0_; have BK361 := n1_; have GW361 := n2_; have GE361 := n3_; clear n0_ n1_ n2_ n3_; clear hb hbox hg; have hcz16_0 : w15.cell? ⟨gb361, 0, none⟩ = some (.int .u8 a0_0) := (zai BK361.out 0).trans rfl; have hcz16_1 : w15.cell? ⟨gb361, 1, none⟩ = some (.int .i64 a0_1) := (zai BK361.out 1).trans rfl; have hcz16_2 : w15.cell? ⟨gb361, 2, none⟩ = some (.int .i64 a0_2) := (zai BK361.out 2).trans rfl; have hcz16_3 : w15.cell? ⟨gb361, 3, none⟩ = some (.int .i64 a0_3) := (zai BK361.out 3).trans rfl; have hcz16_4 : w15.cell? ⟨gb361, 4, none⟩ = some (.int .i64 a0_4) := (zai BK361.out 4).trans rfl; have hfz16_0 := zaf BK361.out 0; have hfz16_1 := zaf BK361.out 1; have hfz16_2 := zaf BK361.out 2; have hfz16_3 := zaf BK361.out 3; have hfz16_4 := zaf BK361.out 4))
              go_ret
              exact ⟨by first | rfl | (simp [zak, zal] <;> rfl) | (simp [*, zak, zal] <;> rfl), by repeat (first | (with_reducible first | exact HB.out | apply zab | apply zaa | apply zac | refine zaj ?_ GE361.out) | exact HB.out)⟩
          · rw [if_neg c8] at H
            have c8b0 : decide (0 ≤ a0_4) = false := decide_eq_false c8
            clear c8
            obtain rfl := Option.some.inj H
            go_enter Tryz.func55, Tryz.ntmps55
            go_wp2_with (first | ((with_reducible refine zbw (N := 3) rfl ?_); refine zby ?hg (N := 3) ?hd (cs := #[.int .u8 a0_0, .int .i64 a0_1, .int .i64 a0_2, .int .i64 a0_3, .int .i64 a0_4]) (t := 43) ?hr ?_; (case hd => rfl); (case hg => rfl); (case hr => first | (go_simp; done) | (go_simp; rfl)); intro gb361 hg w17 hbox hb; have n0_ := zad.mk (zah (by repeat (first | (with_reducible first | exact HB.out | apply zab | apply zaa | apply zac) | exact HB.out)) hb); have n1_ := zad.mk (hbox); have n2_ := zad.mk ((by rw [hg]; exact (zao (by repeat (first | (with_reducible first | exact HB.out | apply zab | apply zaa | apply zac) | exact HB.out))) : w.heap.size ≤ gb361)); have n3_ := zad.mk ((by rw [hg]; exact (zao (by repeat (first | (with_reducible first | exact HB.out | apply zab | apply zaa | apply zac) | exact HB.out))) : w.heap.size ≤ gb361)); clear HB; have HB := n0_; have BK361 := n1_; have GW361 := n2_; have GE361 := n3_; clear n0_ n1_ n2_ n3_; clear hb hbox hg; have hcz18_0 : w17.cell? ⟨gb361, 0, none⟩ = some (.int .u8 a0_0) := (zai BK361.out 0).trans rfl; have hcz18_1 : w17.cell? ⟨gb361, 1, none⟩ = some (.int .i64 a0_1) := (zai BK361.out 1).trans rfl; have hcz18_2 : w17.cell? ⟨gb361, 2, none⟩ = some (.int .i64 a0_2) := (zai BK361.out 2).trans rfl; have hcz18_3 : w17.cell? ⟨gb361, 3, none⟩ = some (.int .i64 a0_3) := (zai BK361.out 3).trans rfl; have hcz18_4 : w17.cell? ⟨gb361, 4, none⟩ = some (.int .i64 a0_4) := (zai BK361.out 4).trans rfl; have hfz18_0 := zaf BK361.out 0; have hfz18_1 := zaf BK361.out 1; have hfz18_2 := zaf BK361.out 2; have hfz18_3 := zaf BK361.out 3; have hfz18_4 := zaf BK361.out 4))
            go_ret
            exact ⟨by first | rfl | (simp [zak, zal] <;> rfl) | (simp [*, zak, zal] <;> rfl), by repeat (first | (with_reducible first | exact HB.out | apply zab | apply zaa | apply zac | refine zaj ?_ GE361.out) | exact HB.out)⟩
        · rw [if_neg c7] at H
          have c7b0 : (a0_1 == 0) = false := beq_eq_false_iff_ne.mpr c7
          have c7b1 : (a0_1 != 0) = true := bne_iff_ne.mpr c7
          by_cases c19 : a0_0 = 1
          · rw [if_pos c19] at H
            have c19b0 : (a0_0 == 1) = true := beq_iff_eq.mpr c19
            have c19b1 : (a0_0 != 1) = false := bne_eq_false_iff_eq.mpr c19
            clear c19
            by_cases c20 : a0_4 ≥ 0
            · rw [if_pos c20] at H
              have c20b0 : decide (0 ≤ a0_4) = true := decide_eq_true c20
              clear c20
              by_cases c21 : a0_4 ≤ 400
              · rw [if_pos c21] at H
                have c21b0 : decide (a0_4 ≤ 400) = true := decide_eq_true c21
                clear c21
                by_cases c22 : a0_2 = a1
                · rw [if_pos c22] at H
                  have c22b0 : (a0_2 == a1) = true := beq_iff_eq.mpr c22
                  have c22b1 : (a0_2 != a1) = false := bne_eq_false_iff_eq.mpr c22
                  clear c22
                  obtain rfl := Option.some.inj H
                  go_enter Tryz.func55, Tryz.ntmps55
                  go_wp2_with (first | ((with_reducible refine zbw (N := 3) rfl ?_); refine zby ?hg (N := 3) ?hd (cs := #[.int .u8 a0_0, .int .i64 a0_1, .int .i64 a0_2, .int .i64 a0_3, .int .i64 a0_4]) (t := 43) ?hr ?_; (case hd => rfl); (case hg => rfl); (case hr => first | (go_simp; done) | (go_simp; rfl)); intro gb361 hg w23 hbox hb; have n0_ := zad.mk (zah (by repeat (first | (with_reducible first | exact HB.out | apply zab | apply zaa | apply zac) | exact HB.out)) hb); have n1_ := zad.mk (hbox); have n2_ := zad.mk ((by rw [hg]; exact (zao (by repeat (first | (with_reducible first | exact HB.out | apply zab | apply zaa | apply zac) | exact HB.out))) : w.heap.size ≤ gb361)); have n3_ := zad.mk ((by rw [hg]; exact (zao (by repeat (first | (with_reducible first | exact HB.out | apply zab | apply zaa | apply zac) | exact HB.out))) : w.heap.size ≤ gb361)); clear HB; have HB := n0_; have BK361 := n1_; have GW361 := n2_; have GE361 := n3_; clear n0_ n1_ n2_ n3_; clear hb hbox hg; have hcz24_0 : w23.cell? ⟨gb361, 0, none⟩ = some (.int .u8 a0_0) := (zai BK361.out 0).trans rfl; have hcz24_1 : w23.cell? ⟨gb361, 1, none⟩ = some (.int .i64 a0_1) := (zai BK361.out 1).trans rfl; have hcz24_2 : w23.cell? ⟨gb361, 2, none⟩ = some (.int .i64 a0_2) := (zai BK361.out 2).trans rfl; have hcz24_3 : w23.cell? ⟨gb361, 3, none⟩ = some (.int .i64 a0_3) := (zai BK361.out 3).trans rfl; have hcz24_4 : w23.cell? ⟨gb361, 4, none⟩ = some (.int .i64 a0_4) := (zai BK361.out 4).trans rfl; have hfz24_0 := zaf BK361.out 0; have hfz24_1 := zaf BK361.out 1; have hfz24_2 := zaf BK361.out 2; have hfz24_3 := zaf BK361.out 3; have hfz24_4 := zaf BK361.out 4))
                  go_ret
                  exact ⟨by first | rfl | (simp [zak, zal] <;> rfl) | (simp [*, zak, zal] <;> rfl), by repeat (first | (with_reducible first | exact HB.out | apply zab | apply zaa | apply zac | refine zaj ?_ GE361.out) | exact HB.out)⟩
                · rw [if_neg c22] at H
                  have c22b0 : (a0_2 == a1) = false := beq_eq_false_iff_ne.mpr c22
                  have c22b1 : (a0_2 != a1) = true := bne_iff_ne.mpr c22
                  obtain rfl := Option.some.inj H
                  go_enter Tryz.func55, Tryz.ntmps55
                  go_wp2_with (first | ((with_reducible refine zbw (N := 3) rfl ?_); refine zby ?hg (N := 3) ?hd (cs := #[.int .u8 a0_0, .int .i64 a0_1, .int .i64 a0_2, .int .i64 a0_3, .int .i64 a0_4]) (t := 43) ?hr ?_; (case hd => rfl); (case hg => rfl); (case hr => first | (go_simp; done) | (go_simp; rfl)); intro gb361 hg w25 hbox hb; have n0_ := zad.mk (zah (by repeat (first | (with_reducible first | exact HB.out | apply zab | apply zaa | apply zac) | exact HB.out)) hb); have n1_ := zad.mk (hbox); have n2_ := zad.mk ((by rw [hg]; exact (zao (by repeat (first | (with_reducible first | exact HB.out | apply zab | apply zaa | apply zac) | exact HB.out))) : w.heap.size ≤ gb361)); have n3_ := zad.mk ((by rw [hg]; exact (zao (by repeat (first | (with_reducible first | exact HB.out | apply zab | apply zaa | apply zac) | exact HB.out))) : w.heap.size ≤ gb361)); clear HB; have HB := n0_; have BK361 := n1_; have GW361 := n2_; have GE361 := n3_; clear n0_ n1_ n2_ n3_; clear hb hbox hg; have hcz26_0 : w25.cell? ⟨gb361, 0, none⟩ = some (.int .u8 a0_0) := (zai BK361.out 0).trans rfl; have hcz26_1 : w25.cell? ⟨gb361, 1, none⟩ = some (.int .i64 a0_1) := (zai BK361.out 1).trans rfl; have hcz26_2 : w25.cell? ⟨gb361, 2, none⟩ = some (.int .i64 a0_2) := (zai BK361.out 2).trans rfl; have hcz26_3 : w25.cell? ⟨gb361, 3, none⟩ = some (.int .i64 a0_3) := (zai BK361.out 3).trans rfl; have hcz26_4 : w25.cell? ⟨gb361, 4, none⟩ = some (.int .i64 a0_4) := (zai BK361.out 4).trans rfl; have hfz26_0 := zaf BK361.out 0; have hfz26_1 := zaf BK361.out 1; have hfz26_2 := zaf BK361.out 2; have hfz26_3 := zaf BK361.out 3; have hfz26_4 := zaf BK361.out 4))
                  go_ret
                  exact ⟨by first | rfl | (simp [zak, zal] <;> rfl) | (simp [*, zak, zal] <;> rfl), by repeat (first | (with_reducible first | exact HB.out | apply zab | apply zaa | apply zac | refine zaj ?_ GE361.out) | exact HB.out)⟩
              · rw [if_neg c21] at H
                have c21b0 : decide (a0_4 ≤ 400) = false := decide_eq_false c21
                clear c21
                obtain rfl := Option.some.inj H
                go_enter Tryz.func55, Tryz.ntmps55
                go_wp2_with (first | ((with_reducible refine zbw (N := 3) rfl ?_); refine zby ?hg (N := 3) ?hd (cs := #[.int .u8 a0_0, .int .i64 a0_1, .int .i64 a0_2, .int .i64 a0_3, .int .i64 a0_4]) (t := 43) ?hr ?_; (case hd => rfl); (case hg => rfl); (case hr => first | (go_simp; done) | (go_simp; rfl)); intro gb361 hg w27 hbox hb; have n0_ := zad.mk (zah (by repeat (first | (with_reducible first | exact HB.out | apply zab | apply zaa | apply zac) | exact HB.out)) hb); have n1_ := zad.mk (hbox); have n2_ := zad.mk ((by rw [hg]; exact (zao (by repeat (first | (with_reducible first | exact HB.out | apply zab | apply zaa | apply zac) | exact HB.out))) : w.heap.size ≤ gb361)); have n3_ := zad.mk ((by rw [hg]; exact (zao (by repeat (first | (with_reducible first | exact HB.out | apply zab | apply zaa | apply zac) | exact HB.out))) : w.heap.size ≤ gb361)); clear HB; have HB := n0_; have BK361 := n1_; have GW361 := n2_; have GE361 := n3_; clear n0_ n1_ n2_ n3_; clear hb hbox hg; have hcz28_0 : w27.cell? ⟨gb361, 0, none⟩ = some (.int .u8 a0_0) := (zai BK361.out 0).trans rfl; have hcz28_1 : w27.cell? ⟨gb361, 1, none⟩ = some (.int .i64 a0_1) := (zai BK361.out 1).trans rfl; have hcz28_2 : w27.cell? ⟨gb361, 2, none⟩ = some (.int .i64 a0_2) := (zai BK361.out 2).trans rfl; have hcz28_3 : w27.cell? ⟨gb361, 3, none⟩ = some (.int .i64 a0_3) := (zai BK361.out 3).trans rfl; have hcz28_4 : w27.cell? ⟨gb361, 4, none⟩ = some (.int .i64 a0_4) := (zai BK361.out 4).trans rfl; have hfz28_0 := zaf BK361.out 0; have hfz28_1 := zaf BK361.out 1; have hfz28_2 := zaf BK361.out 2; have hfz28_3 := zaf BK361.out 3; have hfz28_4 := zaf BK361.out 4))
                go_ret
                exact ⟨by first | rfl | (simp [zak, zal] <;> rfl) | (simp [*, zak, zal] <;> rfl), by repeat (first | (with_reducible first | exact HB.out | apply zab | apply zaa | apply zac | refine zaj ?_ GE361.out) | exact HB.out)⟩
            · rw [if_neg c20] at H
              have c20b0 : decide (0 ≤ a0_4) = false := decide_eq_false c20
              clear c20
              obtain rfl := Option.some.inj H
              go_enter Tryz.func55, Tryz.ntmps55
              go_wp2_with (first | ((with_reducible refine zbw (N := 3) rfl ?_); refine zby ?hg (N := 3) ?hd (cs := #[.int .u8 a0_0, .int .i64 a0_1, .int .i64 a0_2, .int .i64 a0_3, .int .i64 a0_4]) (t := 43) ?hr ?_; (case hd => rfl); (case hg => rfl); (case hr => first | (go_simp; done) | (go_simp; rfl)); intro gb361 hg w29 hbox hb; have n0_ := zad.mk (zah (by repeat (first | (with_reducible first | exact HB.out | apply zab | apply zaa | apply zac) | exact HB.out)) hb); have n1_ := zad.mk (hbox); have n2_ := zad.mk ((by rw [hg]; exact (zao (by repeat (first | (with_reducible first | exact HB.out | apply zab | apply zaa | apply zac) | exact HB.out))) : w.heap.size ≤ gb361)); have n3_ := zad.mk ((by rw [hg]; exact (zao (by repeat (first | (with_reducible first | exact HB.out | apply zab | apply zaa | apply zac) | exact HB.out))) : w.heap.size ≤ gb361)); clear HB; have HB := n0_; have BK361 := n1_; have GW361 := n2_; have GE361 := n3_; clear n0_ n1_ n2_ n3_; clear hb hbox hg; have hcz30_0 : w29.cell? ⟨gb361, 0, none⟩ = some (.int .u8 a0_0) := (zai BK361.out 0).trans rfl; have hcz30_1 : w29.cell? ⟨gb361, 1, none⟩ = some (.int .i64 a0_1) := (zai BK361.out 1).trans rfl; have hcz30_2 : w29.cell? ⟨gb361, 2, none⟩ = some (.int .i64 a0_2) := (zai BK361.out 2).trans rfl; have hcz30_3 : w29.cell? ⟨gb361, 3, none⟩ = some (.int .i64 a0_3) := (zai BK361.out 3).trans rfl; have hcz30_4 : w29.cell? ⟨gb361, 4, none⟩ = some (.int .i64 a0_4) := (zai BK361.out 4).trans rfl; have hfz30_0 := zaf BK361.out 0; have hfz30_1 := zaf BK361.out 1; have hfz30_2 := zaf BK361.out 2; have hfz30_3 := zaf BK361.out 3; have hfz30_4 := zaf BK361.out 4))
              go_ret
              exact ⟨by first | rfl | (simp [zak, zal] <;> rfl) | (simp [*, zak, zal] <;> rfl), by repeat (first | (with_reducible first | exact HB.out | apply zab | apply zaa | apply zac | refine zaj ?_ GE361.out) | exact HB.out)⟩
          · rw [if_neg c19] at H
            have c19b0 : (a0_0 == 1) = false := beq_eq_false_iff_ne.mpr c19
            have c19b1 : (a0_0 != 1) = true := bne_iff_ne.mpr c19
            obtain rfl := Option.some.inj H
            go_enter Tryz.func55, Tryz.ntmps55
            go_wp2_with (first | ((with_reducible refine zbw (N := 3) rfl ?_); refine zby ?hg (N := 3) ?hd (cs := #[.int .u8 a0_0, .int .i64 a0_1, .int .i64 a0_2, .int .i64 a0_3, .int .i64 a0_4]) (t := 43) ?hr ?_; (case hd => rfl); (case hg => rfl); (case hr => first | (go_simp; done) | (go_simp; rfl)); intro gb361 hg w31 hbox hb; have n0_ := zad.mk (zah (by repeat (first | (with_reducible first | exact HB.out | apply zab | apply zaa | apply zac) | exact HB.out)) hb); have n1_ := zad.mk (hbox); have n2_ := zad.mk ((by rw [hg]; exact (zao (by repeat (first | (with_reducible first | exact HB.out | apply zab | apply zaa | apply zac) | exact HB.out))) : w.heap.size ≤ gb361)); have n3_ := zad.mk ((by rw [hg]; exact (zao (by repeat (first | (with_reducible first | exact HB.out | apply zab | apply zaa | apply zac) | exact HB.out))) : w.heap.size ≤ gb361)); clear HB; have HB := n0_; have BK361 := n1_; have GW361 := n2_; have GE361 := n3_; clear n0_ n1_ n2_ n3_; clear hb hbox hg; have hcz32_0 : w31.cell? ⟨gb361, 0, none⟩ = some (.int .u8 a0_0) := (zai BK361.out 0).trans rfl; have hcz32_1 : w31.cell? ⟨gb361, 1, none⟩ = some (.int .i64 a0_1) := (zai BK361.out 1).trans rfl; have hcz32_2 : w31.cell? ⟨gb361, 2, none⟩ = some (.int .i64 a0_2) := (zai BK361.out 2).trans rfl; have hcz32_3 : w31.cell? ⟨gb361, 3, none⟩ = some (.int .i64 a0_3) := (zai BK361.out 3).trans rfl; have hcz32_4 : w31.cell? ⟨gb361, 4, none⟩ = some (.int .i64 a0_4) := (zai BK361.out 4).trans rfl; have hfz32_0 := zaf BK361.out 0; have hfz32_1 := zaf BK361.out 1; have hfz32_2 := zaf BK361.out 2; have hfz32_3 := zaf BK361.out 3; have hfz32_4 := zaf BK361.out 4))
            go_ret
            exact ⟨by first | rfl | (simp [zak, zal] <;> rfl) | (simp [*, zak, zal] <;> rfl), by repeat (first | (with_reducible first | exact HB.out | apply zab | apply zaa | apply zac | refine zaj ?_ GE361.out) | exact HB.out)⟩
      · rw [if_neg c6] at H
        have c6b0 : decide (0 ≤ a0_1) = false := decide_eq_false c6
        clear c6
        obtain rfl := Option.some.inj H
        go_enter Tryz.func55, Tryz.ntmps55
        go_wp2_with (first | ((with_reducible refine zbw (N := 3) rfl ?_); refine zby ?hg (N := 3) ?hd (cs := #[.int .u8 a0_0, .int .i64 a0_1, .int .i64 a0_2, .int .i64 a0_3, .int .i64 a0_4]) (t := 43) ?hr ?_; (case hd => rfl); (case hg => rfl); (case hr => first | (go_simp; done) | (go_simp; rfl)); intro gb361 hg w33 hbox hb; have n0_ := zad.mk (zah (by repeat (first | (with_reducible first | exact HB.out | apply zab | apply zaa | apply zac) | exact HB.out)) hb); have n1_ := zad.mk (hbox); have n2_ := zad.mk ((by rw [hg]; exact (zao (by repeat (first | (with_reducible first | exact HB.out | apply zab | apply zaa | apply zac) | exact HB.out))) : w.heap.size ≤ gb361)); have n3_ := zad.mk ((by rw [hg]; exact (zao (by repeat (first | (with_reducible first | exact HB.out | apply zab | apply zaa | apply zac) | exact HB.out))) : w.heap.size ≤ gb361)); clear HB; have HB := n0_; have BK361 := n1_; have GW361 := n2_; have GE361 := n3_; clear n0_ n1_ n2_ n3_; clear hb hbox hg; have hcz34_0 : w33.cell? ⟨gb361, 0, none⟩ = some (.int .u8 a0_0) := (zai BK361.out 0).trans rfl; have hcz34_1 : w33.cell? ⟨gb361, 1, none⟩ = some (.int .i64 a0_1) := (zai BK361.out 1).trans rfl; have hcz34_2 : w33.cell? ⟨gb361, 2, none⟩ = some (.int .i64 a0_2) := (zai BK361.out 2).trans rfl; have hcz34_3 : w33.cell? ⟨gb361, 3, none⟩ = some (.int .i64 a0_3) := (zai BK361.out 3).trans rfl; have hcz34_4 : w33.cell? ⟨gb361, 4, none⟩ = some (.int .i64 a0_4) := (zai BK361.out 4).trans rfl; have hfz34_0 := zaf BK361.out 0; have hfz34_1 := zaf BK361.out 1; have hfz34_2 := zaf BK361.out 2; have hfz34_3 := zaf BK361.out 3; have hfz34_4 := zaf BK361.out 4))
        go_ret
        exact ⟨by first | rfl | (simp [zak, zal] <;> rfl) | (simp [*, zak, zal] <;> rfl), by repeat (first | (with_reducible first | exact HB.out | apply zab | apply zaa | apply zac | refine zaj ?_ GE361.out) | exact HB.out)⟩
    · rw [if_neg c5] at H
      have c5b0 : decide (a0_0 ≤ 19) = false := decide_eq_false c5
      clear c5
      obtain rfl := Option.some.inj H
      go_enter Tryz.func55, Tryz.ntmps55
      go_wp2_with (first | ((with_reducible refine zbw (N := 3) rfl ?_); refine zby ?hg (N := 3) ?hd (cs := #[.int .u8 a0_0, .int .i64 a0_1, .int .i64 a0_2, .int .i64 a0_3, .int .i64 a0_4]) (t := 43) ?hr ?_; (case hd => rfl); (case hg => rfl); (case hr => first | (go_simp; done) | (go_simp; rfl)); intro gb361 hg w35 hbox hb; have n0_ := zad.mk (zah (by repeat (first | (with_reducible first | exact HB.out | apply zab | apply zaa | apply zac) | exact HB.out)) hb); have n1_ := zad.mk (hbox); have n2_ := zad.mk ((by rw [hg]; exact (zao (by repeat (first | (with_reducible first | exact HB.out | apply zab | apply zaa | apply zac) | exact HB.out))) : w.heap.size ≤ gb361)); have n3_ := zad.mk ((by rw [hg]; exact (zao (by repeat (first | (with_reducible first | exact HB.out | apply zab | apply zaa | apply zac) | exact HB.out))) : w.heap.size ≤ gb361)); clear HB; have HB := n0_; have BK361 := n1_; have GW361 := n2_; have GE361 := n3_; clear n0_ n1_ n2_ n3_; clear hb hbox hg; have hcz36_0 : w35.cell? ⟨gb361, 0, none⟩ = some (.int .u8 a0_0) := (zai BK361.out 0).trans rfl; have hcz36_1 : w35.cell? ⟨gb361, 1, none⟩ = some (.int .i64 a0_1) := (zai BK361.out 1).trans rfl; have hcz36_2 : w35.cell? ⟨gb361, 2, none⟩ = some (.int .i64 a0_2) := (zai BK361.out 2).trans rfl; have hcz36_3 : w35.cell? ⟨gb361, 3, none⟩ = some (.int .i64 a0_3) := (zai BK361.out 3).trans rfl; have hcz36_4 : w35.cell? ⟨gb361, 4, none⟩ = some (.int .i64 a0_4) := (zai BK361.out 4).trans rfl; have hfz36_0 := zaf BK361.out 0; have hfz36_1 := zaf BK361.out 1; have hfz36_2 := zaf BK361.out 2; have hfz36_3 := zaf BK361.out 3; have hfz36_4 := zaf BK361.out 4))
      go_ret
      exact ⟨by first | rfl | (simp [zak, zal] <;> rfl) | (simp [*, zak, zal] <;> rfl), by repeat (first | (with_reducible first | exact HB.out | apply zab | apply zaa | apply zac | refine zaj ?_ GE361.out) | exact HB.out)⟩
  · rw [if_neg c4] at H
    have c4b0 : decide (1 ≤ a0_0) = false := decide_eq_false c4
    clear c4
    obtain rfl := Option.some.inj H
    go_enter Tryz.func55, Tryz.ntmps55
    go_wp2_with (first | ((with_reducible refine zbw (N := 3) rfl ?_); refine zby ?hg (N := 3) ?hd (cs := #[.int .u8 a0_0, .int .i64 a0_1, .int .i64 a0_2, .int .i64 a0_3, .int .i64 a0_4]) (t := 43) ?hr ?_; (case hd => rfl); (case hg => rfl); (case hr => first | (go_simp; done) | (go_simp; rfl)); intro gb361 hg w37 hbox hb; have n0_ := zad.mk (zah (by repeat (first | (with_reducible first | exact HB.out | apply zab | apply zaa | apply zac) | exact HB.out)) hb); have n1_ := zad.mk (hbox); have n2_ := zad.mk ((by rw [hg]; exact (zao (by repeat (first | (with_reducible first | exact HB.out | apply zab | apply zaa | apply zac) | exact HB.out))) : w.heap.size ≤ gb361)); have n3_ := zad.mk ((by rw [hg]; exact (zao (by repeat (first | (with_reducible first | exact HB.out | apply zab | apply zaa | apply zac) | exact HB.out))) : w.heap.size ≤ gb361)); clear HB; have HB := n0_; have BK361 := n1_; have GW361 := n2_; have GE361 := n3_; clear n0_ n1_ n2_ n3_; clear hb hbox hg; have hcz38_0 : w37.cell? ⟨gb361, 0, none⟩ = some (.int .u8 a0_0) := (zai BK361.out 0).trans rfl; have hcz38_1 : w37.cell? ⟨gb361, 1, none⟩ = some (.int .i64 a0_1) := (zai BK361.out 1).trans rfl; have hcz38_2 : w37.cell? ⟨gb361, 2, none⟩ = some (.int .i64 a0_2) := (zai BK361.out 2).trans rfl; have hcz38_3 : w37.cell? ⟨gb361, 3, none⟩ = some (.int .i64 a0_3) := (zai BK361.out 3).trans rfl; have hcz38_4 : w37.cell? ⟨gb361, 4, none⟩ = some (.int .i64 a0_4) := (zai BK361.out 4).trans rfl; have hfz38_0 := zaf BK361.out 0; have hfz38_1 := zaf BK361.out 1; have hfz38_2 := zaf BK361.out 2; have hfz38_3 := zaf BK361.out 3; have hfz38_4 := zaf BK361.out 4))
    go_ret
    exact ⟨by first | rfl | (simp [zak, zal] <;> rfl) | (simp [*, zak, zal] <;> rfl), by repeat (first | (with_reducible first | exact HB.out | apply zab | apply zaa | apply zac | refine zaj ?_ GE361.out) | exact HB.out)⟩
end Go.Proofs.YtgmmngipnjmkfaaGreatDoor.Q
end
section
namespace Go.Proofs.YtgmmngipnjmkfaaGreatDoor.PureL
open Go.RowKit Go.Proofs.YtgmmngipnjmkfaaGreatDoor.Hand Go.Proofs.YtgmmngipnjmkfaaGreatDoor.Q Go.Proofs.YtgmmngipnjmkfaaGreatDoorW.PrintWords Go.Proofs.YtgmmngipnjmkfaaGreatDoorW.PrintLast Go.Proofs.YtgmmngipnjmkfaaGreatDoorW.PrintMore
set_option linter.unusedVariables false
theorem toList_inj {x s : ByteArray} : x.toList = s.toList ↔ x = s := by
  rw [ByteArray.toList_eq, ByteArray.toList_eq]
  constructor
  · intro h; cases x; cases s; simpa using h
  · rintro rfl; rfl
theorem word_l0 (s : ByteArray) (l : List ByteArray) (hl : l.length ≤ 1000) (d : Nat) : ∀ (k i : Nat), l.length - i = d → i ≤ l.length → d < k →
    ∃ b, zbd.l0 k s l (i : Int) = some b ∧ (b = true ↔ s ∈ l.drop i) := by
  induction d with
  | zero =>
    intro k i hd hi hk
    obtain ⟨k, rfl⟩ : ∃ m, k = m + 1 := ⟨k - 1, by omega⟩
    refine ⟨false, ?_, ?_⟩
    · simp only [zbd.l0]; rw [if_neg (by omega)]
    · rw [List.drop_of_length_le (by omega)]; simp
  | succ d ih =>
    intro k i hd hi hk
    obtain ⟨k, rfl⟩ : ∃ m, k = m + 1 := ⟨k - 1, by omega⟩
    have hlt : i < l.length := by omega
    obtain ⟨b, hb, hiff⟩ := ih k (i + 1) (by omega) (by omega) (by omega)
    have hw : wrap64 ((i : Int) + 1) = ((i + 1 : Nat) : Int) := by unfold wrap64; omega
    have hr : rdOf ByteArray.empty l (i : Int) = l[i] := by simp [rdOf, hlt]
    rw [List.drop_eq_getElem_cons hlt]
    by_cases e : l[i] = s
    · refine ⟨true, ?_, by simp [e]⟩
      simp only [zbd.l0]; rw [if_pos (by omega), if_pos (by omega), hr, if_pos (toList_inj.2 e)]
    · refine ⟨b, ?_, ?_⟩
      · simp only [zbd.l0]; rw [if_pos (by omega), if_pos (by omega), hr, if_neg (fun h => e (toList_inj.1 h)), hw]; exact hb
      · rw [hiff, List.mem_cons]
        exact ⟨.inr, fun h => h.resolve_left (fun h => e h.symm)⟩
def refWords : List ByteArray := (zcd.f).getD []
theorem refWords_mem (s : ByteArray) : s ∈ refWords ↔ s ∈ wordList := by
  have h1 : refWords.all (fun x => wordList.any fun y => x.data.toList == y.data.toList) = true := by kernel_rfl
  have h2 : wordList.all (fun x => refWords.any fun y => x.data.toList == y.data.toList) = true := by kernel_rfl
  have key : ∀ (l m : List ByteArray), l.all (fun x => m.any fun y => x.data.toList == y.data.toList) = true → ∀ s ∈ l, s ∈ m := by
    intro l m h s hs
    obtain ⟨y, hy, e⟩ := List.any_eq_true.1 (List.all_eq_true.1 h s hs)
    have : s = y := by cases s; cases y; simpa using e
    exact this ▸ hy
  exact ⟨key _ _ h1 s, key _ _ h2 s⟩
theorem word_ref (k : Nat) (hk : 40 ≤ k) (s : ByteArray) : zbd.f k s = some (isWord s) := by
  have h29 : refWords.length = 29 := by kernel_rfl
  obtain ⟨b, hb, hiff⟩ := word_l0 s refWords (by omega) 29 k 0 (by omega) (by omega) (by omega)
  have : zbd.f k s = zbd.l0 k s refWords 0 := rfl
  rw [this]
  refine hb.trans ?_
  rw [List.drop_zero, refWords_mem, ← isWord_iff] at hiff
  cases b <;> cases h : isWord s <;> simp_all
def findL (t : List UInt8) : List (List UInt8) → Int
  | [] => 0
  | x :: r => if x.length ≤ t.length ∧ t.take x.length = x then (x.length : Int) else findL t r
def symbolsL : List (List UInt8) := [[60, 61], [60, 60], [62, 61], [62, 62], [33, 61], [40], [41], [42], [43], [45], [60], [62], [61]]
theorem kind4 (a : UInt8) (h1 : ¬ a = 40) (h2 : ¬ a = 41) (h3 : ¬ a = 42) (h4 : ¬ a = 43) (h5 : ¬ a = 45) (h6 : ¬ a = 60) (h7 : ¬ a = 62) (h8 : ¬ a = 61) (h9 : ¬ a = 33) : kindOf a.toNat ≠ 4 := by
  have f : ∀ n : Nat, n < 256 → ¬ a = n.toUInt8 → ¬ (a.toNat : Int) = n := fun n hn h e => h ((u8_eq a n hn).1 e)
  have g1 := f 40 (by omega) h1; have g2 := f 41 (by omega) h2; have g3 := f 42 (by omega) h3; have g4 := f 43 (by omega) h4; have g5 := f 45 (by omega) h5
  have g6 := f 60 (by omega) h6; have g7 := f 62 (by omega) h7; have g8 := f 61 (by omega) h8; have g9 := f 33 (by omega) h9
  unfold kindOf
  by_cases c1 : (a.toNat : Int) = 32 ∨ (a.toNat : Int) = 10
  · rw [if_pos c1]; decide
  rw [if_neg c1]
  by_cases c2 : 48 ≤ (a.toNat : Int) ∧ (a.toNat : Int) ≤ 57
  · rw [if_pos c2]; decide
  rw [if_neg c2]
  by_cases c3 : 97 ≤ (a.toNat : Int) ∧ (a.toNat : Int) ≤ 122
  · rw [if_pos c3]; decide
  rw [if_neg c3, if_neg (by omega)]; decide
theorem sym_find (t : List UInt8) : symL t = findL t symbolsL := by
  match t with
  | [] => rfl
  | [a] =>
    by_cases h1 : a = 40; · subst h1; rfl
    by_cases h2 : a = 41; · subst h2; rfl
    by_cases h3 : a = 42; · subst h3; rfl
    by_cases h4 : a = 43; · subst h4; rfl
    by_cases h5 : a = 45; · subst h5; rfl
    by_cases h6 : a = 60; · subst h6; rfl
    by_cases h7 : a = 62; · subst h7; rfl
    by_cases h8 : a = 61; · subst h8; rfl
    by_cases h9 : a = 33; · subst h9; rfl
    simp only [symL]
    rw [if_pos (kind4 a h1 h2 h3 h4 h5 h6 h7 h8 h9)]
    simp [findL, symbolsL, h1, h2, h3, h4, h5, h6, h7, h8]
  | a :: b :: r =>
    by_cases h1 : a = 40; · subst h1; simp [symL, findL, symbolsL, kindOf, two]
    by_cases h2 : a = 41; · subst h2; simp [symL, findL, symbolsL, kindOf, two]
    by_cases h3 : a = 42; · subst h3; simp [symL, findL, symbolsL, kindOf, two]
    by_cases h4 : a = 43; · subst h4; simp [symL, findL, symbolsL, kindOf, two]
    by_cases h5 : a = 45; · subst h5; simp [symL, findL, symbolsL, kindOf, two]
    by_cases h8 : a = 61; · subst h8; simp [symL, findL, symbolsL, kindOf, two]
    have hb : ∀ n : Nat, n < 256 → ((b.toNat : Int) == n) = decide (b = n.toUInt8) := fun n hn => by
      by_cases e : b = n.toUInt8
      · rw [decide_eq_true e]; exact beq_t ((u8_eq b n hn).2 e)
      · rw [decide_eq_false e]; exact beq_f (fun h => e ((u8_eq b n hn).1 h))
    have b61 := hb 61 (by omega); have b60 := hb 60 (by omega); have b62 := hb 62 (by omega)
    by_cases h6 : a = 60
    · subst h6
      by_cases e1 : b = 61; · subst e1; simp [symL, findL, symbolsL, kindOf, two]
      by_cases e2 : b = 60; · subst e2; simp [symL, findL, symbolsL, kindOf, two]
      have : two ((60 : UInt8).toNat : Int) (b.toNat : Int) = false := by
        unfold two; rw [show ((b.toNat : Int) == 61) = false from beq_f (fun h => e1 ((u8_eq b 61 (by omega)).1 h)), show ((b.toNat : Int) == 60) = false from beq_f (fun h => e2 ((u8_eq b 60 (by omega)).1 h))]; rfl
      simp only [symL]; rw [this]
      simp [findL, symbolsL, kindOf, e1, e2]
    by_cases h7 : a = 62
    · subst h7
      by_cases e1 : b = 61; · subst e1; simp [symL, findL, symbolsL, kindOf, two]
      by_cases e2 : b = 62; · subst e2; simp [symL, findL, symbolsL, kindOf, two]
      have : two ((62 : UInt8).toNat : Int) (b.toNat : Int) = false := by
        unfold two; rw [show ((b.toNat : Int) == 61) = false from beq_f (fun h => e1 ((u8_eq b 61 (by omega)).1 h)), show ((b.toNat : Int) == 62) = false from beq_f (fun h => e2 ((u8_eq b 62 (by omega)).1 h))]; rfl
      simp only [symL]; rw [this]
      simp [findL, symbolsL, kindOf, e1, e2]
    by_cases h9 : a = 33
    · subst h9
      by_cases e1 : b = 61; · subst e1; simp [symL, findL, symbolsL, kindOf, two]
      have : two ((33 : UInt8).toNat : Int) (b.toNat : Int) = false := by
        unfold two; rw [show ((b.toNat : Int) == 61) = false from beq_f (fun h => e1 ((u8_eq b 61 (by omega)).1 h))]; rfl
      simp only [symL]; rw [this]
      simp [findL, symbolsL, kindOf, e1]
    simp only [symL]
    rw [if_pos (kind4 a h1 h2 h3 h4 h5 h6 h7 h8 h9)]
    simp [findL, symbolsL, h1, h2, h3, h4, h5, h6, h7, h8, h9]
theorem longest_l0 (s : ByteArray) (a : Nat) (ha : a ≤ s.size) (hs : s.size ≤ 140737488351232) (l : List ByteArray) (hl : l.length ≤ 1000) (hx : ∀ x ∈ l, x.size ≤ 100) (d : Nat) : ∀ (k i : Nat), l.length - i = d → i ≤ l.length → d < k →
    za9.l0 k s (a : Int) l (i : Int) = some (findL ((s.extract a s.size).data.toList) ((l.drop i).map fun x => x.data.toList)) := by
  have hT : (s.extract a s.size).data.toList = s.data.toList.drop a := by
    rw [Lib.extract_data, List.take_of_length_le (by rw [List.length_drop, zbs]; omega)]
  rw [hT]
  induction d with
  | zero =>
    intro k i hd hi hk
    obtain ⟨k, rfl⟩ : ∃ m, k = m + 1 := ⟨k - 1, by omega⟩
    simp only [za9.l0]; rw [if_neg (show ¬ (i : Int) < (l.length : Int) by omega), List.drop_of_length_le (show l.length ≤ i by omega)]; rfl
  | succ d ih =>
    intro k i hd hi hk
    obtain ⟨k, rfl⟩ : ∃ m, k = m + 1 := ⟨k - 1, by omega⟩
    have hlt : i < l.length := by omega
    have hz := hx l[i] (List.getElem_mem hlt)
    have hih := ih k (i + 1) (by omega) (by omega) (by omega)
    have c1 : (i : Int) < (l.length : Int) := by omega
    have c2 : (0 : Int) ≤ (i : Int) := by omega
    have c3 : (0 : Int) ≤ (a : Int) := by omega
    have c4 : (a : Int) ≤ ((a + l[i].size : Nat) : Int) := by omega
    have c5 : l[i].size ≤ s.size - a → ((a + l[i].size : Nat) : Int) ≤ (s.size : Int) := by omega
    have c6 : (((l[i].size : Nat) : Int) ≤ ((s.size - a : Nat) : Int)) ↔ l[i].size ≤ s.size - a := by omega
    have hw : wrap64 ((i : Int) + 1) = ((i + 1 : Nat) : Int) := by clear hih ih; unfold wrap64; omega
    have hw1 : wrap64 ((s.size : Int) - (a : Int)) = ((s.size - a : Nat) : Int) := by clear hih ih hw; unfold wrap64; omega
    have hw2 : wrap64 ((a : Int) + (l[i].size : Int)) = ((a + l[i].size : Nat) : Int) := by clear hih ih hw hw1; unfold wrap64; omega
    have hr : rdOf ByteArray.empty l (i : Int) = l[i] := by simp [rdOf, hlt]
    have hlen : (s.data.toList.drop a).length = s.size - a := by rw [List.length_drop, zbs]
    have hxl : l[i].data.toList.length = l[i].size := zbs _
    rw [List.drop_eq_getElem_cons hlt, List.map_cons]
    simp only [za9.l0, findL]
    rw [if_pos c1, if_pos c2, hr, hw, hw1, hw2, hlen, hxl]
    by_cases h1 : l[i].size ≤ s.size - a
    · rw [if_pos (c6.2 h1), if_pos c3, if_pos c4, if_pos (c5 h1)]
      have he : (s.extract ((a : Int)).toNat (((a + l[i].size : Nat) : Int)).toNat).toList = (s.data.toList.drop a).take l[i].size := by
        rw [ByteArray.toList_eq, Int.toNat_natCast, Int.toNat_natCast, Lib.extract_data, Nat.add_sub_cancel_left]
      rw [he, ByteArray.toList_eq]
      by_cases h2 : (s.data.toList.drop a).take l[i].size = l[i].data.toList
      · rw [if_pos h2, if_pos ⟨h1, h2⟩]
      · rw [if_neg h2, if_neg (fun h => h2 h.2)]
        exact hih
    · rw [if_neg (fun h => h1 (c6.1 h)), if_neg (fun h => h1 h.1)]
      exact hih
def refSymbols : List ByteArray := (zb1.f).getD []
theorem longest_ref (k : Nat) (hk : 40 ≤ k) (s : ByteArray) (a : Nat) (ha : a ≤ s.size) (hs : s.size ≤ 140737488351232) : za9.f k s (a : Int) = some (symT (s.extract a s.size)) := by
  have h13 : refSymbols.length = 13 := by kernel_rfl
  have h2 : ∀ x ∈ refSymbols, x.size ≤ 100 := by
    have : refSymbols.all (fun x => decide (x.size ≤ 100)) = true := by kernel_rfl
    intro x hx
    have := List.all_eq_true.1 this x hx
    simpa using this
  have h3 : refSymbols.map (fun x => x.data.toList) = symbolsL := by kernel_rfl
  have h := longest_l0 s a ha hs refSymbols (by omega) h2 13 k 0 (by omega) (by omega) (by omega)
  rw [List.drop_zero, h3, ← sym_find, ← symT_L] at h
  exact h
set_option linter.unusedVariables false
theorem read_l1 (t : ByteArray) (ht : t.size ≤ 140737488351232) (d : Nat) : ∀ (k i n : Nat), t.size - i = d → i ≤ t.size → d < k → n ≤ 9223372036854775807 → (t.data.toList.drop i).all digB = true →
    za2.l1 k t (n : Int) (i : Int) = some (if decFrom n (t.data.toList.drop i) ≤ 9223372036854775807 then ((decFrom n (t.data.toList.drop i) : Int), 0) else (0, 16)) := by
  induction d with
  | zero =>
    intro k i n hd hi hk hn _
    obtain ⟨k, rfl⟩ : ∃ m, k = m + 1 := ⟨k - 1, by omega⟩
    simp only [za2.l1]; rw [if_neg (by omega), List.drop_of_length_le (by rw [zbs]; omega), if_pos (show decFrom n [] ≤ 9223372036854775807 from hn)]; rfl
  | succ d ih =>
    intro k i n hd hi hk hn hall
    obtain ⟨k, rfl⟩ : ∃ m, k = m + 1 := ⟨k - 1, by omega⟩
    have hlt : i < t.data.toList.length := by rw [zbs]; omega
    rw [List.drop_eq_getElem_cons hlt] at hall ⊢
    rw [List.all_cons, Bool.and_eq_true] at hall
    have hc := digB_iff.1 hall.1
    have hb : bt t (i : Int) = (t.data.toList[i]).toNat := bt_list t i _ (List.getElem?_eq_getElem hlt)
    generalize t.data.toList[i] = c at hb hc ⊢
    have hw : wrap64 ((i : Int) + 1) = ((i + 1 : Nat) : Int) := by clear ih; unfold wrap64; omega
    have hm : ((c.toNat : Int) - 48) % 256 = ((c.toNat - 48 : Nat) : Int) := by clear ih hw; omega
    have hD : decFrom n (c :: t.data.toList.drop (i + 1)) = decFrom (n * 10 + (c.toNat - 48)) (t.data.toList.drop (i + 1)) := rfl
    have hge := decFrom_ge (t.data.toList.drop (i + 1)) (n * 10 + (c.toNat - 48))
    simp only [za2.l1]
    rw [if_pos (by clear ih hw; omega), if_pos (by clear ih hw; omega), hb, hm, hD]
    by_cases h1 : n * 10 + (c.toNat - 48) ≤ 9223372036854775807
    · have hih := ih k (i + 1) (n * 10 + (c.toNat - 48)) (by omega) (by omega) (by omega) h1 hall.2
      have q1 : ¬ (n : Int) > (9223372036854775807 - ((c.toNat - 48 : Nat) : Int)) / 10 := by clear ih hih hw; omega
      have q2 : wrap64 (10 * (n : Int)) = 10 * (n : Int) := by clear ih hih hw; unfold wrap64; omega
      have q3 : wrap64 (10 * (n : Int) + ((c.toNat - 48 : Nat) : Int)) = ((n * 10 + (c.toNat - 48) : Nat) : Int) := by clear ih hih hw q2; unfold wrap64; omega
      rw [if_neg q1, q2, q3, hw]
      exact hih
    · have q1 : (n : Int) > (9223372036854775807 - ((c.toNat - 48 : Nat) : Int)) / 10 := by clear ih hw; omega
      rw [if_pos q1, if_neg (by clear ih hw; omega)]
theorem read_l0 (t : ByteArray) (ht : t.size ≤ 140737488351232) (d : Nat) : ∀ (k i : Nat), t.size - i = d → i ≤ t.size → d < k →
    za2.l0 k t (i : Int) = if (t.data.toList.drop i).all digB = true then za2.l1 (k - d - 1) t 0 0 else some (0, 12) := by
  induction d with
  | zero =>
    intro k i hd hi hk
    obtain ⟨k, rfl⟩ : ∃ m, k = m + 1 := ⟨k - 1, by omega⟩
    simp only [za2.l0]; rw [if_neg (by omega), List.drop_of_length_le (by rw [zbs]; omega)]; rfl
  | succ d ih =>
    intro k i hd hi hk
    obtain ⟨k, rfl⟩ : ∃ m, k = m + 1 := ⟨k - 1, by omega⟩
    have hlt : i < t.data.toList.length := by rw [zbs]; omega
    have hih := ih k (i + 1) (by omega) (by omega) (by omega)
    have hb : bt t (i : Int) = (t.data.toList[i]).toNat := bt_list t i _ (List.getElem?_eq_getElem hlt)
    have hw : wrap64 ((i : Int) + 1) = ((i + 1 : Nat) : Int) := by clear ih hih; unfold wrap64; omega
    rw [List.drop_eq_getElem_cons hlt, List.all_cons]
    generalize t.data.toList[i] = c at hb ⊢
    simp only [za2.l0]
    rw [if_pos (by clear ih hih hw; omega), if_pos (by clear ih hih hw; omega), hb]
    by_cases h1 : c.toNat < 48
    · have : digB c = false := by cases h : digB c with | false => rfl | true => exact absurd (digB_iff.1 h).1 (by omega)
      rw [if_pos (by omega), this]; rfl
    · rw [if_neg (show ¬ (c.toNat : Int) < 48 by omega)]
      by_cases h2 : c.toNat > 57
      · have : digB c = false := by cases h : digB c with | false => rfl | true => exact absurd (digB_iff.1 h).2 (by omega)
        rw [if_pos (by omega), this]; rfl
      · have : digB c = true := digB_iff.2 ⟨by omega, by omega⟩
        rw [if_neg (by omega), this, Bool.true_and, hw, hih]
        congr 2; omega
theorem read_ref (t : ByteArray) (ht : t.size ≤ 140737488351232) (k : Nat) (hk : 2 * t.size + 1 < k) : za2.f k t = some (readL t.data.toList) := by
  unfold za2.f readL
  rw [ByteArray.toList_eq]
  by_cases h0 : t.data.toList = []
  · rw [if_pos h0, if_pos h0]
  · rw [if_neg h0, if_neg h0]
    refine (read_l0 t ht t.size k 0 (by omega) (by omega) (by omega)).trans ?_
    rw [List.drop_zero]
    by_cases h1 : t.data.toList.all digB = true
    · rw [if_pos h1, if_pos h1]
      exact (read_l1 t ht t.size _ 0 0 (by omega) (by omega) (by omega) (by omega) h1)
    · rw [if_neg h1, if_neg h1]
theorem valid_f (k : Nat) (q : Int) (t : ByteArray) (a : Int) (hk : 2 * t.size + 2100 < k) (ht : t.size ≤ 140737488351232) : zbc.f k q t a = some (decide (chk q t.data.toList = 0)) := by
  have hz : (t.size : Int) = (t.data.toList.length : Int) := by rw [zbs]
  have hba : ba t.data.toList = t := (ba_of rfl).symm
  have hdec : ∀ a : Int, (a == 0) = decide (a = 0) := fun a => by by_cases h : a = 0 <;> simp [h]
  unfold zbc.f chk
  by_cases h1 : q = 1
  · rw [if_pos h1, if_pos h1, read_ref t ht k (by omega)]
    simp only [Option.bind_some, hdec]
  rw [if_neg h1, if_neg h1]
  by_cases h2 : q = 2
  · rw [if_pos h2, if_pos h2, hba, word_ref k (by omega)]; simp only [Option.bind_some]
    cases isWord t <;> rfl
  rw [if_neg h2, if_neg h2]
  by_cases h3 : q = 3
  · rw [if_pos h3, if_pos h3]
    by_cases h4 : symL t.data.toList > 0
    · have hp : (t.size : Int) > 0 := by have := symL_le t.data.toList; omega
      rw [if_pos hp]
      have hl := longest_ref k (by omega) t 0 (Nat.zero_le _) ht
      rw [symT_L, Lib.extract_data, List.drop_zero, List.take_of_length_le (by rw [zbs]; exact Nat.le_refl _)] at hl
      rw [show ((0 : Nat) : Int) = 0 from rfl] at hl
      rw [hl, Option.bind_some, hz]
      by_cases h5 : symL t.data.toList = (t.data.toList.length : Int)
      · rw [beq_t h5, if_pos ⟨h4, h5⟩]; rfl
      · rw [beq_f h5, if_neg (fun h => h5 h.2)]; rfl
    · rw [if_neg (show ¬ (symL t.data.toList > 0 ∧ symL t.data.toList = (t.data.toList.length : Int)) from fun h => h4 h.1)]
      by_cases hp : (t.size : Int) > 0
      · rw [if_pos hp]
        have hl := longest_ref k (by omega) t 0 (Nat.zero_le _) ht
        rw [symT_L, Lib.extract_data, List.drop_zero, List.take_of_length_le (by rw [zbs]; exact Nat.le_refl _)] at hl
        rw [show ((0 : Nat) : Int) = 0 from rfl] at hl
        rw [hl, Option.bind_some, hz, beq_f (by have := symL_le t.data.toList; omega)]; rfl
      · rw [if_neg hp]; rfl
  · rw [if_neg h3, if_neg h3]; rfl
end Go.Proofs.YtgmmngipnjmkfaaGreatDoor.PureL
end
section
namespace Go.Proofs.YtgmmngipnjmkfaaGreatDoor.PureL
open Go.RowKit Go.Proofs.YtgmmngipnjmkfaaGreatDoor.Hand Go.Proofs.YtgmmngipnjmkfaaGreatDoor.Q Go.Proofs.YtgmmngipnjmkfaaGreatDoorW.PrintWords Go.Proofs.YtgmmngipnjmkfaaGreatDoorW.PrintLast Go.Proofs.YtgmmngipnjmkfaaGreatDoorW.PrintMore
def chkT (t : S33) : Int := chk t.f0 t.f1.data.toList
def sp : ByteArray := ⟨#[32]⟩
def em : ByteArray := ⟨#[]⟩
theorem rd_get (l : List S33) (i : Nat) (h : i < l.length) : zbh l (i : Int) = l[i] := by simp [zbh, h]
theorem lens_le (l : List (List UInt8)) (b : Nat) (h : ∀ x ∈ l, x.length ≤ b) : Lib.lens l ≤ b * l.length := by
  induction l with
  | nil => exact Nat.le_refl _
  | cons x r ih =>
    have h1 := h x (List.mem_cons_self ..)
    have h2 := ih fun y hy => h y (List.mem_cons_of_mem _ hy)
    have : Lib.lens (x :: r) = x.length + Lib.lens r := by simp [Lib.lens]
    rw [this, List.length_cons, Nat.mul_add]; omega
theorem sjoin_f (l : List ByteArray) (B : Nat) (hl : l.length ≤ 200) (hB : (B + 1) * l.length ≤ 140737488355328) (hb : ∀ t ∈ l, t.size ≤ B) : strings_Join.f l sp = some (joinB l sp) := by
  unfold strings_Join.f
  refine if_pos ⟨by omega, ?_⟩
  cases l with
  | nil => exact Nat.zero_le _
  | cons x r =>
    rw [List.map_cons, Lib.join_length]
    have h := lens_le ((x :: r).map (·.data.toList)) B (fun y hy => by
      obtain ⟨z, hz, rfl⟩ := List.mem_map.1 hy
      rw [zbs]; exact hb z hz)
    rw [Nat.add_mul, Nat.one_mul] at hB
    rw [List.length_map] at h
    have h2 : ∀ m, m ≤ B * (x :: r).length → m + (x :: r).length ≤ 140737488355328 := fun m hm => by omega
    have h3 := h2 _ h
    rw [List.length_cons] at h3
    rw [List.map_cons] at h3
    have : sp.data.toList.length = 1 := rfl
    rw [this, List.length_map]
    omega
def jn (l : List S33) : ByteArray × Int :=
  if l.length > 200 then (em, 4) else if l.all (fun t => chkT t == 0) = true then (if (joinB (l.map S33.f1) sp).size > 400 then (em, 18) else (joinB (l.map S33.f1) sp, 0)) else (em, 8)
theorem join_l0 (l : List S33) (B : Nat) (hB2 : B ≤ 140737488351232) (hl : l.length ≤ 200) (hB : (B + 1) * l.length ≤ 140737488355328) (hb : ∀ t ∈ l, t.f1.size ≤ B) (d : Nat) : ∀ (k i : Nat), l.length - i = d → i ≤ l.length → d < k →
    zbn.l0 k ((l.take i).map S33.f1) l (l.length : Int) (i : Int) = some (if (l.drop i).all (fun t => chkT t == 0) = true then (if (joinB (l.map S33.f1) sp).size > 400 then (em, 18) else (joinB (l.map S33.f1) sp, 0)) else (em, 8)) := by
  induction d with
  | zero =>
    intro k i hd hi hk
    obtain ⟨k, rfl⟩ : ∃ m, k = m + 1 := ⟨k - 1, by omega⟩
    have h := sjoin_f (l.map S33.f1) B (by rw [List.length_map]; exact hl) (by rw [List.length_map]; exact hB) (fun x hx => by obtain ⟨z, hz, rfl⟩ := List.mem_map.1 hx; exact hb z hz)
    unfold sp at h
    simp only [zbn.l0]
    rw [if_neg (by omega), List.take_of_length_le (by omega), h, List.drop_of_length_le (by omega), if_pos List.all_nil]
    show (if ((joinB (l.map S33.f1) sp).size : Int) > 400 then some ((⟨#[]⟩ : ByteArray), (18 : Int)) else some (joinB (l.map S33.f1) sp, 0)) = _
    by_cases c : (joinB (l.map S33.f1) sp).size > 400
    · rw [if_pos (by omega), if_pos c]; rfl
    · rw [if_neg (by omega), if_neg c]
  | succ d ih =>
    intro k i hd hi hk
    obtain ⟨k, rfl⟩ : ∃ m, k = m + 1 := ⟨k - 1, by omega⟩
    have hlt : i < l.length := by omega
    have hih := ih k (i + 1) (by omega) (by omega) (by omega)
    have hw : wrap64 ((i : Int) + 1) = ((i + 1 : Nat) : Int) := by clear ih hih; unfold wrap64; omega
    have hz := hb l[i] (List.getElem_mem hlt)
    have hck := check_f k (by omega) l[i].f0 l[i].f1 l[i].f2 (by omega)
    have htl : (l.take i).map S33.f1 ++ [l[i].f1] = (l.take (i + 1)).map S33.f1 := by rw [List.take_succ_eq_append_getElem hlt, List.map_append]; rfl
    have hll : ((l.take i).map S33.f1).length < 8796093022208 := by rw [List.length_map, List.length_take]; omega
    rw [List.drop_eq_getElem_cons hlt, List.all_cons]
    simp only [zbn.l0]
    rw [if_pos (by omega), if_pos (by omega), if_pos (by omega), rd_get l i hlt, hck, Option.bind_some]
    by_cases c : chk l[i].f0 l[i].f1.data.toList = 0
    · rw [if_pos c, if_pos hll, htl, hw, hih]
      have : (chkT l[i] == 0) = true := beq_t c
      rw [this, Bool.true_and]
    · rw [if_neg c]
      have : (chkT l[i] == 0) = false := beq_f c
      rw [this, Bool.false_and]; rfl
theorem join_f (l : List S33) (B : Nat) (hB2 : B ≤ 140737488351232) (hB : l.length ≤ 200 → (B + 1) * l.length ≤ 140737488355328) (hb : ∀ t ∈ l, t.f1.size ≤ B) (k : Nat) (hk : 201 ≤ k) : zbn.f k l = some (jn l) := by
  unfold zbn.f jn
  by_cases h : l.length > 200
  · rw [if_pos (by omega), if_pos h]; rfl
  · rw [if_neg (by omega), if_neg h]
    exact join_l0 l B hB2 (by omega) (hB (by omega)) hb l.length k 0 (by omega) (by omega) (by omega)
theorem scan_size {a n : Nat} {L : List UInt8} {ts : List S33} {m : Nat} {e : Int} (h : Scan a n L ts m e) : ∀ t ∈ ts, t.f1.size ≤ L.length := by
  induction h with
  | done a n => intro t ht; cases ht
  | blank hb _ ih => intro t ht; have := ih t ht; rw [List.length_cons]; omega
  | many _ => intro t ht; cases ht
  | bad _ _ _ he => intro t ht; cases ht
  | @tok a n c r ts m e _ _ hc _ ih =>
    intro t ht
    rcases List.mem_cons.1 ht with rfl | ht
    · rw [ba_size]; exact tok_len _
    · have := ih t ht; rw [List.length_drop] at this; omega
theorem run_cut (q : Int) (hq : q ≠ 1) (B X : List UInt8) (hX : ∀ x X', X = x :: X' → kd x = 1) : ∀ A : List UInt8, (run q (A ++ B)).length ≤ A.length → run q (A ++ X) = run q (A ++ B) := by
  intro A
  induction A with
  | nil =>
    intro h
    rw [List.nil_append, List.nil_append] at *
    have h0 : run q B = [] := List.length_eq_zero_iff.1 (Nat.le_zero.1 h)
    rw [h0]
    cases X with
    | nil => rfl
    | cons x X' =>
      have := hX x X' rfl
      unfold run
      rw [List.takeWhile_cons_of_neg (p := fun b => kd b == q) (by rw [this]; simpa using fun e => hq e.symm)]
  | cons c r ih =>
    intro h
    unfold run at *
    rw [List.cons_append, List.cons_append] at *
    by_cases e : (kd c == q) = true
    · rw [List.takeWhile_cons_of_pos (p := fun b => kd b == q) e] at *
      rw [List.takeWhile_cons_of_pos (p := fun b => kd b == q) e]
      rw [List.length_cons, List.length_cons] at h
      rw [ih (by omega)]
    · rw [List.takeWhile_cons_of_neg (p := fun b => kd b == q) e] at *
      rw [List.takeWhile_cons_of_neg (p := fun b => kd b == q) e]
theorem symL_33 (c : UInt8) (h : kindOf c.toNat ≠ 4 ∨ (c.toNat : Int) = 33) : symL [c] = 0 := by
  simp only [symL]
  by_cases h4 : kindOf c.toNat ≠ 4
  · rw [if_pos h4]
  · rw [if_neg h4, if_pos (h.resolve_left h4)]
theorem symL_cut (B X : List UInt8) (hX : ∀ x X', X = x :: X' → kd x = 1) (c : UInt8) (A : List UInt8) (h : symL (c :: A ++ B) ≤ ((c :: A).length : Int)) : symL (c :: A ++ X) = symL (c :: A ++ B) := by
  cases A with
  | cons d A => simp only [List.cons_append, symL]
  | nil =>
    show symL (c :: X) = symL (c :: B)
    have h : symL (c :: B) ≤ 1 := h
    have hx : ∀ b l, X = b :: l → kindOf b.toNat = 4 → False := fun b l e h4 => by have h1 := hX b l e; unfold kd at h1; rw [h1] at h4; cases h4
    rcases zdw c B with hB | hB | ⟨b, l, rfl, hB, _⟩
    · rcases zdw c X with hc | hc | ⟨b, l, e, hc, _, h4, _⟩
      · rw [hB.1, hc.1]
      · have := symL_33 c hB.2; rw [hc.2.2.1] at this; cases this
      · exact absurd h4 (hx b l e)
    · rcases zdw c X with hc | hc | ⟨b, l, e, hc, _, h4, _⟩
      · have := symL_33 c hc.2; rw [hB.2.2.1] at this; cases this
      · rw [hB.1, hc.1]
      · exact absurd h4 (hx b l e)
    · rw [hB] at h; exact absurd h (by decide)
theorem tok_cut (B X : List UInt8) (hX : ∀ x X', X = x :: X' → kd x = 1) (c : UInt8) (A : List UInt8) (h : (tok (c :: A ++ B)).2.length ≤ (c :: A).length) : tok (c :: A ++ X) = tok (c :: A ++ B) := by
  rw [List.cons_append, List.cons_append] at *
  by_cases h2 : kd c = 2
  · simp only [tok, if_pos h2] at h ⊢
    rw [← List.cons_append, ← List.cons_append] at *
    rw [run_cut 2 (by decide) B X hX (c :: A) h]
  · by_cases h3 : kd c = 3
    · simp only [tok, if_neg h2, if_pos h3] at h ⊢
      rw [← List.cons_append, ← List.cons_append] at *
      rw [run_cut 3 (by decide) B X hX (c :: A) h]
    · simp only [tok, if_neg h2, if_neg h3] at h ⊢
      rw [← List.cons_append, ← List.cons_append] at *
      have hs := symL_le (c :: A ++ B)
      rw [List.length_take] at h
      have hle : symL (c :: A ++ B) ≤ ((c :: A).length : Int) := by omega
      rw [symL_cut B X hX c A hle, List.take_append_of_le_length (by omega), List.take_append_of_le_length (by omega)]
set_option linter.unusedVariables false
theorem digB_kd (b : UInt8) : digB b = (kd b == 2) := by
  have h : ∀ n : Fin 256, digB (UInt8.ofNat n.val) = (kd (UInt8.ofNat n.val) == 2) := by decide +kernel
  have := h ⟨b.toNat, b.toNat_lt⟩
  simpa using this
theorem word_letters (t : List UInt8) (h : isWord (ba t) = true) : t.all (fun b => kd b == 3) = true := by
  have hall : wordList.all (fun w => w.data.toList.all fun b => kd b == 3) = true := by kernel_rfl
  have := List.all_eq_true.1 hall _ (isWord_iff.1 h)
  exact this
theorem run_all (q : Int) (t : List UInt8) (h : t.all (fun b => kd b == q) = true) : run q t = t := by
  unfold run
  induction t with
  | nil => rfl
  | cons c r ih =>
    rw [List.all_cons, Bool.and_eq_true] at h
    rw [List.takeWhile_cons_of_pos (p := fun b => kd b == q) h.1, ih h.2]
theorem tok_valid (q : Int) (t : List UInt8) (h : chk q t = 0) : tok t = (q, t) := by
  have hne := chk_pos h
  cases t with
  | nil => exact absurd rfl hne
  | cons c r =>
    unfold chk at h
    by_cases h1 : q = 1
    · rw [if_pos h1] at h
      have hd : (c :: r).all digB = true := by
        unfold readL at h
        rw [if_neg (by simp)] at h
        by_cases hd : (c :: r).all digB = true
        · exact hd
        · rw [if_neg hd] at h; exact absurd h (by decide)
      have hk : (c :: r).all (fun b => kd b == 2) = true := by
        rw [List.all_eq_true] at hd ⊢
        intro b hb; rw [← digB_kd]; exact hd b hb
      have hc : kd c = 2 := by have := List.all_eq_true.1 hk c (List.mem_cons_self ..); simpa using this
      simp only [tok, if_pos hc]
      rw [run_all 2 _ hk, h1]
    rw [if_neg h1] at h
    by_cases h2 : q = 2
    · rw [if_pos h2] at h
      have hw : isWord (ba (c :: r)) = true := by
        cases hw : isWord (ba (c :: r)) with
        | true => rfl
        | false => rw [hw] at h; exact absurd h (by decide)
      have hk := word_letters _ hw
      have hc : kd c = 3 := by have := List.all_eq_true.1 hk c (List.mem_cons_self ..); simpa using this
      simp only [tok, if_neg (show ¬ kd c = 2 by rw [hc]; decide), if_pos hc]
      rw [run_all 3 _ hk, h2]
    rw [if_neg h2] at h
    by_cases h3 : q = 3
    · rw [if_pos h3] at h
      have hs : symL (c :: r) > 0 ∧ symL (c :: r) = ((c :: r).length : Int) := by
        by_cases hs : symL (c :: r) > 0 ∧ symL (c :: r) = ((c :: r).length : Int)
        · exact hs
        · rw [if_neg hs] at h; exact absurd h (by decide)
      have hc : kd c = 4 := by
        rcases zdw c r with hx | hx | ⟨b, l, _, _, hx, _⟩
        · rw [hx.1] at hs; exact absurd hs.1 (by decide)
        · exact hx.2.1
        · exact hx
      simp only [tok, if_neg (show ¬ kd c = 2 by rw [hc]; decide), if_neg (show ¬ kd c = 3 by rw [hc]; decide)]
      rw [hs.2, Int.toNat_natCast, List.take_length, h3]
    · rw [if_neg h3] at h; exact absurd h (by decide)
theorem kd_sp : kd 32 = 1 := by decide
theorem chk_head (q : Int) (c : UInt8) (r : List UInt8) (h : chk q (c :: r) = 0) : kd c ≠ 1 := by
  intro hk
  have ht := tok_valid q _ h
  simp only [tok, if_neg (show ¬ kd c = 2 by rw [hk]; decide), if_neg (show ¬ kd c = 3 by rw [hk]; decide)] at ht
  have h2 := (Prod.mk.inj ht).2
  rcases zdw c r with hx | hx | ⟨b, l, _, _, hx, _⟩
  · rw [hx.1] at h2; cases h2
  · have := hx.2.1; unfold kd at hk; rw [hk] at this; cases this
  · unfold kd at hk; rw [hk] at hx; cases hx
end Go.Proofs.YtgmmngipnjmkfaaGreatDoor.PureL
end
section
namespace Go.Proofs.YtgmmngipnjmkfaaGreatDoor.Pure
open Go.Proofs.YtgmmngipnjmkfaaGreatDoor.Q
def opB (k : Int) : List UInt8 :=
  if k = 7 then [42] else if k = 8 then [43] else if k = 9 then [45] else if k = 10 then [60, 60] else if k = 11 then [62, 62] else if k = 12 then [60] else if k = 13 then [60, 61] else if k = 14 then [62] else if k = 15 then [62, 61]
  else if k = 16 then [61] else if k = 17 then [33, 61] else if k = 18 then [97, 110, 100] else [111, 114]
def fldB (k : Int) : List UInt8 := if k = 2 then [107] else if k = 3 then [116] else [118]
def brB (p : Bool) (s : List UInt8) : List UInt8 := if p then 40 :: (s ++ [41]) else s
def tbytes : Tr → Bool → List UInt8
  | .leaf k n _, _ => if k = 1 then Lib.itoa n else fldB k
  | .un k _ a, p => brB p ((if k = 5 then [45, 32] else [110, 111, 116, 32]) ++ tbytes a true)
  | .bin k _ a b, p => brB p (tbytes a true ++ ([32] ++ (opB k ++ ([32] ++ tbytes b true))))
def rdN (l : List Nd) (i : Int) : Nd := l.getD i.toNat z43
def textN : Nat → List Nd → Int → Bool → List UInt8
  | 0, _, _, _ => []
  | k + 1, l, a, p =>
    if (rdN l a).f0 = 1 then Lib.itoa (rdN l a).f1 else if (rdN l a).f0 ≤ 4 then fldB (rdN l a).f0
    else if (rdN l a).f0 ≤ 6 then brB p ((if (rdN l a).f0 = 5 then [45, 32] else [110, 111, 116, 32]) ++ textN k l (rdN l a).f2 true)
    else brB p (textN k l (rdN l a).f2 true ++ ([32] ++ (opB (rdN l a).f0 ++ ([32] ++ textN k l (rdN l a).f3 true))))
def Lies (l : List Nd) (o : Nat) (t : Tr) : Prop := ∃ pre post, l = pre ++ (t.flat o ++ post) ∧ pre.length = o
theorem lies_root (t : Tr) : Lies (t.flat 0) 0 t := ⟨[], [], by simp, rfl⟩
theorem rdN_app {l pre post : List Nd} {x : Nd} (h : l = pre ++ (x :: post)) (i : Int) (hi : i = (pre.length : Int)) : rdN l i = x := by
  subst h; subst hi; unfold rdN
  rw [Int.toNat_natCast, List.getD_eq_getElem?_getD, List.getElem?_append_right (Nat.le_refl _), Nat.sub_self]; rfl
theorem lies_len {l : List Nd} {o : Nat} {t : Tr} (h : Lies l o t) : o + t.size ≤ l.length := by
  obtain ⟨pre, post, rfl, h⟩ := h
  rw [List.length_append, List.length_append, t.zcb]; omega
theorem lies_leaf {l : List Nd} {o : Nat} {k n p : Int} (h : Lies l o (.leaf k n p)) : rdN l (o : Int) = ⟨k, n, 0, 0, p⟩ := by
  obtain ⟨pre, post, e, h⟩ := h
  exact rdN_app (post := post) (by simpa [Tr.flat] using e) _ (by omega)
theorem lies_un {l : List Nd} {o : Nat} {k p : Int} {a : Tr} (h : Lies l o (.un k p a)) : Lies l o a ∧ rdN l (((o + a.size : Nat)) : Int) = ⟨k, 0, ((o + a.size : Nat) : Int) - 1, 0, p⟩ := by
  obtain ⟨pre, post, e, h⟩ := h
  refine ⟨⟨pre, [⟨k, 0, ((o + a.size : Nat) : Int) - 1, 0, p⟩] ++ post, by rw [e]; simp only [Tr.flat, List.append_assoc], h⟩, rdN_app (pre := pre ++ a.flat o) (post := post) (by rw [e]; simp [Tr.flat]) _ (by rw [List.length_append, a.zcb]; omega)⟩
theorem lies_bin {l : List Nd} {o : Nat} {k p : Int} {a b : Tr} (h : Lies l o (.bin k p a b)) : Lies l o a ∧ Lies l (o + a.size) b ∧ rdN l (((o + a.size + b.size : Nat)) : Int) = ⟨k, 0, ((o + a.size : Nat) : Int) - 1, ((o + a.size + b.size : Nat) : Int) - 1, p⟩ := by
  obtain ⟨pre, post, e, h⟩ := h
  refine ⟨⟨pre, b.flat (o + a.size) ++ ([⟨k, 0, ((o + a.size : Nat) : Int) - 1, ((o + a.size + b.size : Nat) : Int) - 1, p⟩] ++ post), by rw [e]; simp only [Tr.flat, List.append_assoc], h⟩, ⟨pre ++ a.flat o, [⟨k, 0, ((o + a.size : Nat) : Int) - 1, ((o + a.size + b.size : Nat) : Int) - 1, p⟩] ++ post, by rw [e]; simp only [Tr.flat, List.append_assoc], by rw [List.length_append, a.zcb]; omega⟩,
    rdN_app (pre := pre ++ (a.flat o ++ b.flat (o + a.size))) (post := post) (by rw [e]; simp [Tr.flat]) _ (by rw [List.length_append, List.length_append, a.zcb, b.zcb]; omega)⟩
theorem zeh : ∀ (t : Tr), t.WF → ∀ (k : Nat) (l : List Nd) (o : Nat) (p : Bool), t.depth ≤ k → Lies l o t → textN k l (((o + t.size : Nat) : Int) - 1) p = tbytes t p
  | .leaf kd n ps, hw, k, l, o, p, hk, h => by
    obtain ⟨k, rfl⟩ : ∃ m, k = m + 1 := ⟨k - 1, by simp [Tr.depth] at hk; omega⟩
    obtain ⟨h1, h2, _⟩ := hw
    rw [show ((o + (Tr.leaf kd n ps).size : Nat) : Int) - 1 = (o : Int) by simp [Tr.size]]
    simp only [textN, lies_leaf h]
    simp only [tbytes]
    by_cases h3 : kd = 1
    · rw [if_pos h3, if_pos h3]
    · rw [if_neg h3, if_neg h3, if_pos h2]
  | .un kd ps a, hw, k, l, o, p, hk, h => by
    obtain ⟨k, rfl⟩ : ∃ m, k = m + 1 := ⟨k - 1, by simp [Tr.depth] at hk; omega⟩
    obtain ⟨h1, _, _, h4⟩ := hw
    obtain ⟨ha, hr⟩ := lies_un h
    rw [show ((o + (Tr.un kd ps a).size : Nat) : Int) - 1 = ((o + a.size : Nat) : Int) by simp only [Tr.size]; omega]
    simp only [textN, hr]
    simp only [tbytes]
    rw [if_neg (by omega), if_neg (by omega), if_pos (by omega), zeh a h4 k l o true (by simp [Tr.depth] at hk; omega) ha]
  | .bin kd ps a b, hw, k, l, o, p, hk, h => by
    obtain ⟨k, rfl⟩ : ∃ m, k = m + 1 := ⟨k - 1, by simp [Tr.depth] at hk; omega⟩
    obtain ⟨h1, _, _, _, h5, h6⟩ := hw
    obtain ⟨ha, hb, hr⟩ := lies_bin h
    simp only [Tr.depth] at hk
    rw [show ((o + (Tr.bin kd ps a b).size : Nat) : Int) - 1 = ((o + a.size + b.size : Nat) : Int) by simp only [Tr.size]; omega]
    simp only [textN, hr]
    simp only [tbytes]
    rw [if_neg (by omega), if_neg (by omega), if_neg (by omega), zeh a h5 k l o true (by omega) ha, zeh b h6 k l (o + a.size) true (by omega) hb]
theorem nDigits_le : ∀ (k u : Nat), 1 ≤ k → u < 10 ^ k → Lib.nDigits u ≤ k
  | 0, _, h, _ => by omega
  | k + 1, u, _, h => by
    by_cases h1 : u < 10
    · rw [Lib.nDigits_small h1]; omega
    · rw [Lib.nDigits_big h1]
      have hk : 1 ≤ k := by
        rcases Nat.eq_zero_or_pos k with h0 | h0
        · subst h0; simp at h; omega
        · exact h0
      have := nDigits_le k (u / 10) hk (by rw [Nat.pow_succ] at h; omega)
      omega
theorem itoa_len {n : Int} (h0 : 0 ≤ n) (h1 : n ≤ 9223372036854775807) : (Lib.itoa n).length ≤ 19 := by
  unfold Lib.itoa
  rw [if_neg (by omega), Lib.decDigits_length]
  exact nDigits_le 19 _ (by omega) (by omega)
theorem ite_len {c : Prop} [Decidable c] {a b : List UInt8} {n : Nat} (ha : a.length ≤ n) (hb : b.length ≤ n) : (if c then a else b).length ≤ n := by split <;> assumption
theorem opB_len (k : Int) : (opB k).length ≤ 3 := by
  unfold opB
  repeat (refine ite_len (by decide) ?_)
  decide
theorem fldB_len (k : Int) : (fldB k).length ≤ 1 := by
  unfold fldB
  repeat (refine ite_len (by decide) ?_)
  decide
theorem brB_len (p : Bool) (s : List UInt8) : (brB p s).length ≤ s.length + 2 := by
  unfold brB
  cases p <;> simp
theorem zdx : ∀ (t : Tr), t.WF → ∀ p, (tbytes t p).length ≤ 19 * t.size
  | .leaf kd n ps, hw, p => by
    obtain ⟨h1, h2, h3, h4, _⟩ := hw
    have h5 := itoa_len h3 h4
    have h6 := fldB_len kd
    simp only [tbytes, Tr.size]
    split <;> omega
  | .un kd ps a, hw, p => by
    have h1 := zdx a hw.2.2.2 true
    have h2 := brB_len p ((if kd = 5 then [45, 32] else [110, 111, 116, 32]) ++ tbytes a true)
    have h3 : (if kd = 5 then [45, 32] else [110, 111, 116, 32] : List UInt8).length ≤ 4 := by split <;> simp
    simp only [tbytes, Tr.size]
    rw [List.length_append] at h2
    omega
  | .bin kd ps a b, hw, p => by
    have h1 := zdx a hw.2.2.2.2.1 true
    have h2 := zdx b hw.2.2.2.2.2 true
    have h3 := opB_len kd
    have h4 := brB_len p (tbytes a true ++ ([32] ++ (opB kd ++ ([32] ++ tbytes b true))))
    simp only [tbytes, Tr.size]
    simp only [List.length_append, List.length_cons, List.length_nil] at h4
    omega
end Go.Proofs.YtgmmngipnjmkfaaGreatDoor.Pure
end
