/- Lemmas of the proof (cut to what it uses, by wip/trim.py). -/
import Derived.Test.YtgmmngipnjmkfaaGreatDoorEr1
import Derived.Test.YtgmmngipnjmkfaaGreatDoorEr3
import Derived.Test.YtgmmngipnjmkfaaGreatDoorEr4
import Derived.Test.YtgmmngipnjmkfaaGreatDoorEr5
section
namespace Go.Proofs.YtgmmngipnjmkfaaGreatDoor.Q
open Go.Proofs.YtgmmngipnjmkfaaGreatDoor.Hand
open Go.RowKit Go.Proofs.YtgmmngipnjmkfaaGreatDoorW.PrintWords Go.Proofs.YtgmmngipnjmkfaaGreatDoorW.PrintLast Go.Proofs.YtgmmngipnjmkfaaGreatDoorW.PrintMore
attribute [local go_sem] zcy zcz zdb zdc zcp zcq zc0 zc1
set_option linter.unusedVariables false
set_option linter.unusedSimpArgs false
def za6.j0 : Nat → Bool → Option (Int)
  | 0, _ => none
  | k + 1, x43 => if x43 = true then (some 0) else (some 32)
def za6.f (k : Nat) (a0_0 : Int) (a0_1 : ByteArray) (a0_2 : Int) : Option (Int) := if a0_0 = 1 then ((zd3.f a0_1).bind fun bt110 => (some bt110.2)) else (if a0_0 = 2 then ((zdh.f a0_1).bind fun t112 => (if t112 = true then (some 0) else (some 32))) else (if a0_0 = 3 then ((zcf.f a0_1 0).bind fun bt113 => (if bt113.2 = 0 then (if bt113.1 > 0 then (za6.j0 k (bt113.1 == (a0_1.size : Int))) else (za6.j0 k false)) else (za6.j0 k false))) else (some 32)))
theorem za6.zdo : ∀ k, (∀ y0, LeO (za6.j0 k y0) (za6.j0 (k + 1) y0))
  | 0 => fun _ r h => by simp [za6.j0] at h
  | k + 1 => by
    have ih0 := za6.zdo k
    · intro y0
      unfold za6.j0
      repeat' first
      | (with_reducible exact ih0 _)
      | (with_reducible exact LeO.refl _)
      | (with_reducible exact LeO.none _)
      | (with_reducible refine LeO.ite ?_ ?_)
      | (with_reducible refine LeO.bind ?_ (fun _ => ?_))
      | exact ih0 _
      | exact LeO.none _
      | refine LeO.ite ?_ ?_
      | refine LeO.bind ?_ (fun _ => ?_)
theorem za6.mono : ∀ a0 a1 a2 k, LeO (za6.f k a0 a1 a2) (za6.f (k + 1) a0 a1 a2) := by
  intro a0 a1 a2 k
  have ih0 := za6.zdo k
  unfold za6.f
  repeat' first
      | (with_reducible exact ih0 _)
      | (with_reducible exact LeO.refl _)
      | (with_reducible exact LeO.none _)
      | (with_reducible refine LeO.ite ?_ ?_)
      | (with_reducible refine LeO.bind ?_ (fun _ => ?_))
      | exact ih0 _
      | exact LeO.none _
      | refine LeO.ite ?_ ?_
      | refine LeO.bind ?_ (fun _ => ?_)
set_option maxHeartbeats 8000000 in
set_option maxRecDepth 100000 in
theorem za6.calls (k : Nat) (a0_0 : Int) (a0_1 : ByteArray) (a0_2 : Int) (r : Int) (w : World) (hT : Tabs w) (h : za6.f k a0_0 a0_1 a0_2 = some r) :
 Calls Tryz.prog 27 #[.agg #[.int .u8 a0_0, .string a0_1, .int .i64 a0_2]] w fun e w' => e = .returned (.int .i64 r) ∧ Below w.heap.size w w' := by
 have hu33 := Tryz.underlying33
 have HB := zad.mk (Below.refl w.heap.size w)
 have H : (if a0_0 = 1 then ((zd3.f a0_1).bind fun bt110 => (some bt110.2)) else (if a0_0 = 2 then ((zdh.f a0_1).bind fun t112 => (if t112 = true then (some 0) else (some 32))) else (if a0_0 = 3 then ((zcf.f a0_1 0).bind fun bt113 => (if bt113.2 = 0 then (if bt113.1 > 0 then (za6.j0 k (bt113.1 == (a0_1.size : Int))) else (za6.j0 k false)) else (za6.j0 k false))) else (some 32)))) = some r := h
 clear h
 by_cases c2 : a0_0 = 1
 ·rw [if_pos c2] at H
  have c2b0 : (a0_0 == 1) = true := beq_iff_eq.mpr c2
  have c2b1 : (a0_0 != 1) = false := bne_eq_false_iff_eq.mpr c2
  clear c2
  replace H := Option.bind_eq_some_iff.mp H
  obtain ⟨⟨t110, t111⟩, A30, H⟩ := H
  replace H : (some t111) = some r := H
  have A3 := zad.mk A30
  clear A30
  obtain rfl := Option.some.inj H
  go_enter Tryz.func27, Tryz.ntmps27
  go_wp2_with (first | ((with_reducible refine zbw (N := 1) rfl ?_); (try (refine zbo (by rfl) ?_; dsimp only)); refine zby ?hg (N := 1) ?hd (cs := #[.int .u8 a0_0, .string a0_1, .int .i64 a0_2]) (t := 33) ?hr ?_; (case hd => rfl); (case hg => rfl); (case hr => first | (go_simp; done) | (go_simp; rfl)); intro gb109 hg w4 hbox hb; have n0_ := zad.mk (zah (by repeat (first | (with_reducible first | exact HB.out | apply zab | apply zaa | apply zac) | exact HB.out)) hb); have n1_ := zad.mk (hbox); have n2_ := zad.mk ((by rw [hg]; exact (zao (by repeat (first | (with_reducible first | exact HB.out | apply zab | apply zaa | apply zac) | exact HB.out))) : w.heap.size ≤ gb109)); have n3_ := zad.mk ((by rw [hg]; exact (zao (by repeat (first | (with_reducible first | exact HB.out | apply zab | apply zaa | apply zac) | exact HB.out))) : w.heap.size ≤ gb109)); clear HB; have HB := n0_; have BK109 := n1_; have GW109 := n2_; have GE109 := n3_; clear n0_ n1_ n2_ n3_; clear hb hbox hg; have hcz5_0 : w4.cell? ⟨gb109, 0, none⟩ = some (.int .u8 a0_0) := (zai BK109.out 0).trans rfl; have hcz5_1 : w4.cell? ⟨gb109, 1, none⟩ = some (.string a0_1) := (zai BK109.out 1).trans rfl; have hcz5_2 : w4.cell? ⟨gb109, 2, none⟩ = some (.int .i64 a0_2) := (zai BK109.out 2).trans rfl; have hfz5_0 := zaf BK109.out 0; have hfz5_1 := zaf BK109.out 1; have hfz5_2 := zaf BK109.out 2) | ((with_reducible refine zav (f := 41) rfl ?_); refine zbl (some 14) rfl rfl Tryz.func41 (by kernel_rfl) rfl #[.string a0_1] rfl (by (try simp only [List.map_toArray, List.map_cons, List.map_nil]); first | done | rfl | (simp only [List.length_drop, List.length_take]; rfl)) ?_; (with_reducible refine (zd3.calls a0_1 t110 t111 _ ?side1 A3.out).mono ?_); (case side1 => exact Tabs.below hT (by repeat (first | (with_reducible first | exact HB.out | apply zab | apply zaa | apply zac | refine zaj ?_ GE109.out) | exact HB.out))); rintro e w6 ⟨rfl, hb⟩; refine ⟨_, rfl, ?_⟩; have n0_ := zad.mk (zbg (g := gb109) (o := .cells #[.int .u8 a0_0, .string a0_1, .int .i64 a0_2] 33 (0, 0)) (by (with_reducible repeat (first | refine zas ?_ _ | refine zat ?_ | refine zar ?_ _)); exact BK109.out) hb); have n1_ := zad.mk (zah (by repeat (first | (with_reducible first | exact HB.out | apply zab | apply zaa | apply zac | refine zaj ?_ GE109.out) | exact HB.out)) hb); clear BK109; clear HB; have BK109 := n0_; have HB := n1_; clear n0_ n1_; (try clear hb); (try clear hb2); (try clear hk); (try clear hi)))
  go_ret
  exact ⟨by first | rfl | (simp [zak, zal] <;> rfl) | (simp [*, zak, zal] <;> rfl), by repeat (first | (with_reducible first | exact HB.out | apply zab | apply zaa | apply zac | refine zaj ?_ GE109.out) | exact HB.out)⟩
 ·rw [if_neg c2] at H
  have c2b0 : (a0_0 == 1) = false := beq_eq_false_iff_ne.mpr c2
  have c2b1 : (a0_0 != 1) = true := bne_iff_ne.mpr c2
  by_cases c7 : a0_0 = 2
  ·rw [if_pos c7] at H
   have c7b0 : (a0_0 == 2) = true := beq_iff_eq.mpr c7
   have c7b1 : (a0_0 != 2) = false := bne_eq_false_iff_eq.mpr c7
   clear c7
   replace H := Option.bind_eq_some_iff.mp H
   obtain ⟨t112, A80, H⟩ := H
   replace H : (if t112 = true then (some 0) else (some 32)) = some r := H
   have A8 := zad.mk A80
   clear A80
   by_cases c9 : t112 = true
   ·subst c9
    have H1 : (some 0) = some r := by rw [if_pos rfl] at H; exact H
    clear H
    have H := H1
    clear H1
    obtain rfl := Option.some.inj H
    go_enter Tryz.func27, Tryz.ntmps27
    go_wp2_with (first | ((with_reducible refine zbw (N := 1) rfl ?_); (try (refine zbo (by rfl) ?_; dsimp only)); refine zby ?hg (N := 1) ?hd (cs := #[.int .u8 a0_0, .string a0_1, .int .i64 a0_2]) (t := 33) ?hr ?_; (case hd => rfl); (case hg => rfl); (case hr => first | (go_simp; done) | (go_simp; rfl)); intro gb109 hg w10 hbox hb; have n0_ := zad.mk (zah (by repeat (first | (with_reducible first | exact HB.out | apply zab | apply zaa | apply zac) | exact HB.out)) hb); have n1_ := zad.mk (hbox); have n2_ := zad.mk ((by rw [hg]; exact (zao (by repeat (first | (with_reducible first | exact HB.out | apply zab | apply zaa | apply zac) | exact HB.out))) : w.heap.size ≤ gb109)); have n3_ := zad.mk ((by rw [hg]; exact (zao (by repeat (first | (with_reducible first | exact HB.out | apply zab | apply zaa | apply zac) | exact HB.out))) : w.heap.size ≤ gb109)); clear HB; have HB := n0_; have BK109 := n1_; have GW109 := n2_; have GE109 := n3_; clear n0_ n1_ n2_ n3_; clear hb hbox hg; have hcz11_0 : w10.cell? ⟨gb109, 0, none⟩ = some (.int .u8 a0_0) := (zai BK109.out 0).trans rfl; have hcz11_1 : w10.cell? ⟨gb109, 1, none⟩ = some (.string a0_1) := (zai BK109.out 1).trans rfl; have hcz11_2 : w10.cell? ⟨gb109, 2, none⟩ = some (.int .i64 a0_2) := (zai BK109.out 2).trans rfl; have hfz11_0 := zaf BK109.out 0; have hfz11_1 := zaf BK109.out 1; have hfz11_2 := zaf BK109.out 2) | ((with_reducible refine zav (f := 42) rfl ?_); refine zbl (some 22) rfl rfl Tryz.func42 (by kernel_rfl) rfl #[.string a0_1] rfl (by (try simp only [List.map_toArray, List.map_cons, List.map_nil]); first | done | rfl | (simp only [List.length_drop, List.length_take]; rfl)) ?_; (with_reducible refine (zdh.calls a0_1 true _ ?side1 A8.out).mono ?_); (case side1 => exact Tabs.below hT (by repeat (first | (with_reducible first | exact HB.out | apply zab | apply zaa | apply zac | refine zaj ?_ GE109.out) | exact HB.out))); rintro e w12 ⟨rfl, hb⟩; refine ⟨_, rfl, ?_⟩; have n0_ := zad.mk (zbg (g := gb109) (o := .cells #[.int .u8 a0_0, .string a0_1, .int .i64 a0_2] 33 (0, 0)) (by (with_reducible repeat (first | refine zas ?_ _ | refine zat ?_ | refine zar ?_ _)); exact BK109.out) hb); have n1_ := zad.mk (zah (by repeat (first | (with_reducible first | exact HB.out | apply zab | apply zaa | apply zac | refine zaj ?_ GE109.out) | exact HB.out)) hb); clear BK109; clear HB; have BK109 := n0_; have HB := n1_; clear n0_ n1_; (try clear hb); (try clear hb2); (try clear hk); (try clear hi)))
    go_ret
    exact ⟨by first | rfl | (simp [zak, zal] <;> rfl) | (simp [*, zak, zal] <;> rfl), by repeat (first | (with_reducible first | exact HB.out | apply zab | apply zaa | apply zac | refine zaj ?_ GE109.out) | exact HB.out)⟩
   ·replace c9 := Bool.eq_false_iff.mpr c9
    subst c9
    have H1 : (some 32) = some r := by rw [if_neg (show ¬ (false = true) by decide)] at H; exact H
    clear H
    have H := H1
    clear H1
    obtain rfl := Option.some.inj H
    go_enter Tryz.func27, Tryz.ntmps27
    go_wp2_with (first | ((with_reducible refine zbw (N := 1) rfl ?_); (try (refine zbo (by rfl) ?_; dsimp only)); refine zby ?hg (N := 1) ?hd (cs := #[.int .u8 a0_0, .string a0_1, .int .i64 a0_2]) (t := 33) ?hr ?_; (case hd => rfl); (case hg => rfl); (case hr => first | (go_simp; done) | (go_simp; rfl)); intro gb109 hg w13 hbox hb; have n0_ := zad.mk (zah (by repeat (first | (with_reducible first | exact HB.out | apply zab | apply zaa | apply zac) | exact HB.out)) hb); have n1_ := zad.mk (hbox); have n2_ := zad.mk ((by rw [hg]; exact (zao (by repeat (first | (with_reducible first | exact HB.out | apply zab | apply zaa | apply zac) | exact HB.out))) : w.heap.size ≤ gb109)); have n3_ := zad.mk ((by rw [hg]; exact (zao (by repeat (first | (with_reducible first | exact HB.out | apply zab | apply zaa | apply zac) | exact HB.out))) : w.heap.size ≤ gb109)); clear HB; have HB := n0_; have BK109 := n1_; have GW109 := n2_; have GE109 := n3_; clear n0_ n1_ n2_ n3_; clear hb hbox hg; have hcz14_0 : w13.cell? ⟨gb109, 0, none⟩ = some (.int .u8 a0_0) := (zai BK109.out 0).trans rfl; have hcz14_1 : w13.cell? ⟨gb109, 1, none⟩ = some (.string a0_1) := (zai BK109.out 1).trans rfl; have hcz14_2 : w13.cell? ⟨gb109, 2, none⟩ = some (.int .i64 a0_2) := (zai BK109.out 2).trans rfl; have hfz14_0 := zaf BK109.out 0; have hfz14_1 := zaf BK109.out 1; have hfz14_2 := zaf BK109.out 2) | ((with_reducible refine zav (f := 42) rfl ?_); refine zbl (some 22) rfl rfl Tryz.func42 (by kernel_rfl) rfl #[.string a0_1] rfl (by (try simp only [List.map_toArray, List.map_cons, List.map_nil]); first | done | rfl | (simp only [List.length_drop, List.length_take]; rfl)) ?_; (with_reducible refine (zdh.calls a0_1 false _ ?side1 A8.out).mono ?_); (case side1 => exact Tabs.below hT (by repeat (first | (with_reducible first | exact HB.out | apply zab | apply zaa | apply zac | refine zaj ?_ GE109.out) | exact HB.out))); rintro e w15 ⟨rfl, hb⟩; refine ⟨_, rfl, ?_⟩; have n0_ := zad.mk (zbg (g := gb109) (o := .cells #[.int .u8 a0_0, .string a0_1, .int .i64 a0_2] 33 (0, 0)) (by (with_reducible repeat (first | refine zas ?_ _ | refine zat ?_ | refine zar ?_ _)); exact BK109.out) hb); have n1_ := zad.mk (zah (by repeat (first | (with_reducible first | exact HB.out | apply zab | apply zaa | apply zac | refine zaj ?_ GE109.out) | exact HB.out)) hb); clear BK109; clear HB; have BK109 := n0_; have HB := n1_; clear n0_ n1_; (try clear hb); (try clear hb2); (try clear hk); (try clear hi)))
    go_ret
    exact ⟨by first | rfl | (simp [zak, zal] <;> rfl) | (simp [*, zak, zal] <;> rfl), by repeat (first | (with_reducible first | exact HB.out | apply zab | apply zaa | apply zac | refine zaj ?_ GE109.out) | exact HB.out)⟩
  ·rw [if_neg c7] at H
   have c7b0 : (a0_0 == 2) = false := beq_eq_false_iff_ne.mpr c7
   have c7b1 : (a0_0 != 2) = true := bne_iff_ne.mpr c7
   by_cases c16 : a0_0 = 3
   ·rw [if_pos c16] at H
    have c16b0 : (a0_0 == 3) = true := beq_iff_eq.mpr c16
    have c16b1 : (a0_0 != 3) = false := bne_eq_false_iff_eq.mpr c16
    clear c16
    replace H := Option.bind_eq_some_iff.mp H
    obtain ⟨⟨t113, t114⟩, A170, H⟩ := H
    replace H : (if t114 = 0 then (if t113 > 0 then (za6.j0 k (t113 == (a0_1.size : Int))) else (za6.j0 k false)) else (za6.j0 k false)) = some r := H
    have A17 := zad.mk A170
    clear A170
    have HC18 := zad.mk H
    clear H
    go_enter Tryz.func27, Tryz.ntmps27
    go_upto_region 10 with (first | ((with_reducible refine zbw (N := 1) rfl ?_); (try (refine zbo (by rfl) ?_; dsimp only)); refine zby ?hg (N := 1) ?hd (cs := #[.int .u8 a0_0, .string a0_1, .int .i64 a0_2]) (t := 33) ?hr ?_; (case hd => rfl); (case hg => rfl); (case hr => first | (go_simp; done) | (go_simp; rfl)); intro gb109 hg w19 hbox hb; have n0_ := zad.mk (zah (by repeat (first | (with_reducible first | exact HB.out | apply zab | apply zaa | apply zac) | exact HB.out)) hb); have n1_ := zad.mk (hbox); have n2_ := zad.mk ((by rw [hg]; exact (zao (by repeat (first | (with_reducible first | exact HB.out | apply zab | apply zaa | apply zac) | exact HB.out))) : w.heap.size ≤ gb109)); have n3_ := zad.mk ((by rw [hg]; exact (zao (by repeat (first | (with_reducible first | exact HB.out | apply zab | apply zaa | apply zac) | exact HB.out))) : w.heap.size ≤ gb109)); clear HB; have HB := n0_; have BK109 := n1_; have GW109 := n2_; have GE109 := n3_; clear n0_ n1_ n2_ n3_; clear hb hbox hg; have hcz20_0 : w19.cell? ⟨gb109, 0, none⟩ = some (.int .u8 a0_0) := (zai BK109.out 0).trans rfl; have hcz20_1 : w19.cell? ⟨gb109, 1, none⟩ = some (.string a0_1) := (zai BK109.out 1).trans rfl; have hcz20_2 : w19.cell? ⟨gb109, 2, none⟩ = some (.int .i64 a0_2) := (zai BK109.out 2).trans rfl; have hfz20_0 := zaf BK109.out 0; have hfz20_1 := zaf BK109.out 1; have hfz20_2 := zaf BK109.out 2) | ((with_reducible refine zav (f := 40) rfl ?_); refine zbl (some 28) rfl rfl Tryz.func40 (by kernel_rfl) rfl #[.string a0_1, .int .i64 0] rfl (by (try simp only [List.map_toArray, List.map_cons, List.map_nil]); first | done | rfl | (simp only [List.length_drop, List.length_take]; rfl)) ?_; (with_reducible refine (zcf.calls a0_1 0 t113 t114 _ A17.out).mono ?_); rintro e w21 ⟨rfl, hb⟩; refine ⟨_, rfl, ?_⟩; have n0_ := zad.mk (zbg (g := gb109) (o := .cells #[.int .u8 a0_0, .string a0_1, .int .i64 a0_2] 33 (0, 0)) (by (with_reducible repeat (first | refine zas ?_ _ | refine zat ?_ | refine zar ?_ _)); exact BK109.out) hb); have n1_ := zad.mk (zah (by repeat (first | (with_reducible first | exact HB.out | apply zab | apply zaa | apply zac | refine zaj ?_ GE109.out) | exact HB.out)) hb); clear BK109; clear HB; have BK109 := n0_; have HB := n1_; clear n0_ n1_; (try clear hb); (try clear hb2); (try clear hk); (try clear hi)))
    (try simp only [Act.put, List.setIfInBounds_toArray, List.set_cons_zero, List.set_cons_succ])
    go_cut [43] (fun v43 wc => ∃ (kq : Nat) (x43_17 : Bool), v43 = .bool x43_17 ∧ zad (za6.j0 kq x43_17 = some r) ∧ zad (kq ≤ k) ∧ zad (wc.heap[gb109]? = some (.cells #[.int .u8 a0_0, .string a0_1, .int .i64 a0_2] 33 (0, 0))) ∧ zad (Below w.heap.size w wc))
    case first =>
     have H := HC18.out
     clear HC18
     by_cases c22 : t114 = 0
     ·rw [if_pos c22] at H
      have c22b0 : (t114 == 0) = true := beq_iff_eq.mpr c22
      have c22b1 : (t114 != 0) = false := bne_eq_false_iff_eq.mpr c22
      clear c22
      (first | rw [c22b0] | (simp only [i64_w, i32_w]; rw [c22b0]) | skip)
      by_cases c23 : t113 > 0
      ·rw [if_pos c23] at H
       have c23b0 : decide (0 < t113) = true := decide_eq_true c23
       clear c23
       have H' := zad.mk H
       clear H
       have hcz24_0 : w21.cell? ⟨gb109, 0, none⟩ = some (.int .u8 a0_0) := (zai BK109.out 0).trans rfl
       have hcz24_1 : w21.cell? ⟨gb109, 1, none⟩ = some (.string a0_1) := (zai BK109.out 1).trans rfl
       have hcz24_2 : w21.cell? ⟨gb109, 2, none⟩ = some (.int .i64 a0_2) := (zai BK109.out 2).trans rfl
       have hfz24_0 := zaf BK109.out 0
       have hfz24_1 := zaf BK109.out 1
       have hfz24_2 := zaf BK109.out 2
       go_wp2
       go_meet
       case rel => exact ⟨_, ((t113 == (a0_1.size : Int))), (by first | rfl | (simp; done) | (simp [*]; done)), H', ⟨by first | omega | exact Nat.le_refl _⟩, ⟨by (with_reducible repeat (first | refine zas ?_ _ | refine zat ?_ | refine zar ?_ _)); exact BK109.out⟩, ⟨by repeat (first | (with_reducible first | exact HB.out | apply zab | apply zaa | apply zac | refine zaj ?_ GE109.out) | exact HB.out)⟩⟩
      ·rw [if_neg c23] at H
       have c23b0 : decide (0 < t113) = false := decide_eq_false c23
       clear c23
       have H' := zad.mk H
       clear H
       go_wp2
       go_meet
       case rel => exact ⟨_, (false), (by first | rfl | (simp; done) | (simp [*]; done)), H', ⟨by first | omega | exact Nat.le_refl _⟩, ⟨by (with_reducible repeat (first | refine zas ?_ _ | refine zat ?_ | refine zar ?_ _)); exact BK109.out⟩, ⟨by repeat (first | (with_reducible first | exact HB.out | apply zab | apply zaa | apply zac | refine zaj ?_ GE109.out) | exact HB.out)⟩⟩
     ·rw [if_neg c22] at H
      have c22b0 : (t114 == 0) = false := beq_eq_false_iff_ne.mpr c22
      have c22b1 : (t114 != 0) = true := bne_iff_ne.mpr c22
      (first | rw [c22b0] | (simp only [i64_w, i32_w]; rw [c22b0]) | skip)
      have H' := zad.mk H
      clear H
      go_wp2
      go_meet
      case rel => exact ⟨_, (false), (by first | rfl | (simp; done) | (simp [*]; done)), H', ⟨by first | omega | exact Nat.le_refl _⟩, ⟨by (with_reducible repeat (first | refine zas ?_ _ | refine zat ?_ | refine zar ?_ _)); exact BK109.out⟩, ⟨by repeat (first | (with_reducible first | exact HB.out | apply zab | apply zaa | apply zac | refine zaj ?_ GE109.out) | exact HB.out)⟩⟩
    case rest =>
     clear HC18
     try clear c1
     try clear c2
     try clear c2b0
     try clear c2b1
     try clear p2
     try clear c4
     try clear c7
     try clear c7b0
     try clear c7b1
     try clear c9
     try clear c16
     try clear c16b0
     try clear c16b1
     try clear c22
     try clear c22b0
     try clear c22b1
     try clear c23
     try clear c23b0
     try clear hcz11_0
     try clear hcz11_1
     try clear hcz11_2
     try clear hcz14_0
     try clear hcz14_1
     try clear hcz14_2
     try clear hcz20_0
     try clear hcz20_1
     try clear hcz20_2
     try clear hcz24_0
     try clear hcz24_1
     try clear hcz24_2
     try clear hcz5_0
     try clear hcz5_1
     try clear hcz5_2
     try clear hfz11_0
     try clear hfz11_1
     try clear hfz11_2
     try clear hfz14_0
     try clear hfz14_1
     try clear hfz14_2
     try clear hfz20_0
     try clear hfz20_1
     try clear hfz20_2
     try clear hfz24_0
     try clear hfz24_1
     try clear hfz24_2
     try clear hfz5_0
     try clear hfz5_1
     try clear hfz5_2
     obtain ⟨kq, x43_17, rfl, HA, HJ17, BK109, HB⟩ := hcut
     cases kq with
     | zero => exact absurd HA.out (by simp [za6.j0])
     | succ kj17 =>
      have H := HA.out
      clear HA
      simp only [za6.j0] at H
      by_cases c25 : x43_17 = true
      ·subst c25
       have H1 : (some 0) = some r := by rw [if_pos rfl] at H; exact H
       clear H
       have H := H1
       clear H1
       obtain rfl := Option.some.inj H
       go_wp2
       go_ret
       exact ⟨by first | rfl | (simp [zak, zal] <;> rfl) | (simp [*, zak, zal] <;> rfl), by repeat (first | (with_reducible first | exact HB.out | apply zab | apply zaa | apply zac | refine zaj ?_ GE109.out) | exact HB.out)⟩
      ·replace c25 := Bool.eq_false_iff.mpr c25
       subst c25
       have H1 : (some 32) = some r := by rw [if_neg (show ¬ (false = true) by decide)] at H; exact H
       clear H
       have H := H1
       clear H1
       obtain rfl := Option.some.inj H
       go_wp2
       go_ret
       exact ⟨by first | rfl | (simp [zak, zal] <;> rfl) | (simp [*, zak, zal] <;> rfl), by repeat (first | (with_reducible first | exact HB.out | apply zab | apply zaa | apply zac | refine zaj ?_ GE109.out) | exact HB.out)⟩
   ·rw [if_neg c16] at H
    have c16b0 : (a0_0 == 3) = false := beq_eq_false_iff_ne.mpr c16
    have c16b1 : (a0_0 != 3) = true := bne_iff_ne.mpr c16
    obtain rfl := Option.some.inj H
    go_enter Tryz.func27, Tryz.ntmps27
    go_wp2_with (first | ((with_reducible refine zbw (N := 1) rfl ?_); (try (refine zbo (by rfl) ?_; dsimp only)); refine zby ?hg (N := 1) ?hd (cs := #[.int .u8 a0_0, .string a0_1, .int .i64 a0_2]) (t := 33) ?hr ?_; (case hd => rfl); (case hg => rfl); (case hr => first | (go_simp; done) | (go_simp; rfl)); intro gb109 hg w26 hbox hb; have n0_ := zad.mk (zah (by repeat (first | (with_reducible first | exact HB.out | apply zab | apply zaa | apply zac) | exact HB.out)) hb); have n1_ := zad.mk (hbox); have n2_ := zad.mk ((by rw [hg]; exact (zao (by repeat (first | (with_reducible first | exact HB.out | apply zab | apply zaa | apply zac) | exact HB.out))) : w.heap.size ≤ gb109)); have n3_ := zad.mk ((by rw [hg]; exact (zao (by repeat (first | (with_reducible first | exact HB.out | apply zab | apply zaa | apply zac) | exact HB.out))) : w.heap.size ≤ gb109)); clear HB; have HB := n0_; have BK109 := n1_; have GW109 := n2_; have GE109 := n3_; clear n0_ n1_ n2_ n3_; clear hb hbox hg; have hcz27_0 : w26.cell? ⟨gb109, 0, none⟩ = some (.int .u8 a0_0) := (zai BK109.out 0).trans rfl; have hcz27_1 : w26.cell? ⟨gb109, 1, none⟩ = some (.string a0_1) := (zai BK109.out 1).trans rfl; have hcz27_2 : w26.cell? ⟨gb109, 2, none⟩ = some (.int .i64 a0_2) := (zai BK109.out 2).trans rfl; have hfz27_0 := zaf BK109.out 0; have hfz27_1 := zaf BK109.out 1; have hfz27_2 := zaf BK109.out 2))
    go_ret
    exact ⟨by first | rfl | (simp [zak, zal] <;> rfl) | (simp [*, zak, zal] <;> rfl), by repeat (first | (with_reducible first | exact HB.out | apply zab | apply zaa | apply zac | refine zaj ?_ GE109.out) | exact HB.out)⟩
def zbe.l0 : Nat → ByteArray → List (S33) → Int → Option ((List (S33)) × Int × Int)
  | 0, _, _, _ => none
  | k + 1, x0, x5, x6 => if x6 < (x0.size : Int) then (if 0 ≤ x6 then ((zbz.f (bt x0 x6)).bind fun t115 => (if t115 = 1 then (zbe.l0 k x0 x5 (wrap64 (x6 + 1))) else (if (x5.length : Int) = 200 then (some (([] : List (S33)), x6, 4)) else (if x6 ≤ (x0.size : Int) then ((zb9.f k (x0.extract (x6 : Int).toNat x0.size)).bind fun bt116 => ((za6.f k bt116.1 bt116.2.1 x6).bind fun t120 => (if t120 = 0 then (if x5.length < 4398046511104 then (zbe.l0 k x0 (x5 ++ [(⟨bt116.1, bt116.2.1, x6⟩ : S33)]) (wrap64 (x6 + (bt116.2.1.size : Int)))) else (none)) else (some (([] : List (S33)), x6, t120))))) else (none))))) else (none)) else (some (x5, (x0.size : Int), 0))
def zbe.f (k : Nat) (a0 : ByteArray) : Option ((List (S33)) × Int × Int) := if (a0.size : Int) > 400 then (some (([] : List (S33)), 0, 4)) else (zbe.l0 k a0 ([] : List (S33)) 0)
theorem zbe.zdo : ∀ k, (∀ y0 y1 y2, LeO (zbe.l0 k y0 y1 y2) (zbe.l0 (k + 1) y0 y1 y2))
  | 0 => fun _ _ _ r h => by simp [zbe.l0] at h
  | k + 1 => by
    have ih0 := zbe.zdo k
    · intro y0 y1 y2
      unfold zbe.l0
      repeat' first
      | (with_reducible exact ih0 _ _ _)
      | (with_reducible exact za6.mono _ _ _ _)
      | (with_reducible exact zb9.mono _ _)
      | (with_reducible exact LeO.refl _)
      | (with_reducible exact LeO.none _)
      | (with_reducible refine LeO.ite ?_ ?_)
      | (with_reducible refine LeO.bind ?_ (fun _ => ?_))
      | exact ih0 _ _ _
      | exact za6.mono _ _ _ _
      | exact zb9.mono _ _
      | exact LeO.none _
      | refine LeO.ite ?_ ?_
      | refine LeO.bind ?_ (fun _ => ?_)
theorem zbe.mono : ∀ a0 k, LeO (zbe.f k a0) (zbe.f (k + 1) a0) := by
  intro a0 k
  have ih0 := zbe.zdo k
  unfold zbe.f
  repeat' first
      | (with_reducible exact ih0 _ _ _)
      | (with_reducible exact za6.mono _ _ _ _)
      | (with_reducible exact zb9.mono _ _)
      | (with_reducible exact LeO.refl _)
      | (with_reducible exact LeO.none _)
      | (with_reducible refine LeO.ite ?_ ?_)
      | (with_reducible refine LeO.bind ?_ (fun _ => ?_))
      | exact ih0 _ _ _
      | exact za6.mono _ _ _ _
      | exact zb9.mono _ _
      | exact LeO.none _
      | refine LeO.ite ?_ ?_
      | refine LeO.bind ?_ (fun _ => ?_)
set_option maxHeartbeats 8000000 in
set_option maxRecDepth 100000 in
theorem zbe.calls (k : Nat) (a0 : ByteArray) (r1 : List (S33)) (r2 : Int) (r3 : Int) (w : World) (hT : Tabs w) (h : zbe.f k a0 = some (r1, r2, r3)) :
 Calls Tryz.prog 9 #[.string a0] w fun e w' => ∃ v0_ : Value, e = .returned (.tuple #[v0_, .int .i64 r2, .int .i64 r3]) ∧ Kd.R k33 33 w' w.heap.size (fun _ => True) v0_ r1 ∧ Below w.heap.size w w' := by
 have hu33 := Tryz.underlying33
 have HB := zad.mk (Below.refl w.heap.size w)
 have H : (if (a0.size : Int) > 400 then (some (([] : List (S33)), 0, 4)) else (zbe.l0 k a0 ([] : List (S33)) 0)) = some (r1, r2, r3) := h
 clear h
 by_cases c2 : (a0.size : Int) > 400
 ·rw [if_pos c2] at H
  have c2b0 : decide (400 < (a0.size : Int)) = true := decide_eq_true c2
  have c2b1 : decide (400 < a0.size) = true := decide_eq_true (by omega)
  clear c2
  simp only [Option.some.injEq, Prod.mk.injEq] at H
  obtain ⟨rfl, rfl, rfl⟩ := H
  go_enter Tryz.func9, Tryz.ntmps9
  go_wp2
  go_ret3
  exact ⟨_, by first | rfl | (simp [zak, zal] <;> rfl) | (simp [*, zak, zal] <;> rfl), by first | exact Kd.R_nil _ _ _ _ _ | exact Kd.N_nil _ _ _ _ _ | exact Kd.V_nil _ _ _ _ _ | exact Kd.Q_nil _ _ _ _ _ | exact Kd.S_nil _ _ _ _ _, by repeat (first | (with_reducible first | exact HB.out | apply zab | apply zaa | apply zac) | exact HB.out)⟩
 ·rw [if_neg c2] at H
  have c2b0 : decide (400 < (a0.size : Int)) = false := decide_eq_false c2
  have c2b1 : decide (400 < a0.size) = false := decide_eq_false (by omega)
  clear c2
  have H' := zad.mk H
  clear H
  go_enter Tryz.func9, Tryz.ntmps9
  go_wp2
  go_loopg [5, 6] k (fun kq v5 v6 w' => ∃ (x5_1 : List (S33)) (x6_1 : Int), v6 = .int .i64 x6_1 ∧ zad (zbe.l0 kq a0 x5_1 x6_1 = some (r1, r2, r3)) ∧ zad (kq ≤ k) ∧ zad (Kd.R k33 33 w' w.heap.size (fun _ => True) v5 x5_1) ∧ zad (Below w.heap.size w w'))
  case atStart => exact ⟨(([] : List (S33))), (0), (by first | rfl | (simp; done) | (simp [*]; done)), H', ⟨Nat.le_refl _⟩, ⟨by first | exact Kd.R_nil _ _ _ _ _ | exact Kd.N_nil _ _ _ _ _ | exact Kd.V_nil _ _ _ _ _ | exact Kd.Q_nil _ _ _ _ _ | exact Kd.S_nil _ _ _ _ _⟩, ⟨by repeat (first | (with_reducible first | exact HB.out | apply zab | apply zaa | apply zac) | exact HB.out)⟩⟩
  case round =>
   clear H'
   try clear c2
   try clear c2b0
   try clear c2b1
   try clear p2
   obtain ⟨x5_1, x6_1, rfl, HA, HK1, HO_5, HB⟩ := hrel
   cases gk with
   | zero => exact absurd HA.out (by simp [zbe.l0])
   | succ k1 =>
    have H := HA.out
    clear HA
    simp only [zbe.l0] at H
    by_cases c3 : x6_1 < (a0.size : Int)
    ·rw [if_pos c3] at H
     have c3b0 : decide (x6_1 < (a0.size : Int)) = true := decide_eq_true c3
     clear c3
     by_cases c4 : 0 ≤ x6_1
     ·rw [if_pos c4] at H
      have c4b0 : decide (0 ≤ x6_1) = true := decide_eq_true c4
      clear c4
      replace H := Option.bind_eq_some_iff.mp H
      obtain ⟨t115, A60, H⟩ := H
      replace H : (if t115 = 1 then (zbe.l0 k1 a0 x5_1 (wrap64 (x6_1 + 1))) else (if (x5_1.length : Int) = 200 then (some (([] : List (S33)), x6_1, 4)) else (if x6_1 ≤ (a0.size : Int) then ((zb9.f k1 (a0.extract (x6_1 : Int).toNat a0.size)).bind fun bt116 => ((za6.f k1 bt116.1 bt116.2.1 x6_1).bind fun t120 => (if t120 = 0 then (if x5_1.length < 4398046511104 then (zbe.l0 k1 a0 (x5_1 ++ [(⟨bt116.1, bt116.2.1, x6_1⟩ : S33)]) (wrap64 (x6_1 + (bt116.2.1.size : Int)))) else (none)) else (some (([] : List (S33)), x6_1, t120))))) else (none)))) = some (r1, r2, r3) := H
      have A6 := zad.mk A60
      clear A60
      by_cases c7 : t115 = 1
      ·rw [if_pos c7] at H
       have c7b0 : (t115 == 1) = true := beq_iff_eq.mpr c7
       have c7b1 : (t115 != 1) = false := bne_eq_false_iff_eq.mpr c7
       clear c7
       have H' := zad.mk H
       clear H
       have p5 : 0 ≤ (x6_1 : Int) := of_decide_eq_true (by first | (with_reducible assumption) | assumption)
       have q5 : x6_1 < (a0.size : Int) := of_decide_eq_true (by first | (with_reducible assumption) | assumption)
       have hx5 := bt_at a0 x6_1
       replace p5 := eq_true p5
       replace q5 := eq_true q5
       go_wp2_with (first | ((with_reducible refine zav (f := 25) rfl ?_); refine zbl (some 19) rfl rfl Tryz.func25 (by kernel_rfl) rfl #[.int .u8 (bt a0 x6_1)] rfl (by (try simp only [List.map_toArray, List.map_cons, List.map_nil]); first | done | rfl | (simp only [List.length_drop, List.length_take]; rfl)) ?_; (with_reducible refine (zbz.calls (bt a0 x6_1) t115 _ A6.out).mono ?_); rintro e w8 ⟨rfl, hb⟩; refine ⟨_, rfl, ?_⟩; have n0_ := zad.mk (Kd.zbk (by (with_reducible repeat (first | apply Kd.zan | apply Kd.zaq | apply Kd.zaw)); exact HO_5.out) hb); have n1_ := zad.mk (zah (by repeat (first | (with_reducible first | exact HB.out | apply zab | apply zaa | apply zac) | exact HB.out)) hb); clear HO_5; clear HB; have HO_5 := n0_; have HB := n1_; clear n0_ n1_; (try clear hb); (try clear hb2); (try clear hk); (try clear hi)))
       go_roundg k1
       case measure => have := HK1.out; omega
       case rel => exact ⟨(x5_1), (wrap64 (x6_1 + 1)), (by first | rfl | (simp; done) | (simp [*]; done)), H', ⟨by have := HK1.out; omega⟩, ⟨by (with_reducible repeat (first | apply Kd.zan | apply Kd.zaq | apply Kd.zaw)); exact HO_5.out⟩, ⟨by repeat (first | (with_reducible first | exact HB.out | apply zab | apply zaa | apply zac) | exact HB.out)⟩⟩
      ·rw [if_neg c7] at H
       have c7b0 : (t115 == 1) = false := beq_eq_false_iff_ne.mpr c7
       have c7b1 : (t115 != 1) = true := bne_iff_ne.mpr c7
       by_cases c9 : (x5_1.length : Int) = 200
       ·rw [if_pos c9] at H
        have c9b0 : ((x5_1.length : Int) == 200) = true := beq_iff_eq.mpr c9
        have c9b1 : ((x5_1.length : Int) != 200) = false := bne_eq_false_iff_eq.mpr c9
        clear c9
        simp only [Option.some.injEq, Prod.mk.injEq] at H
        obtain ⟨rfl, rfl, rfl⟩ := H
        have p5 : 0 ≤ (x6_1 : Int) := of_decide_eq_true (by first | (with_reducible assumption) | assumption)
        have q5 : x6_1 < (a0.size : Int) := of_decide_eq_true (by first | (with_reducible assumption) | assumption)
        have hx5 := bt_at a0 x6_1
        replace p5 := eq_true p5
        replace q5 := eq_true q5
        go_wp2_with (first | ((with_reducible refine zav (f := 25) rfl ?_); refine zbl (some 19) rfl rfl Tryz.func25 (by kernel_rfl) rfl #[.int .u8 (bt a0 x6_1)] rfl (by (try simp only [List.map_toArray, List.map_cons, List.map_nil]); first | done | rfl | (simp only [List.length_drop, List.length_take]; rfl)) ?_; (with_reducible refine (zbz.calls (bt a0 x6_1) t115 _ A6.out).mono ?_); rintro e w10 ⟨rfl, hb⟩; refine ⟨_, rfl, ?_⟩; have n0_ := zad.mk (Kd.zbk (by (with_reducible repeat (first | apply Kd.zan | apply Kd.zaq | apply Kd.zaw)); exact HO_5.out) hb); have n1_ := zad.mk (zah (by repeat (first | (with_reducible first | exact HB.out | apply zab | apply zaa | apply zac) | exact HB.out)) hb); clear HO_5; clear HB; have HO_5 := n0_; have HB := n1_; clear n0_ n1_; (try clear hb); (try clear hb2); (try clear hk); (try clear hi); obtain ⟨Ao11, co11, eo11⟩ := Kd.zbm HO_5.out; subst eo11))
        go_ret3
        exact ⟨_, by first | rfl | (simp [zak, zal] <;> rfl) | (simp [*, zak, zal] <;> rfl), by first | exact Kd.R_nil _ _ _ _ _ | exact Kd.N_nil _ _ _ _ _ | exact Kd.V_nil _ _ _ _ _ | exact Kd.Q_nil _ _ _ _ _ | exact Kd.S_nil _ _ _ _ _, by repeat (first | (with_reducible first | exact HB.out | apply zab | apply zaa | apply zac) | exact HB.out)⟩
       ·rw [if_neg c9] at H
        have c9b0 : ((x5_1.length : Int) == 200) = false := beq_eq_false_iff_ne.mpr c9
        have c9b1 : ((x5_1.length : Int) != 200) = true := bne_iff_ne.mpr c9
        have c12b0 := eq_true (of_decide_eq_true (by first | (with_reducible assumption) | assumption) : 0 ≤ x6_1)
        by_cases c13 : x6_1 ≤ (a0.size : Int)
        ·rw [if_pos c13] at H
         have c13b0 := eq_true c13
         have c13b1 : decide (x6_1 ≤ (a0.size : Int)) = true := decide_eq_true c13
         clear c13
         replace H := Option.bind_eq_some_iff.mp H
         obtain ⟨⟨t116, t117, t118⟩, A140, H⟩ := H
         replace H : ((za6.f k1 t116 t117 x6_1).bind fun t120 => (if t120 = 0 then (if x5_1.length < 4398046511104 then (zbe.l0 k1 a0 (x5_1 ++ [(⟨t116, t117, x6_1⟩ : S33)]) (wrap64 (x6_1 + (t117.size : Int)))) else (none)) else (some (([] : List (S33)), x6_1, t120)))) = some (r1, r2, r3) := H
         have A14 := zad.mk A140
         clear A140
         replace H := Option.bind_eq_some_iff.mp H
         obtain ⟨t120, A150, H⟩ := H
         replace H : (if t120 = 0 then (if x5_1.length < 4398046511104 then (zbe.l0 k1 a0 (x5_1 ++ [(⟨t116, t117, x6_1⟩ : S33)]) (wrap64 (x6_1 + (t117.size : Int)))) else (none)) else (some (([] : List (S33)), x6_1, t120))) = some (r1, r2, r3) := H
         have A15 := zad.mk A150
         clear A150
         by_cases c16 : t120 = 0
         ·rw [if_pos c16] at H
          have c16b0 : (t120 == 0) = true := beq_iff_eq.mpr c16
          have c16b1 : (t120 != 0) = false := bne_eq_false_iff_eq.mpr c16
          clear c16
          by_cases c17 : x5_1.length < 4398046511104
          ·rw [if_pos c17] at H
           have LMc17 := zad.mk c17
           clear c17
           obtain ⟨y121, hy121⟩ : ∃ y_ : List (S33), y_ = (x5_1 ++ [(⟨t116, t117, x6_1⟩ : S33)]) := ⟨_, rfl⟩
           replace H : (zbe.l0 k1 a0 y121 (wrap64 (x6_1 + (t117.size : Int)))) = some (r1, r2, r3) := by first | (rw [hy121]; with_reducible exact H) | (have H2_ := (Option.bind_some _ _).symm.trans H; rw [hy121]; with_reducible exact H2_) | (have H2_ := (Option.bind_some _ _).symm.trans H; with_reducible exact H2_) | with_reducible exact H | (rw [hy121]; exact H) | exact H
           have Ny121 := zad.mk hy121
           clear hy121
           have H' := zad.mk H
           clear H
           have p5 : 0 ≤ (x6_1 : Int) := of_decide_eq_true (by first | (with_reducible assumption) | assumption)
           have q5 : x6_1 < (a0.size : Int) := of_decide_eq_true (by first | (with_reducible assumption) | assumption)
           have hx5 := bt_at a0 x6_1
           replace p5 := eq_true p5
           replace q5 := eq_true q5
           go_wp2_with (first | ((fail_if_success (have := hcsx)); (with_reducible refine zbw (N := 33) rfl ?_); refine with_fact (p := ⟨gb119, 2, none⟩) (v := .int .i64 x6_1) ((World.cell?_setCell_same _ _ _ (World.cell?_setCell_same _ _ _ ((World.cell?_setCell_other _ _ _ _ (by simp)).trans ((World.cell?_setCell_other _ _ _ _ (by simp)).trans hcz22_2))))) ?_; intro hcsx) | ((with_reducible refine zav (f := 25) rfl ?_); refine zbl (some 19) rfl rfl Tryz.func25 (by kernel_rfl) rfl #[.int .u8 (bt a0 x6_1)] rfl (by (try simp only [List.map_toArray, List.map_cons, List.map_nil]); first | done | rfl | (simp only [List.length_drop, List.length_take]; rfl)) ?_; (with_reducible refine (zbz.calls (bt a0 x6_1) t115 _ A6.out).mono ?_); rintro e w18 ⟨rfl, hb⟩; refine ⟨_, rfl, ?_⟩; have n0_ := zad.mk (Kd.zbk (by (with_reducible repeat (first | apply Kd.zan | apply Kd.zaq | apply Kd.zaw)); exact HO_5.out) hb); have n1_ := zad.mk (zah (by repeat (first | (with_reducible first | exact HB.out | apply zab | apply zaa | apply zac) | exact HB.out)) hb); clear HO_5; clear HB; have HO_5 := n0_; have HB := n1_; clear n0_ n1_; (try clear hb); (try clear hb2); (try clear hk); (try clear hi); obtain ⟨Ao19, co19, eo19⟩ := Kd.zbm HO_5.out; subst eo19) | ((with_reducible refine zav (f := 26) rfl ?_); refine zbl (some 30) rfl rfl Tryz.func26 (by kernel_rfl) rfl #[.string (a0.extract (x6_1 : Int).toNat a0.size)] rfl (by (try simp only [List.map_toArray, List.map_cons, List.map_nil]); first | done | rfl | (simp only [List.length_drop, List.length_take]; rfl)) ?_; (with_reducible refine (zb9.calls k1 (a0.extract (x6_1 : Int).toNat a0.size) t116 t117 t118 _ A14.out).mono ?_); rintro e w20 ⟨rfl, hb⟩; refine ⟨_, rfl, ?_⟩; have n0_ := zad.mk (Kd.zbk (by (with_reducible repeat (first | apply Kd.zan | apply Kd.zaq | apply Kd.zaw)); exact HO_5.out) hb); have n1_ := zad.mk (zah (by repeat (first | (with_reducible first | exact HB.out | apply zab | apply zaa | apply zac) | exact HB.out)) hb); clear HO_5; clear HB; have HO_5 := n0_; have HB := n1_; clear n0_ n1_; (try clear hb); (try clear hb2); (try clear hk); (try clear hi)) | ((with_reducible refine zbw (N := 7) rfl ?_); refine zby ?hg (N := 7) ?hd (cs := #[.int .u8 0, .string (⟨#[]⟩ : ByteArray), .int .i64 0]) (t := 33) ?hr ?_; (case hd => rfl); (case hg => rfl); (case hr => first | (go_simp; done) | (go_simp; rfl)); intro gb119 hg w21 hbox hb; have n0_ := zad.mk (Kd.zbk (Kd.R_elderB (by (with_reducible repeat (first | apply Kd.zan | apply Kd.zaq | apply Kd.zaw)); exact HO_5.out) gb119 (Nat.le_of_eq hg.symm)) hb); have n1_ := zad.mk (zah (by repeat (first | (with_reducible first | exact HB.out | apply zab | apply zaa | apply zac) | exact HB.out)) hb); have n2_ := zad.mk (hbox); have n3_ := zad.mk ((by rw [hg]; exact (zao (by repeat (first | (with_reducible first | exact HB.out | apply zab | apply zaa | apply zac) | exact HB.out))) : w.heap.size ≤ gb119)); have n4_ := zad.mk ((by rw [hg]; exact (zao (by repeat (first | (with_reducible first | exact HB.out | apply zab | apply zaa | apply zac) | exact HB.out))) : w.heap.size ≤ gb119)); clear HO_5; clear HB; have HO_5 := n0_; have HB := n1_; have BK119 := n2_; have GW119 := n3_; have GE119 := n4_; clear n0_ n1_ n2_ n3_ n4_; clear hb hbox hg; have hcz22_0 : w21.cell? ⟨gb119, 0, none⟩ = some (.int .u8 0) := (zai BK119.out 0).trans rfl; have hcz22_1 : w21.cell? ⟨gb119, 1, none⟩ = some (.string (⟨#[]⟩ : ByteArray)) := (zai BK119.out 1).trans rfl; have hcz22_2 : w21.cell? ⟨gb119, 2, none⟩ = some (.int .i64 0) := (zai BK119.out 2).trans rfl; have hfz22_0 := zaf BK119.out 0; have hfz22_1 := zaf BK119.out 1; have hfz22_2 := zaf BK119.out 2) | ((with_reducible refine zav (f := 27) rfl ?_); refine zbl (some 34) rfl rfl Tryz.func27 (by kernel_rfl) rfl #[.agg #[.int .u8 t116, .string t117, .int .i64 x6_1]] rfl (by (try simp only [List.map_toArray, List.map_cons, List.map_nil]); first | done | rfl | (simp only [List.length_drop, List.length_take]; rfl)) ?_; (with_reducible refine (za6.calls k1 t116 t117 x6_1 t120 _ ?side1 A15.out).mono ?_); (case side1 => exact Tabs.below hT (by repeat (first | (with_reducible first | exact HB.out | apply zab | apply zaa | apply zac | refine zaj ?_ GE119.out) | exact HB.out))); rintro e w23 ⟨rfl, hb⟩; refine ⟨_, rfl, ?_⟩; have n0_ := zad.mk (Kd.zbk (by (with_reducible repeat (first | apply Kd.zan | apply Kd.zaq | apply Kd.zaw)); exact (Kd.zbr (Kd.R_far (p := ⟨gb119, 2, none⟩) (Kd.R_far (p := ⟨gb119, 2, none⟩) (Kd.R_far (p := ⟨gb119, 1, none⟩) (Kd.R_far (p := ⟨gb119, 0, none⟩) (Kd.zbr HO_5.out (fun k_ hk => (⟨hk, hk.2⟩ : _ ∧ k_ ≠ gb119))) (fun _ hk => hk.2) (.int .u8 t116)) (fun _ hk => hk.2) (.string t117)) (fun _ hk => hk.2) (.int .i64 t118)) (fun _ hk => hk.2) (.int .i64 x6_1)) (fun _ h_ => h_.1))) hb); have n1_ := zad.mk (zbg (g := gb119) (o := .cells #[.int .u8 t116, .string t117, .int .i64 x6_1] 33 (0, 0)) (by (with_reducible repeat (first | refine zas ?_ _ | refine zat ?_ | refine zar ?_ _)); refine zcc (cs := #[.int .u8 t116, .string t117, .int .i64 t118]) ?_ 2 _ rfl; (with_reducible repeat (first | refine zas ?_ _ | refine zat ?_ | refine zar ?_ _)); refine zcc (cs := #[.int .u8 t116, .string t117, .int .i64 0]) ?_ 2 _ rfl; (with_reducible repeat (first | refine zas ?_ _ | refine zat ?_ | refine zar ?_ _)); refine zcc (cs := #[.int .u8 t116, .string (⟨#[]⟩ : ByteArray), .int .i64 0]) ?_ 1 _ rfl; (with_reducible repeat (first | refine zas ?_ _ | refine zat ?_ | refine zar ?_ _)); refine zcc (cs := #[.int .u8 0, .string (⟨#[]⟩ : ByteArray), .int .i64 0]) ?_ 0 _ rfl; (with_reducible repeat (first | refine zas ?_ _ | refine zat ?_ | refine zar ?_ _)); exact BK119.out) hb); have n2_ := zad.mk (zah (by repeat (first | (with_reducible first | exact HB.out | apply zab | apply zaa | apply zac | refine zaj ?_ GE119.out) | exact HB.out)) hb); clear HO_5; clear BK119; clear HB; have HO_5 := n0_; have BK119 := n1_; have HB := n2_; clear n0_ n1_ n2_; (try clear hb); (try clear hb2); (try clear hk); (try clear hi); have hcz24_0 : w23.cell? ⟨gb119, 0, none⟩ = some (.int .u8 t116) := (zai BK119.out 0).trans rfl; have hcz24_1 : w23.cell? ⟨gb119, 1, none⟩ = some (.string t117) := (zai BK119.out 1).trans rfl; have hcz24_2 : w23.cell? ⟨gb119, 2, none⟩ = some (.int .i64 x6_1) := (zai BK119.out 2).trans rfl; have hfz24_0 := zaf BK119.out 0; have hfz24_1 := zaf BK119.out 1; have hfz24_2 := zaf BK119.out 2) | ((with_reducible refine zbb (b := .append) (xs := #[.tmp 39, .tmp 41]) rfl ?_); at_builtin; refine Kd.zb6 k33 (w0 := w) w.heap.size rfl (.tmp 39) (.tmp 41) 25 33 (.agg #[(.int .u8 0), (.string ⟨#[]⟩), (.int .i64 0)]) 32 rfl Tryz.underlying25 info33 rfl (by decide) (by omega) (.slice Ao19 x5_1.length co19) x5_1 (⟨t116, t117, x6_1⟩ : S33) [.int .u8 t116, .string t117, .int .i64 x6_1] (fun k_ => k_ ≠ gb119) (fun _ => False) rfl rfl ?aP (fun _ hk => hk.elim) ?aF ?aO ?aB ?aS ?aL ?_; (case aP => exact k33_mkM _ _ _ (⟨t116, t117, x6_1⟩ : S33)); (case aB => exact (by repeat (first | (with_reducible first | exact HB.out | apply zab | apply zaa | apply zac | refine zaj ?_ GE119.out) | exact HB.out))); (case aF => exact (fun k_ hk => Kd.freshB (g := gb119) (o := .cells #[.int .u8 t116, .string t117, .int .i64 x6_1] 33 (0, 0)) (by (with_reducible repeat (first | refine zas ?_ _ | refine zat ?_ | refine zar ?_ _)); exact BK119.out) k_ hk)); (case aO => exact (by (with_reducible repeat (first | apply Kd.zan | apply Kd.zaq | apply Kd.zaw)); exact Kd.zbr HO_5.out (fun _ hk => hk.2))); (case aS => exact (zao (by repeat (first | (with_reducible first | exact HB.out | apply zab | apply zaa | apply zac | refine zaj ?_ GE119.out) | exact HB.out)))); (case aL => have := LMc17.out; omega); intro v122 w25 ho hb hg hat; rw [← Ny121.out] at ho; have n0_ := zad.mk (zb5 (g := gb119) (o := .cells #[.int .u8 t116, .string t117, .int .i64 x6_1] 33 (0, 0)) (by (with_reducible repeat (first | refine zas ?_ _ | refine zat ?_ | refine zar ?_ _)); exact BK119.out) hg (Kd.zdz HO_5.out (fun _ hk => hk.2))); have n1_ := zad.mk (hb); have n2_ := zad.mk (ho); clear BK119; clear HB; clear HO_5; have BK119 := n0_; have HB := n1_; have HO123 := n2_; clear n0_ n1_ n2_; clear ho hb hg hat; have hcz26_0 : w25.cell? ⟨gb119, 0, none⟩ = some (.int .u8 t116) := (zai BK119.out 0).trans rfl; have hcz26_1 : w25.cell? ⟨gb119, 1, none⟩ = some (.string t117) := (zai BK119.out 1).trans rfl; have hcz26_2 : w25.cell? ⟨gb119, 2, none⟩ = some (.int .i64 x6_1) := (zai BK119.out 2).trans rfl; have hfz26_0 := zaf BK119.out 0; have hfz26_1 := zaf BK119.out 1; have hfz26_2 := zaf BK119.out 2))
           go_roundg k1
           case measure => have := HK1.out; omega
           case rel => exact ⟨(y121), (wrap64 (x6_1 + (t117.size : Int))), (by first | rfl | (simp; done) | (simp [*]; done)), H', ⟨by have := HK1.out; omega⟩, ⟨by (with_reducible repeat (first | apply Kd.zan | apply Kd.zaq | apply Kd.zaw)); exact Kd.zbr HO123.out (fun _ hk => trivial)⟩, ⟨by repeat (first | (with_reducible first | exact HB.out | apply zab | apply zaa | apply zac | refine zaj ?_ GE119.out) | exact HB.out)⟩⟩
          ·rw [if_neg c17] at H
           exact absurd H (by simp)
         ·rw [if_neg c16] at H
          have c16b0 : (t120 == 0) = false := beq_eq_false_iff_ne.mpr c16
          have c16b1 : (t120 != 0) = true := bne_iff_ne.mpr c16
          simp only [Option.some.injEq, Prod.mk.injEq] at H
          obtain ⟨rfl, rfl, rfl⟩ := H
          have p5 : 0 ≤ (x6_1 : Int) := of_decide_eq_true (by first | (with_reducible assumption) | assumption)
          have q5 : x6_1 < (a0.size : Int) := of_decide_eq_true (by first | (with_reducible assumption) | assumption)
          have hx5 := bt_at a0 x6_1
          replace p5 := eq_true p5
          replace q5 := eq_true q5
          go_wp2_with (first | ((fail_if_success (have := hcsx)); (with_reducible refine zbw (N := 33) rfl ?_); refine with_fact (p := ⟨gb119, 2, none⟩) (v := .int .i64 x6_1) ((World.cell?_setCell_same _ _ _ (World.cell?_setCell_same _ _ _ ((World.cell?_setCell_other _ _ _ _ (by simp)).trans ((World.cell?_setCell_other _ _ _ _ (by simp)).trans hcz31_2))))) ?_; intro hcsx) | ((with_reducible refine zav (f := 25) rfl ?_); refine zbl (some 19) rfl rfl Tryz.func25 (by kernel_rfl) rfl #[.int .u8 (bt a0 x6_1)] rfl (by (try simp only [List.map_toArray, List.map_cons, List.map_nil]); first | done | rfl | (simp only [List.length_drop, List.length_take]; rfl)) ?_; (with_reducible refine (zbz.calls (bt a0 x6_1) t115 _ A6.out).mono ?_); rintro e w27 ⟨rfl, hb⟩; refine ⟨_, rfl, ?_⟩; have n0_ := zad.mk (Kd.zbk (by (with_reducible repeat (first | apply Kd.zan | apply Kd.zaq | apply Kd.zaw)); exact HO_5.out) hb); have n1_ := zad.mk (zah (by repeat (first | (with_reducible first | exact HB.out | apply zab | apply zaa | apply zac) | exact HB.out)) hb); clear HO_5; clear HB; have HO_5 := n0_; have HB := n1_; clear n0_ n1_; (try clear hb); (try clear hb2); (try clear hk); (try clear hi); obtain ⟨Ao28, co28, eo28⟩ := Kd.zbm HO_5.out; subst eo28) | ((with_reducible refine zav (f := 26) rfl ?_); refine zbl (some 30) rfl rfl Tryz.func26 (by kernel_rfl) rfl #[.string (a0.extract (x6_1 : Int).toNat a0.size)] rfl (by (try simp only [List.map_toArray, List.map_cons, List.map_nil]); first | done | rfl | (simp only [List.length_drop, List.length_take]; rfl)) ?_; (with_reducible refine (zb9.calls k1 (a0.extract (x6_1 : Int).toNat a0.size) t116 t117 t118 _ A14.out).mono ?_); rintro e w29 ⟨rfl, hb⟩; refine ⟨_, rfl, ?_⟩; have n0_ := zad.mk (Kd.zbk (by (with_reducible repeat (first | apply Kd.zan | apply Kd.zaq | apply Kd.zaw)); exact HO_5.out) hb); have n1_ := zad.mk (zah (by repeat (first | (with_reducible first | exact HB.out | apply zab | apply zaa | apply zac) | exact HB.out)) hb); clear HO_5; clear HB; have HO_5 := n0_; have HB := n1_; clear n0_ n1_; (try clear hb); (try clear hb2); (try clear hk); (try clear hi)) | ((with_reducible refine zbw (N := 7) rfl ?_); refine zby ?hg (N := 7) ?hd (cs := #[.int .u8 0, .string (⟨#[]⟩ : ByteArray), .int .i64 0]) (t := 33) ?hr ?_; (case hd => rfl); (case hg => rfl); (case hr => first | (go_simp; done) | (go_simp; rfl)); intro gb119 hg w30 hbox hb; have n0_ := zad.mk (Kd.zbk (Kd.R_elderB (by (with_reducible repeat (first | apply Kd.zan | apply Kd.zaq | apply Kd.zaw)); exact HO_5.out) gb119 (Nat.le_of_eq hg.symm)) hb); have n1_ := zad.mk (zah (by repeat (first | (with_reducible first | exact HB.out | apply zab | apply zaa | apply zac) | exact HB.out)) hb); have n2_ := zad.mk (hbox); have n3_ := zad.mk ((by rw [hg]; exact (zao (by repeat (first | (with_reducible first | exact HB.out | apply zab | apply zaa | apply zac) | exact HB.out))) : w.heap.size ≤ gb119)); have n4_ := zad.mk ((by rw [hg]; exact (zao (by repeat (first | (with_reducible first | exact HB.out | apply zab | apply zaa | apply zac) | exact HB.out))) : w.heap.size ≤ gb119)); clear HO_5; clear HB; have HO_5 := n0_; have HB := n1_; have BK119 := n2_; have GW119 := n3_; have GE119 := n4_; clear n0_ n1_ n2_ n3_ n4_; clear hb hbox hg; have hcz31_0 : w30.cell? ⟨gb119, 0, none⟩ = some (.int .u8 0) := (zai BK119.out 0).trans rfl; have hcz31_1 : w30.cell? ⟨gb119, 1, none⟩ = some (.string (⟨#[]⟩ : ByteArray)) := (zai BK119.out 1).trans rfl; have hcz31_2 : w30.cell? ⟨gb119, 2, none⟩ = some (.int .i64 0) := (zai BK119.out 2).trans rfl; have hfz31_0 := zaf BK119.out 0; have hfz31_1 := zaf BK119.out 1; have hfz31_2 := zaf BK119.out 2) | ((with_reducible refine zav (f := 27) rfl ?_); refine zbl (some 34) rfl rfl Tryz.func27 (by kernel_rfl) rfl #[.agg #[.int .u8 t116, .string t117, .int .i64 x6_1]] rfl (by (try simp only [List.map_toArray, List.map_cons, List.map_nil]); first | done | rfl | (simp only [List.length_drop, List.length_take]; rfl)) ?_; (with_reducible refine (za6.calls k1 t116 t117 x6_1 t120 _ ?side1 A15.out).mono ?_); (case side1 => exact Tabs.below hT (by repeat (first | (with_reducible first | exact HB.out | apply zab | apply zaa | apply zac | refine zaj ?_ GE119.out) | exact HB.out))); rintro e w32 ⟨rfl, hb⟩; refine ⟨_, rfl, ?_⟩; have n0_ := zad.mk (Kd.zbk (by (with_reducible repeat (first | apply Kd.zan | apply Kd.zaq | apply Kd.zaw)); exact (Kd.zbr (Kd.R_far (p := ⟨gb119, 2, none⟩) (Kd.R_far (p := ⟨gb119, 2, none⟩) (Kd.R_far (p := ⟨gb119, 1, none⟩) (Kd.R_far (p := ⟨gb119, 0, none⟩) (Kd.zbr HO_5.out (fun k_ hk => (⟨hk, hk.2⟩ : _ ∧ k_ ≠ gb119))) (fun _ hk => hk.2) (.int .u8 t116)) (fun _ hk => hk.2) (.string t117)) (fun _ hk => hk.2) (.int .i64 t118)) (fun _ hk => hk.2) (.int .i64 x6_1)) (fun _ h_ => h_.1))) hb); have n1_ := zad.mk (zbg (g := gb119) (o := .cells #[.int .u8 t116, .string t117, .int .i64 x6_1] 33 (0, 0)) (by (with_reducible repeat (first | refine zas ?_ _ | refine zat ?_ | refine zar ?_ _)); refine zcc (cs := #[.int .u8 t116, .string t117, .int .i64 t118]) ?_ 2 _ rfl; (with_reducible repeat (first | refine zas ?_ _ | refine zat ?_ | refine zar ?_ _)); refine zcc (cs := #[.int .u8 t116, .string t117, .int .i64 0]) ?_ 2 _ rfl; (with_reducible repeat (first | refine zas ?_ _ | refine zat ?_ | refine zar ?_ _)); refine zcc (cs := #[.int .u8 t116, .string (⟨#[]⟩ : ByteArray), .int .i64 0]) ?_ 1 _ rfl; (with_reducible repeat (first | refine zas ?_ _ | refine zat ?_ | refine zar ?_ _)); refine zcc (cs := #[.int .u8 0, .string (⟨#[]⟩ : ByteArray), .int .i64 0]) ?_ 0 _ rfl; (with_reducible repeat (first | refine zas ?_ _ | refine zat ?_ | refine zar ?_ _)); exact BK119.out) hb); have n2_ := zad.mk (zah (by repeat (first | (with_reducible first | exact HB.out | apply zab | apply zaa | apply zac | refine zaj ?_ GE119.out) | exact HB.out)) hb); clear HO_5; clear BK119; clear HB; have HO_5 := n0_; have BK119 := n1_; have HB := n2_; clear n0_ n1_ n2_; (try clear hb); (try clear hb2); (try clear hk); (try clear hi)))
          go_ret3
          exact ⟨_, by first | rfl | (simp [zak, zal] <;> rfl) | (simp [*, zak, zal] <;> rfl), by first | exact Kd.R_nil _ _ _ _ _ | exact Kd.N_nil _ _ _ _ _ | exact Kd.V_nil _ _ _ _ _ | exact Kd.Q_nil _ _ _ _ _ | exact Kd.S_nil _ _ _ _ _, by repeat (first | (with_reducible first | exact HB.out | apply zab | apply zaa | apply zac | refine zaj ?_ GE119.out) | exact HB.out)⟩
        ·rw [if_neg c13] at H
         exact absurd H (by simp)
     ·rw [if_neg c4] at H
      exact absurd H (by simp)
    ·rw [if_neg c3] at H
     have c3b0 : decide (x6_1 < (a0.size : Int)) = false := decide_eq_false c3
     clear c3
     simp only [Option.some.injEq, Prod.mk.injEq] at H
     obtain ⟨rfl, rfl, rfl⟩ := H
     go_wp2
     go_ret3
     exact ⟨_, by first | rfl | (simp [zak, zal] <;> rfl) | (simp [*, zak, zal] <;> rfl), by (with_reducible repeat (first | apply Kd.zan | apply Kd.zaq | apply Kd.zaw)); exact HO_5.out, by repeat (first | (with_reducible first | exact HB.out | apply zab | apply zaa | apply zac) | exact HB.out)⟩
def strings_Join.f (l0 : List ByteArray) (a1 : ByteArray) : Option ByteArray := if l0.length ≤ 140737488355328 ∧ (Lib.join (l0.map (·.data.toList)) a1.data.toList).length ≤ 140737488355328 then some (joinB l0 a1) else none
theorem strings_Join.calls (A0 : Option Addr) (c0 : Nat) (l0 : List ByteArray) (a1 : ByteArray) (r : ByteArray) (w : World) (hr0 : Kd.C Kd.string w A0 l0.length l0) (hc0 : l0.length ≤ c0) (h : strings_Join.f l0 a1 = some r) :
    Calls Tryz.prog 43 #[.slice A0 l0.length c0, .string a1] w fun e w' => e = .returned (.string r) ∧ Below w.heap.size w w' := by
  unfold strings_Join.f at h
  by_cases e : l0.length ≤ 140737488355328 ∧ (Lib.join (l0.map (·.data.toList)) a1.data.toList).length ≤ 140737488355328
  · rw [if_pos e] at h
    have h2 := Option.some.inj h
    subst h2
    exact join_any A0 c0 l0 a1 w hr0 hc0 e.1 e.2
  · rw [if_neg e] at h; cases h
def zbn.l0 : Nat → List ByteArray → List (S33) → Int → Int → Option (ByteArray × Int)
  | 0, _, _, _, _ => none
  | k + 1, x4, x11, x12, x13 => if x13 < x12 then (if 0 ≤ x13 then (if x13 < (x11.length : Int) then ((za6.f k ((zbh x11 x13).f0) ((zbh x11 x13).f1) ((zbh x11 x13).f2)).bind fun t126 => (if t126 = 0 then (if x4.length < 8796093022208 then (zbn.l0 k (x4 ++ [(zbh x11 x13).f1]) x11 x12 (wrap64 (x13 + 1))) else (none)) else (some ((⟨#[]⟩ : ByteArray), 8)))) else (none)) else (none)) else ((strings_Join.f x4 (⟨#[32]⟩ : ByteArray)).bind fun t130 => (if (t130.size : Int) > 400 then (some ((⟨#[]⟩ : ByteArray), 18)) else (some (t130, 0))))
def zbn.f (k : Nat) (l0 : List (S33)) : Option (ByteArray × Int) := if (l0.length : Int) > 200 then (some ((⟨#[]⟩ : ByteArray), 4)) else (zbn.l0 k ([] : List ByteArray) l0 (l0.length : Int) 0)
theorem zbn.zdo : ∀ k, (∀ y0 y1 y2 y3, LeO (zbn.l0 k y0 y1 y2 y3) (zbn.l0 (k + 1) y0 y1 y2 y3))
  | 0 => fun _ _ _ _ r h => by simp [zbn.l0] at h
  | k + 1 => by
    have ih0 := zbn.zdo k
    · intro y0 y1 y2 y3
      unfold zbn.l0
      repeat' first
      | (with_reducible exact ih0 _ _ _ _)
      | (with_reducible exact za6.mono _ _ _ _)
      | (with_reducible exact LeO.refl _)
      | (with_reducible exact LeO.none _)
      | (with_reducible refine LeO.ite ?_ ?_)
      | (with_reducible refine LeO.bind ?_ (fun _ => ?_))
      | exact ih0 _ _ _ _
      | exact za6.mono _ _ _ _
      | exact LeO.none _
      | refine LeO.ite ?_ ?_
      | refine LeO.bind ?_ (fun _ => ?_)
theorem zbn.mono : ∀ a0 k, LeO (zbn.f k a0) (zbn.f (k + 1) a0) := by
  intro a0 k
  have ih0 := zbn.zdo k
  unfold zbn.f
  repeat' first
      | (with_reducible exact ih0 _ _ _ _)
      | (with_reducible exact za6.mono _ _ _ _)
      | (with_reducible exact LeO.refl _)
      | (with_reducible exact LeO.none _)
      | (with_reducible refine LeO.ite ?_ ?_)
      | (with_reducible refine LeO.bind ?_ (fun _ => ?_))
      | exact ih0 _ _ _ _
      | exact za6.mono _ _ _ _
      | exact LeO.none _
      | refine LeO.ite ?_ ?_
      | refine LeO.bind ?_ (fun _ => ?_)
set_option maxHeartbeats 8000000 in
set_option maxRecDepth 100000 in
theorem zbn.calls (k : Nat) (A0 : Option Addr) (c0 : Nat) (l0 : List (S33)) (r1 : ByteArray) (r2 : Int) (w : World) (hr0 : Kd.C k33 w A0 l0.length l0) (hc0 : l0.length ≤ c0) (hT : Tabs w) (h : zbn.f k l0 = some (r1, r2)) :
 Calls Tryz.prog 28 #[.slice A0 l0.length c0] w fun e w' => e = .returned (.tuple #[.string r1, .int .i64 r2]) ∧ Below w.heap.size w w' := by
 have hu33 := Tryz.underlying33
 have HR0 := zad.mk hr0
 have HC0 := zad.mk hc0
 clear hr0 hc0
 have HB := zad.mk (Below.refl w.heap.size w)
 have H : (if (l0.length : Int) > 200 then (some ((⟨#[]⟩ : ByteArray), 4)) else (zbn.l0 k ([] : List ByteArray) l0 (l0.length : Int) 0)) = some (r1, r2) := h
 clear h
 by_cases c2 : (l0.length : Int) > 200
 ·rw [if_pos c2] at H
  have c2b0 : decide (200 < (l0.length : Int)) = true := decide_eq_true c2
  have c2b1 : decide (200 < l0.length) = true := decide_eq_true (by omega)
  clear c2
  simp only [Option.some.injEq, Prod.mk.injEq] at H
  obtain ⟨rfl, rfl⟩ := H
  go_enter Tryz.func28, Tryz.ntmps28
  go_wp2
  go_ret2
  exact ⟨by first | rfl | (simp [zak, zal] <;> rfl) | (simp [*, zak, zal] <;> rfl), by repeat (first | (with_reducible first | exact HB.out | apply zab | apply zaa | apply zac) | exact HB.out)⟩
 ·rw [if_neg c2] at H
  have c2b0 : decide (200 < (l0.length : Int)) = false := decide_eq_false c2
  have c2b1 : decide (200 < l0.length) = false := decide_eq_false (by omega)
  clear c2
  have H' := zad.mk H
  clear H
  go_enter Tryz.func28, Tryz.ntmps28
  go_wp2
  go_loopg [4, 13] k (fun kq v4 v13 w' => ∃ (x4_1 : List ByteArray) (x13_1 : Int), v13 = .int .i64 x13_1 ∧ zad (zbn.l0 kq x4_1 l0 (l0.length : Int) x13_1 = some (r1, r2)) ∧ zad (kq ≤ k) ∧ zad (Kd.R Kd.string 9 w' w.heap.size (fun _ => True) v4 x4_1) ∧ zad (Below w.heap.size w w'))
  case atStart => exact ⟨(([] : List ByteArray)), (0), (by first | rfl | (simp; done) | (simp [*]; done)), H', ⟨Nat.le_refl _⟩, ⟨by first | exact Kd.R_nil _ _ _ _ _ | exact Kd.N_nil _ _ _ _ _ | exact Kd.V_nil _ _ _ _ _ | exact Kd.Q_nil _ _ _ _ _ | exact Kd.S_nil _ _ _ _ _⟩, ⟨by repeat (first | (with_reducible first | exact HB.out | apply zab | apply zaa | apply zac) | exact HB.out)⟩⟩
  case round =>
   clear H'
   try clear c2
   try clear c2b0
   try clear c2b1
   try clear p2
   obtain ⟨x4_1, x13_1, rfl, HA, HK1, HO_4, HB⟩ := hrel
   cases gk with
   | zero => exact absurd HA.out (by simp [zbn.l0])
   | succ k1 =>
    have H := HA.out
    clear HA
    simp only [zbn.l0] at H
    by_cases c3 : x13_1 < (l0.length : Int)
    ·rw [if_pos c3] at H
     have c3b0 : decide (x13_1 < (l0.length : Int)) = true := decide_eq_true c3
     clear c3
     by_cases c4 : 0 ≤ x13_1
     ·rw [if_pos c4] at H
      have c4b0 : decide (0 ≤ x13_1) = true := decide_eq_true c4
      clear c4
      by_cases c5 : x13_1 < (l0.length : Int)
      ·rw [if_pos c5] at H
       have c5b0 : decide (x13_1 < (l0.length : Int)) = true := decide_eq_true c5
       clear c5
       replace H := Option.bind_eq_some_iff.mp H
       obtain ⟨t126, A60, H⟩ := H
       replace H : (if t126 = 0 then (if x4_1.length < 8796093022208 then (zbn.l0 k1 (x4_1 ++ [(zbh l0 x13_1).f1]) l0 (l0.length : Int) (wrap64 (x13_1 + 1))) else (none)) else (some ((⟨#[]⟩ : ByteArray), 8))) = some (r1, r2) := H
       have A6 := zad.mk A60
       clear A60
       by_cases c7 : t126 = 0
       ·rw [if_pos c7] at H
        have c7b0 : (t126 == 0) = true := beq_iff_eq.mpr c7
        have c7b1 : (t126 != 0) = false := bne_eq_false_iff_eq.mpr c7
        clear c7
        by_cases c8 : x4_1.length < 8796093022208
        ·rw [if_pos c8] at H
         have LMc8 := zad.mk c8
         clear c8
         obtain ⟨y127, hy127⟩ : ∃ y_ : List ByteArray, y_ = (x4_1 ++ [(zbh l0 x13_1).f1]) := ⟨_, rfl⟩
         replace H : (zbn.l0 k1 y127 l0 (l0.length : Int) (wrap64 (x13_1 + 1))) = some (r1, r2) := by first | (rw [hy127]; with_reducible exact H) | (have H2_ := (Option.bind_some _ _).symm.trans H; rw [hy127]; with_reducible exact H2_) | (have H2_ := (Option.bind_some _ _).symm.trans H; with_reducible exact H2_) | with_reducible exact H | (rw [hy127]; exact H) | exact H
         have Ny127 := zad.mk hy127
         clear hy127
         have H' := zad.mk H
         clear H
         have p124 : 0 ≤ (x13_1 : Int) := of_decide_eq_true (by first | (with_reducible assumption) | assumption)
         have q124 : x13_1 < (l0.length : Int) := of_decide_eq_true (by first | (with_reducible assumption) | assumption)
         obtain ⟨ad124, e124, hx124_0, hx124_1, hx124_2⟩ := zd2 HR0.out x13_1 p124 q124
         cases e124
         replace hx124_0 := (HB.out.cell (World.block_lt_of_cell? w _ hx124_0)).trans hx124_0
         replace hx124_1 := (HB.out.cell (World.block_lt_of_cell? w _ hx124_1)).trans hx124_1
         replace hx124_2 := (HB.out.cell (World.block_lt_of_cell? w _ hx124_2)).trans hx124_2
         replace p124 := eq_true p124
         replace q124 := eq_true q124
         go_wp2_with (first | ((with_reducible refine zbw (N := 6) rfl ?_); refine zby ?hg (N := 6) ?hd (cs := #[.int .u8 0, .string (⟨#[]⟩ : ByteArray), .int .i64 0]) (t := 33) ?hr ?_; (case hd => rfl); (case hg => rfl); (case hr => first | (go_simp; done) | (go_simp; rfl)); intro gb125 hg w9 hbox hb; have n0_ := zad.mk (Kd.zbk (by (with_reducible repeat (first | apply Kd.zan | apply Kd.zaq | apply Kd.zaw)); exact HO_4.out) hb); have n1_ := zad.mk (zah (by repeat (first | (with_reducible first | exact HB.out | apply zab | apply zaa | apply zac) | exact HB.out)) hb); have n2_ := zad.mk (hbox); have n3_ := zad.mk ((by rw [hg]; exact (zao (by repeat (first | (with_reducible first | exact HB.out | apply zab | apply zaa | apply zac) | exact HB.out))) : w.heap.size ≤ gb125)); have n4_ := zad.mk ((by rw [hg]; exact (zao (by repeat (first | (with_reducible first | exact HB.out | apply zab | apply zaa | apply zac) | exact HB.out))) : w.heap.size ≤ gb125)); clear HO_4; clear HB; have HO_4 := n0_; have HB := n1_; have BK125 := n2_; have GW125 := n3_; have GE125 := n4_; clear n0_ n1_ n2_ n3_ n4_; clear hb hbox hg; have hcz10_0 : w9.cell? ⟨gb125, 0, none⟩ = some (.int .u8 0) := (zai BK125.out 0).trans rfl; have hcz10_1 : w9.cell? ⟨gb125, 1, none⟩ = some (.string (⟨#[]⟩ : ByteArray)) := (zai BK125.out 1).trans rfl; have hcz10_2 : w9.cell? ⟨gb125, 2, none⟩ = some (.int .i64 0) := (zai BK125.out 2).trans rfl; have hfz10_0 := zaf BK125.out 0; have hfz10_1 := zaf BK125.out 1; have hfz10_2 := zaf BK125.out 2) | ((with_reducible refine zav (f := 27) rfl ?_); refine zbl (some 18) rfl rfl Tryz.func27 (by kernel_rfl) rfl #[.agg #[.int .u8 ((zbh l0 x13_1).f0), .string ((zbh l0 x13_1).f1), .int .i64 ((zbh l0 x13_1).f2)]] rfl (by (try simp only [List.map_toArray, List.map_cons, List.map_nil]); first | done | rfl | (simp only [List.length_drop, List.length_take]; rfl)) ?_; (with_reducible refine (za6.calls k1 ((zbh l0 x13_1).f0) ((zbh l0 x13_1).f1) ((zbh l0 x13_1).f2) t126 _ ?side1 A6.out).mono ?_); (case side1 => exact Tabs.below hT (by repeat (first | (with_reducible first | exact HB.out | apply zab | apply zaa | apply zac | refine zaj ?_ GE125.out) | exact HB.out))); rintro e w11 ⟨rfl, hb⟩; refine ⟨_, rfl, ?_⟩; have n0_ := zad.mk (Kd.zbk (by (with_reducible repeat (first | apply Kd.zan | apply Kd.zaq | apply Kd.zaw)); exact (Kd.zbr (Kd.R_far (p := ⟨gb125, 2, none⟩) (Kd.R_far (p := ⟨gb125, 1, none⟩) (Kd.R_far (p := ⟨gb125, 0, none⟩) (Kd.R_types HO_4.out BK125.out (by decide)) (fun _ hk => hk.2) (.int .u8 ((zbh l0 x13_1).f0))) (fun _ hk => hk.2) (.string ((zbh l0 x13_1).f1))) (fun _ hk => hk.2) (.int .i64 ((zbh l0 x13_1).f2))) (fun _ h_ => h_.1))) hb); have n1_ := zad.mk (zbg (g := gb125) (o := .cells #[.int .u8 ((zbh l0 x13_1).f0), .string ((zbh l0 x13_1).f1), .int .i64 ((zbh l0 x13_1).f2)] 33 (0, 0)) (by (with_reducible repeat (first | refine zas ?_ _ | refine zat ?_ | refine zar ?_ _)); refine zcc (cs := #[.int .u8 ((zbh l0 x13_1).f0), .string ((zbh l0 x13_1).f1), .int .i64 0]) ?_ 2 _ rfl; (with_reducible repeat (first | refine zas ?_ _ | refine zat ?_ | refine zar ?_ _)); refine zcc (cs := #[.int .u8 ((zbh l0 x13_1).f0), .string (⟨#[]⟩ : ByteArray), .int .i64 0]) ?_ 1 _ rfl; (with_reducible repeat (first | refine zas ?_ _ | refine zat ?_ | refine zar ?_ _)); refine zcc (cs := #[.int .u8 0, .string (⟨#[]⟩ : ByteArray), .int .i64 0]) ?_ 0 _ rfl; (with_reducible repeat (first | refine zas ?_ _ | refine zat ?_ | refine zar ?_ _)); exact BK125.out) hb); have n2_ := zad.mk (zah (by repeat (first | (with_reducible first | exact HB.out | apply zab | apply zaa | apply zac | refine zaj ?_ GE125.out) | exact HB.out)) hb); clear HO_4; clear BK125; clear HB; have HO_4 := n0_; have BK125 := n1_; have HB := n2_; clear n0_ n1_ n2_; (try clear hb); (try clear hb2); (try clear hk); (try clear hi); have hcz12_0 : w11.cell? ⟨gb125, 0, none⟩ = some (.int .u8 ((zbh l0 x13_1).f0)) := (zai BK125.out 0).trans rfl; have hcz12_1 : w11.cell? ⟨gb125, 1, none⟩ = some (.string ((zbh l0 x13_1).f1)) := (zai BK125.out 1).trans rfl; have hcz12_2 : w11.cell? ⟨gb125, 2, none⟩ = some (.int .i64 ((zbh l0 x13_1).f2)) := (zai BK125.out 2).trans rfl; have hfz12_0 := zaf BK125.out 0; have hfz12_1 := zaf BK125.out 1; have hfz12_2 := zaf BK125.out 2) | ((with_reducible refine zbb (b := .append) (xs := #[.tmp 20, .tmp 23]) rfl ?_); at_builtin; refine Kd.zb6 Kd.string (w0 := w) w.heap.size rfl (.tmp 20) (.tmp 23) 23 9 (.string ⟨#[]⟩) 16 rfl Tryz.underlying23 info9 rfl (by decide) (by omega) u4 x4_1 ((zbh l0 x13_1).f1) [.string ((zbh l0 x13_1).f1)] (fun _ => True) (fun _ => False) rfl rfl ?aP (fun _ hk => hk.elim) ?aF ?aO ?aB ?aS ?aL ?_; (case aP => exact rfl); (case aB => exact (by repeat (first | (with_reducible first | exact HB.out | apply zab | apply zaa | apply zac | refine zaj ?_ GE125.out) | exact HB.out))); (case aF => exact (fun _ _ => trivial)); (case aO => exact (by (with_reducible repeat (first | apply Kd.zan | apply Kd.zaq | apply Kd.zaw)); exact HO_4.out)); (case aS => exact (zao (by repeat (first | (with_reducible first | exact HB.out | apply zab | apply zaa | apply zac | refine zaj ?_ GE125.out) | exact HB.out)))); (case aL => have := LMc8.out; omega); intro v128 w13 ho hb hg hat; rw [← Ny127.out] at ho; have n0_ := zad.mk (zb5 (g := gb125) (o := .cells #[.int .u8 ((zbh l0 x13_1).f0), .string ((zbh l0 x13_1).f1), .int .i64 ((zbh l0 x13_1).f2)] 33 (0, 0)) (by (with_reducible repeat (first | refine zas ?_ _ | refine zat ?_ | refine zar ?_ _)); exact BK125.out) hg (Kd.R_ne HO_4.out BK125.out (by decide))); have n1_ := zad.mk (hb); have n2_ := zad.mk (ho); clear BK125; clear HB; clear HO_4; have BK125 := n0_; have HB := n1_; have HO129 := n2_; clear n0_ n1_ n2_; clear ho hb hg hat))
         go_roundg k1
         case measure => have := HK1.out; omega
         case rel => exact ⟨(y127), (wrap64 (x13_1 + 1)), (by first | rfl | (simp; done) | (simp [*]; done)), H', ⟨by have := HK1.out; omega⟩, ⟨by (with_reducible repeat (first | apply Kd.zan | apply Kd.zaq | apply Kd.zaw)); exact HO129.out⟩, ⟨by repeat (first | (with_reducible first | exact HB.out | apply zab | apply zaa | apply zac | refine zaj ?_ GE125.out) | exact HB.out)⟩⟩
        ·rw [if_neg c8] at H
         exact absurd H (by simp)
       ·rw [if_neg c7] at H
        have c7b0 : (t126 == 0) = false := beq_eq_false_iff_ne.mpr c7
        have c7b1 : (t126 != 0) = true := bne_iff_ne.mpr c7
        simp only [Option.some.injEq, Prod.mk.injEq] at H
        obtain ⟨rfl, rfl⟩ := H
        have p124 : 0 ≤ (x13_1 : Int) := of_decide_eq_true (by first | (with_reducible assumption) | assumption)
        have q124 : x13_1 < (l0.length : Int) := of_decide_eq_true (by first | (with_reducible assumption) | assumption)
        obtain ⟨ad124, e124, hx124_0, hx124_1, hx124_2⟩ := zd2 HR0.out x13_1 p124 q124
        cases e124
        replace hx124_0 := (HB.out.cell (World.block_lt_of_cell? w _ hx124_0)).trans hx124_0
        replace hx124_1 := (HB.out.cell (World.block_lt_of_cell? w _ hx124_1)).trans hx124_1
        replace hx124_2 := (HB.out.cell (World.block_lt_of_cell? w _ hx124_2)).trans hx124_2
        replace p124 := eq_true p124
        replace q124 := eq_true q124
        go_wp2_with (first | ((with_reducible refine zbw (N := 6) rfl ?_); refine zby ?hg (N := 6) ?hd (cs := #[.int .u8 0, .string (⟨#[]⟩ : ByteArray), .int .i64 0]) (t := 33) ?hr ?_; (case hd => rfl); (case hg => rfl); (case hr => first | (go_simp; done) | (go_simp; rfl)); intro gb125 hg w14 hbox hb; have n0_ := zad.mk (Kd.zbk (by (with_reducible repeat (first | apply Kd.zan | apply Kd.zaq | apply Kd.zaw)); exact HO_4.out) hb); have n1_ := zad.mk (zah (by repeat (first | (with_reducible first | exact HB.out | apply zab | apply zaa | apply zac) | exact HB.out)) hb); have n2_ := zad.mk (hbox); have n3_ := zad.mk ((by rw [hg]; exact (zao (by repeat (first | (with_reducible first | exact HB.out | apply zab | apply zaa | apply zac) | exact HB.out))) : w.heap.size ≤ gb125)); have n4_ := zad.mk ((by rw [hg]; exact (zao (by repeat (first | (with_reducible first | exact HB.out | apply zab | apply zaa | apply zac) | exact HB.out))) : w.heap.size ≤ gb125)); clear HO_4; clear HB; have HO_4 := n0_; have HB := n1_; have BK125 := n2_; have GW125 := n3_; have GE125 := n4_; clear n0_ n1_ n2_ n3_ n4_; clear hb hbox hg; have hcz15_0 : w14.cell? ⟨gb125, 0, none⟩ = some (.int .u8 0) := (zai BK125.out 0).trans rfl; have hcz15_1 : w14.cell? ⟨gb125, 1, none⟩ = some (.string (⟨#[]⟩ : ByteArray)) := (zai BK125.out 1).trans rfl; have hcz15_2 : w14.cell? ⟨gb125, 2, none⟩ = some (.int .i64 0) := (zai BK125.out 2).trans rfl; have hfz15_0 := zaf BK125.out 0; have hfz15_1 := zaf BK125.out 1; have hfz15_2 := zaf BK125.out 2) | ((with_reducible refine zav (f := 27) rfl ?_); refine zbl (some 18) rfl rfl Tryz.func27 (by kernel_rfl) rfl #[.agg #[.int .u8 ((zbh l0 x13_1).f0), .string ((zbh l0 x13_1).f1), .int .i64 ((zbh l0 x13_1).f2)]] rfl (by (try simp only [List.map_toArray, List.map_cons, List.map_nil]); first | done | rfl | (simp only [List.length_drop, List.length_take]; rfl)) ?_; (with_reducible refine (za6.calls k1 ((zbh l0 x13_1).f0) ((zbh l0 x13_1).f1) ((zbh l0 x13_1).f2) t126 _ ?side1 A6.out).mono ?_); (case side1 => exact Tabs.below hT (by repeat (first | (with_reducible first | exact HB.out | apply zab | apply zaa | apply zac | refine zaj ?_ GE125.out) | exact HB.out))); rintro e w16 ⟨rfl, hb⟩; refine ⟨_, rfl, ?_⟩; have n0_ := zad.mk (Kd.zbk (by (with_reducible repeat (first | apply Kd.zan | apply Kd.zaq | apply Kd.zaw)); exact (Kd.zbr (Kd.R_far (p := ⟨gb125, 2, none⟩) (Kd.R_far (p := ⟨gb125, 1, none⟩) (Kd.R_far (p := ⟨gb125, 0, none⟩) (Kd.R_types HO_4.out BK125.out (by decide)) (fun _ hk => hk.2) (.int .u8 ((zbh l0 x13_1).f0))) (fun _ hk => hk.2) (.string ((zbh l0 x13_1).f1))) (fun _ hk => hk.2) (.int .i64 ((zbh l0 x13_1).f2))) (fun _ h_ => h_.1))) hb); have n1_ := zad.mk (zbg (g := gb125) (o := .cells #[.int .u8 ((zbh l0 x13_1).f0), .string ((zbh l0 x13_1).f1), .int .i64 ((zbh l0 x13_1).f2)] 33 (0, 0)) (by (with_reducible repeat (first | refine zas ?_ _ | refine zat ?_ | refine zar ?_ _)); refine zcc (cs := #[.int .u8 ((zbh l0 x13_1).f0), .string ((zbh l0 x13_1).f1), .int .i64 0]) ?_ 2 _ rfl; (with_reducible repeat (first | refine zas ?_ _ | refine zat ?_ | refine zar ?_ _)); refine zcc (cs := #[.int .u8 ((zbh l0 x13_1).f0), .string (⟨#[]⟩ : ByteArray), .int .i64 0]) ?_ 1 _ rfl; (with_reducible repeat (first | refine zas ?_ _ | refine zat ?_ | refine zar ?_ _)); refine zcc (cs := #[.int .u8 0, .string (⟨#[]⟩ : ByteArray), .int .i64 0]) ?_ 0 _ rfl; (with_reducible repeat (first | refine zas ?_ _ | refine zat ?_ | refine zar ?_ _)); exact BK125.out) hb); have n2_ := zad.mk (zah (by repeat (first | (with_reducible first | exact HB.out | apply zab | apply zaa | apply zac | refine zaj ?_ GE125.out) | exact HB.out)) hb); clear HO_4; clear BK125; clear HB; have HO_4 := n0_; have BK125 := n1_; have HB := n2_; clear n0_ n1_ n2_; (try clear hb); (try clear hb2); (try clear hk); (try clear hi)))
        go_ret2
        exact ⟨by first | rfl | (simp [zak, zal] <;> rfl) | (simp [*, zak, zal] <;> rfl), by repeat (first | (with_reducible first | exact HB.out | apply zab | apply zaa | apply zac | refine zaj ?_ GE125.out) | exact HB.out)⟩
      ·rw [if_neg c5] at H
       exact absurd H (by simp)
     ·rw [if_neg c4] at H
      exact absurd H (by simp)
    ·rw [if_neg c3] at H
     have c3b0 : decide (x13_1 < (l0.length : Int)) = false := decide_eq_false c3
     clear c3
     replace H := Option.bind_eq_some_iff.mp H
     obtain ⟨t130, A170, H⟩ := H
     replace H : (if (t130.size : Int) > 400 then (some ((⟨#[]⟩ : ByteArray), 18)) else (some (t130, 0))) = some (r1, r2) := H
     have A17 := zad.mk A170
     clear A170
     by_cases c18 : (t130.size : Int) > 400
     ·rw [if_pos c18] at H
      have c18b0 : decide (400 < (t130.size : Int)) = true := decide_eq_true c18
      have c18b1 : decide (400 < t130.size) = true := decide_eq_true (by omega)
      clear c18
      simp only [Option.some.injEq, Prod.mk.injEq] at H
      obtain ⟨rfl, rfl⟩ := H
      obtain ⟨Ao19, co19, eo19⟩ := Kd.zbm HO_4.out
      subst eo19
      go_wp2_with (first | ((with_reducible refine zav (f := 43) rfl ?_); refine zbl (some 27) rfl rfl Tryz.func43 (by kernel_rfl) rfl #[.slice Ao19 x4_1.length co19, .string (⟨#[32]⟩ : ByteArray)] rfl (by (try simp only [List.map_toArray, List.map_cons, List.map_nil]); first | done | rfl | (simp only [List.length_drop, List.length_take]; rfl)) ?_; (with_reducible refine (strings_Join.calls _ _ x4_1 (⟨#[32]⟩ : ByteArray) t130 _ ?side1 ?side2 A17.out).mono ?_); (case side1 => repeat (first | exact (Kd.za3 HO_4.out).2.2 | (with_reducible refine Kd.zbu ?_ _) | (with_reducible refine Kd.zbv ?_ _) | (with_reducible refine Kd.zb4 ?_))); (case side2 => exact (Kd.za3 HO_4.out).2.1); rintro e w20 ⟨rfl, hb⟩; refine ⟨_, rfl, ?_⟩; have n0_ := zad.mk (Kd.zbk (by (with_reducible repeat (first | apply Kd.zan | apply Kd.zaq | apply Kd.zaw)); exact HO_4.out) hb); have n1_ := zad.mk (zah (by repeat (first | (with_reducible first | exact HB.out | apply zab | apply zaa | apply zac) | exact HB.out)) hb); clear HO_4; clear HB; have HO_4 := n0_; have HB := n1_; clear n0_ n1_; (try clear hb); (try clear hb2); (try clear hk); (try clear hi)))
      go_ret2
      exact ⟨by first | rfl | (simp [zak, zal] <;> rfl) | (simp [*, zak, zal] <;> rfl), by repeat (first | (with_reducible first | exact HB.out | apply zab | apply zaa | apply zac) | exact HB.out)⟩
     ·rw [if_neg c18] at H
      have c18b0 : decide (400 < (t130.size : Int)) = false := decide_eq_false c18
      have c18b1 : decide (400 < t130.size) = false := decide_eq_false (by omega)
      clear c18
      simp only [Option.some.injEq, Prod.mk.injEq] at H
      obtain ⟨rfl, rfl⟩ := H
      obtain ⟨Ao21, co21, eo21⟩ := Kd.zbm HO_4.out
      subst eo21
      go_wp2_with (first | ((with_reducible refine zav (f := 43) rfl ?_); refine zbl (some 27) rfl rfl Tryz.func43 (by kernel_rfl) rfl #[.slice Ao21 x4_1.length co21, .string (⟨#[32]⟩ : ByteArray)] rfl (by (try simp only [List.map_toArray, List.map_cons, List.map_nil]); first | done | rfl | (simp only [List.length_drop, List.length_take]; rfl)) ?_; (with_reducible refine (strings_Join.calls _ _ x4_1 (⟨#[32]⟩ : ByteArray) t130 _ ?side1 ?side2 A17.out).mono ?_); (case side1 => repeat (first | exact (Kd.za3 HO_4.out).2.2 | (with_reducible refine Kd.zbu ?_ _) | (with_reducible refine Kd.zbv ?_ _) | (with_reducible refine Kd.zb4 ?_))); (case side2 => exact (Kd.za3 HO_4.out).2.1); rintro e w22 ⟨rfl, hb⟩; refine ⟨_, rfl, ?_⟩; have n0_ := zad.mk (Kd.zbk (by (with_reducible repeat (first | apply Kd.zan | apply Kd.zaq | apply Kd.zaw)); exact HO_4.out) hb); have n1_ := zad.mk (zah (by repeat (first | (with_reducible first | exact HB.out | apply zab | apply zaa | apply zac) | exact HB.out)) hb); clear HO_4; clear HB; have HO_4 := n0_; have HB := n1_; clear n0_ n1_; (try clear hb); (try clear hb2); (try clear hk); (try clear hi)))
      go_ret2
      exact ⟨by first | rfl | (simp [zak, zal] <;> rfl) | (simp [*, zak, zal] <;> rfl), by repeat (first | (with_reducible first | exact HB.out | apply zab | apply zaa | apply zac) | exact HB.out)⟩
def zc2.f (l0 : List S43) : Option (List S94 × Bool) := if l0.length ≤ 1000000 then some (Go.Proofs.YtgmmngipnjmkfaaGreatDoor.Pure.tloop l0 0 [] []) else none
theorem zc2.calls (A0 : Option Addr) (c0 : Nat) (l0 : List S43) (r1 : List S94) (r2 : Bool) (w : World) (hr0 : Kd.C k43 w A0 l0.length l0) (hc0 : l0.length ≤ c0) (h : zc2.f l0 = some (r1, r2)) :
    Calls Tryz.prog 53 #[.slice A0 l0.length c0] w fun e w' => ∃ v0_ : Value, e = .returned (.tuple #[v0_, .bool r2]) ∧ Kd.R k94 94 w' w.heap.size (fun _ => True) v0_ r1 ∧ Below w.heap.size w w' := by
  unfold zc2.f at h
  by_cases e : l0.length ≤ 1000000
  · rw [if_pos e] at h
    have h2 := Option.some.inj h
    rw [show r1 = (Go.Proofs.YtgmmngipnjmkfaaGreatDoor.Pure.tloop l0 0 [] []).1 by rw [h2], show r2 = (Go.Proofs.YtgmmngipnjmkfaaGreatDoor.Pure.tloop l0 0 [] []).2 by rw [h2]]
    exact tops_any A0 c0 l0 w hr0 e
  · rw [if_neg e] at h; cases h
def zdl.f (l0 : List (S43)) : Option ((List (S94)) × Int) := if (l0.length : Int) > 60 then (some (([] : List (S94)), 4)) else ((zc2.f l0).bind fun bt131 => (if bt131.2 = true then (if 0 ≤ (wrap64 ((bt131.1.length : Int) - 1)) then (if (wrap64 ((bt131.1.length : Int) - 1)) < (bt131.1.length : Int) then (if ((zdd bt131.1 (wrap64 ((bt131.1.length : Int) - 1))).f2) > 20 then (some (([] : List (S94)), 34)) else (some (bt131.1, 0))) else (none)) else (none)) else (some (([] : List (S94)), 8))))
set_option maxHeartbeats 8000000 in
set_option maxRecDepth 100000 in
theorem zdl.calls (A0 : Option Addr) (c0 : Nat) (l0 : List (S43)) (r1 : List (S94)) (r2 : Int) (w : World) (hr0 : Kd.C k43 w A0 l0.length l0) (hc0 : l0.length ≤ c0) (h : zdl.f l0 = some (r1, r2)) :
    Calls Tryz.prog 32 #[.slice A0 l0.length c0] w fun e w' => ∃ v0_ : Value, e = .returned (.tuple #[v0_, .int .i64 r2]) ∧ Kd.R k94 94 w' w.heap.size (fun _ => True) v0_ r1 ∧ Below w.heap.size w w' := by
  have HR0 := zad.mk hr0
  have HC0 := zad.mk hc0
  clear hr0 hc0
  have HB := zad.mk (Below.refl w.heap.size w)
  have H : (if (l0.length : Int) > 60 then (some (([] : List (S94)), 4)) else ((zc2.f l0).bind fun bt131 => (if bt131.2 = true then (if 0 ≤ (wrap64 ((bt131.1.length : Int) - 1)) then (if (wrap64 ((bt131.1.length : Int) - 1)) < (bt131.1.length : Int) then (if ((zdd bt131.1 (wrap64 ((bt131.1.length : Int) - 1))).f2) > 20 then (some (([] : List (S94)), 34)) else (some (bt131.1, 0))) else (none)) else (none)) else (some (([] : List (S94)), 8))))) = some (r1, r2) := h
  clear h
  by_cases c2 : (l0.length : Int) > 60
  · rw [if_pos c2] at H
    have c2b0 : decide (60 < (l0.length : Int)) = true := decide_eq_true c2
    have c2b1 : decide (60 < l0.length) = true := decide_eq_true (by omega)
    clear c2
    simp only [Option.some.injEq, Prod.mk.injEq] at H
    obtain ⟨rfl, rfl⟩ := H
    go_enter Tryz.func32, Tryz.ntmps32
    go_wp2
    go_ret2
    exact ⟨_, by first | rfl | (simp [zak, zal] <;> rfl) | (simp [*, zak, zal] <;> rfl), by first | exact Kd.R_nil _ _ _ _ _ | exact Kd.N_nil _ _ _ _ _ | exact Kd.V_nil _ _ _ _ _ | exact Kd.Q_nil _ _ _ _ _ | exact Kd.S_nil _ _ _ _ _, by repeat (first | (with_reducible first | exact HB.out | apply zab | apply zaa | apply zac) | exact HB.out)⟩
  · rw [if_neg c2] at H
    have c2b0 : decide (60 < (l0.length : Int)) = false := decide_eq_false c2
    have c2b1 : decide (60 < l0.length) = false := decide_eq_false (by omega)
    clear c2
    replace H := Option.bind_eq_some_iff.mp H
    obtain ⟨⟨t131, t132⟩, A30, H⟩ := H
    replace H : (if t132 = true then (if 0 ≤ (wrap64 ((t131.length : Int) - 1)) then (if (wrap64 ((t131.length : Int) - 1)) < (t131.length : Int) then (if ((zdd t131 (wrap64 ((t131.length : Int) - 1))).f2) > 20 then (some (([] : List (S94)), 34)) else (some (t131, 0))) else (none)) else (none)) else (some (([] : List (S94)), 8))) = some (r1, r2) := H
    have A3 := zad.mk A30
    clear A30
    by_cases c4 : t132 = true
    · subst c4
      have H1 : (if 0 ≤ (wrap64 ((t131.length : Int) - 1)) then (if (wrap64 ((t131.length : Int) - 1)) < (t131.length : Int) then (if ((zdd t131 (wrap64 ((t131.length : Int) - 1))).f2) > 20 then (some (([] : List (S94)), 34)) else (some (t131, 0))) else (none)) else (none)) = some (r1, r2) := by rw [if_pos rfl] at H; exact H
      clear H
      have H := H1
      clear H1
      obtain ⟨ji5, hji5⟩ : ∃ j_ : Int, (wrap64 ((t131.length : Int) - 1)) = j_ := ⟨_, rfl⟩
      replace H : (if 0 ≤ (ji5) then (if (ji5) < (t131.length : Int) then (if ((zdd t131 (ji5)).f2) > 20 then (some (([] : List (S94)), 34)) else (some (t131, 0))) else (none)) else (none)) = some (r1, r2) := by first | (rw [hji5] at H; exact H) | (simp only [hji5] at H ⊢; exact H)
      (try rw [hji5] at A3)
      have hji5w : (IntKind.i64.wrap ((t131.length : Int) - 1)) = ji5 := (i64_w _).trans hji5
      by_cases c6 : 0 ≤ (ji5)
      · rw [if_pos c6] at H
        have c6b0 : decide (0 ≤ (ji5)) = true := decide_eq_true c6
        clear c6
        by_cases c7 : (ji5) < (t131.length : Int)
        · rw [if_pos c7] at H
          have c7b0 : decide ((ji5) < (t131.length : Int)) = true := decide_eq_true c7
          clear c7
          by_cases c8 : ((zdd t131 (ji5)).f2) > 20
          · rw [if_pos c8] at H
            have c8b0 : decide (20 < ((zdd t131 (ji5)).f2)) = true := decide_eq_true c8
            clear c8
            simp only [Option.some.injEq, Prod.mk.injEq] at H
            obtain ⟨rfl, rfl⟩ := H
            go_enter Tryz.func32, Tryz.ntmps32
            go_wp2_with (first | ((with_reducible refine zav (f := 53) rfl ?_); refine zbl (some 11) rfl rfl Tryz.func53 (by kernel_rfl) rfl #[.slice A0 l0.length c0] rfl (by (try simp only [List.map_toArray, List.map_cons, List.map_nil]); first | done | rfl | (simp only [List.length_drop, List.length_take]; rfl)) ?_; (with_reducible refine (zc2.calls _ _ l0 t131 true _ ?side1 ?side2 A3.out).mono ?_); (case side1 => repeat (first | exact HR0.out | (with_reducible refine Kd.zbu ?_ _) | (with_reducible refine Kd.zbv ?_ _) | (with_reducible refine Kd.zb4 ?_))); (case side2 => exact HC0.out); rintro e w9 ⟨v133, rfl, ho0, hb⟩; refine ⟨_, rfl, ?_⟩; have n0_ := zad.mk (Kd.zbq ho0 (zao (by repeat (first | (with_reducible first | exact HB.out | apply zab | apply zaa | apply zac) | exact HB.out)))); have n1_ := zad.mk (zah (by repeat (first | (with_reducible first | exact HB.out | apply zab | apply zaa | apply zac) | exact HB.out)) hb); clear HB; have HO134 := n0_; have HB := n1_; clear n0_ n1_; (try clear hb); (try clear hb2); (try clear hk); (try clear hi); (try clear ho0); obtain ⟨Ao10, co10, eo10⟩ := Kd.zbm HO134.out; subst eo10; have p135 : 0 ≤ ((ji5) : Int) := of_decide_eq_true (by first | (with_reducible assumption) | assumption); have q135 : (ji5) < (t131.length : Int) := of_decide_eq_true (by first | (with_reducible assumption) | assumption); obtain ⟨ad135, e135, hx135_0, hx135_1, hx135_2⟩ := at_T94 (Kd.za3 HO134.out).2.2 (ji5) p135 q135; cases e135; replace p135 := eq_true p135; replace q135 := eq_true q135))
            go_ret2
            exact ⟨_, by first | rfl | (simp [zak, zal] <;> rfl) | (simp only [← hji5]; first | rfl | (simp [zak, zal] <;> rfl)) | (simp [*, zak, zal] <;> rfl), by first | exact Kd.R_nil _ _ _ _ _ | exact Kd.N_nil _ _ _ _ _ | exact Kd.V_nil _ _ _ _ _ | exact Kd.Q_nil _ _ _ _ _ | exact Kd.S_nil _ _ _ _ _, by repeat (first | (with_reducible first | exact HB.out | apply zab | apply zaa | apply zac) | exact HB.out)⟩
          · rw [if_neg c8] at H
            have c8b0 : decide (20 < ((zdd t131 (ji5)).f2)) = false := decide_eq_false c8
            clear c8
            simp only [Option.some.injEq, Prod.mk.injEq] at H
            obtain ⟨rfl, rfl⟩ := H
            go_enter Tryz.func32, Tryz.ntmps32
            go_wp2_with (first | ((with_reducible refine zav (f := 53) rfl ?_); refine zbl (some 11) rfl rfl Tryz.func53 (by kernel_rfl) rfl #[.slice A0 l0.length c0] rfl (by (try simp only [List.map_toArray, List.map_cons, List.map_nil]); first | done | rfl | (simp only [List.length_drop, List.length_take]; rfl)) ?_; (with_reducible refine (zc2.calls _ _ l0 t131 true _ ?side1 ?side2 A3.out).mono ?_); (case side1 => repeat (first | exact HR0.out | (with_reducible refine Kd.zbu ?_ _) | (with_reducible refine Kd.zbv ?_ _) | (with_reducible refine Kd.zb4 ?_))); (case side2 => exact HC0.out); rintro e w11 ⟨v133, rfl, ho0, hb⟩; refine ⟨_, rfl, ?_⟩; have n0_ := zad.mk (Kd.zbq ho0 (zao (by repeat (first | (with_reducible first | exact HB.out | apply zab | apply zaa | apply zac) | exact HB.out)))); have n1_ := zad.mk (zah (by repeat (first | (with_reducible first | exact HB.out | apply zab | apply zaa | apply zac) | exact HB.out)) hb); clear HB; have HO134 := n0_; have HB := n1_; clear n0_ n1_; (try clear hb); (try clear hb2); (try clear hk); (try clear hi); (try clear ho0); obtain ⟨Ao12, co12, eo12⟩ := Kd.zbm HO134.out; subst eo12; have p135 : 0 ≤ ((ji5) : Int) := of_decide_eq_true (by first | (with_reducible assumption) | assumption); have q135 : (ji5) < (t131.length : Int) := of_decide_eq_true (by first | (with_reducible assumption) | assumption); obtain ⟨ad135, e135, hx135_0, hx135_1, hx135_2⟩ := at_T94 (Kd.za3 HO134.out).2.2 (ji5) p135 q135; cases e135; replace p135 := eq_true p135; replace q135 := eq_true q135))
            go_ret2
            exact ⟨_, by first | rfl | (simp [zak, zal] <;> rfl) | (simp only [← hji5]; first | rfl | (simp [zak, zal] <;> rfl)) | (simp [*, zak, zal] <;> rfl), by (with_reducible repeat (first | apply Kd.zan | apply Kd.zaq | apply Kd.zaw)); exact HO134.out, by repeat (first | (with_reducible first | exact HB.out | apply zab | apply zaa | apply zac) | exact HB.out)⟩
        · rw [if_neg c7] at H
          exact absurd H (by simp)
      · rw [if_neg c6] at H
        exact absurd H (by simp)
    · replace c4 := Bool.eq_false_iff.mpr c4
      subst c4
      have H1 : (some (([] : List (S94)), 8)) = some (r1, r2) := by rw [if_neg (show ¬ (false = true) by decide)] at H; exact H
      clear H
      have H := H1
      clear H1
      simp only [Option.some.injEq, Prod.mk.injEq] at H
      obtain ⟨rfl, rfl⟩ := H
      go_enter Tryz.func32, Tryz.ntmps32
      go_wp2_with (first | ((with_reducible refine zav (f := 53) rfl ?_); refine zbl (some 11) rfl rfl Tryz.func53 (by kernel_rfl) rfl #[.slice A0 l0.length c0] rfl (by (try simp only [List.map_toArray, List.map_cons, List.map_nil]); first | done | rfl | (simp only [List.length_drop, List.length_take]; rfl)) ?_; (with_reducible refine (zc2.calls _ _ l0 t131 false _ ?side1 ?side2 A3.out).mono ?_); (case side1 => repeat (first | exact HR0.out | (with_reducible refine Kd.zbu ?_ _) | (with_reducible refine Kd.zbv ?_ _) | (with_reducible refine Kd.zb4 ?_))); (case side2 => exact HC0.out); rintro e w13 ⟨v133, rfl, ho0, hb⟩; refine ⟨_, rfl, ?_⟩; have n0_ := zad.mk (Kd.zbq ho0 (zao (by repeat (first | (with_reducible first | exact HB.out | apply zab | apply zaa | apply zac) | exact HB.out)))); have n1_ := zad.mk (zah (by repeat (first | (with_reducible first | exact HB.out | apply zab | apply zaa | apply zac) | exact HB.out)) hb); clear HB; have HO134 := n0_; have HB := n1_; clear n0_ n1_; (try clear hb); (try clear hb2); (try clear hk); (try clear hi); (try clear ho0)))
      go_ret2
      exact ⟨_, by first | rfl | (simp [zak, zal] <;> rfl) | (simp [*, zak, zal] <;> rfl), by first | exact Kd.R_nil _ _ _ _ _ | exact Kd.N_nil _ _ _ _ _ | exact Kd.V_nil _ _ _ _ _ | exact Kd.Q_nil _ _ _ _ _ | exact Kd.S_nil _ _ _ _ _, by repeat (first | (with_reducible first | exact HB.out | apply zab | apply zaa | apply zac) | exact HB.out)⟩
def zbp.f (l0 : List (S43)) : Option (Int) := (zdl.f l0).bind fun bt136 => (some bt136.2)
set_option maxHeartbeats 8000000 in
set_option maxRecDepth 100000 in
theorem zbp.calls (A0 : Option Addr) (c0 : Nat) (l0 : List (S43)) (r : Int) (w : World) (hr0 : Kd.C k43 w A0 l0.length l0) (hc0 : l0.length ≤ c0) (h : zbp.f l0 = some r) :
    Calls Tryz.prog 15 #[.slice A0 l0.length c0] w fun e w' => e = .returned (.int .i64 r) ∧ Below w.heap.size w w' := by
  have HR0 := zad.mk hr0
  have HC0 := zad.mk hc0
  clear hr0 hc0
  have HB := zad.mk (Below.refl w.heap.size w)
  have H : ((zdl.f l0).bind fun bt136 => (some bt136.2)) = some r := h
  clear h
  replace H := Option.bind_eq_some_iff.mp H
  obtain ⟨⟨t136, t137⟩, A20, H⟩ := H
  replace H : (some t137) = some r := H
  have A2 := zad.mk A20
  clear A20
  obtain rfl := Option.some.inj H
  go_enter Tryz.func15, Tryz.ntmps15
  go_wp2_with (first | ((with_reducible refine zav (f := 32) rfl ?_); refine zbl (some 7) rfl rfl Tryz.func32 (by kernel_rfl) rfl #[.slice A0 l0.length c0] rfl (by (try simp only [List.map_toArray, List.map_cons, List.map_nil]); first | done | rfl | (simp only [List.length_drop, List.length_take]; rfl)) ?_; (with_reducible refine (zdl.calls _ _ l0 t136 t137 _ ?side1 ?side2 A2.out).mono ?_); (case side1 => repeat (first | exact HR0.out | (with_reducible refine Kd.zbu ?_ _) | (with_reducible refine Kd.zbv ?_ _) | (with_reducible refine Kd.zb4 ?_))); (case side2 => exact HC0.out); rintro e w3 ⟨v138, rfl, ho0, hb⟩; refine ⟨_, rfl, ?_⟩; have n0_ := zad.mk (Kd.zbq ho0 (zao (by repeat (first | (with_reducible first | exact HB.out | apply zab | apply zaa | apply zac) | exact HB.out)))); have n1_ := zad.mk (zah (by repeat (first | (with_reducible first | exact HB.out | apply zab | apply zaa | apply zac) | exact HB.out)) hb); clear HB; have HO139 := n0_; have HB := n1_; clear n0_ n1_; (try clear hb); (try clear hb2); (try clear hk); (try clear hi); (try clear ho0)))
  go_ret
  exact ⟨by first | rfl | (simp [zak, zal] <;> rfl) | (simp [*, zak, zal] <;> rfl), by repeat (first | (with_reducible first | exact HB.out | apply zab | apply zaa | apply zac) | exact HB.out)⟩
def zcg.f (a0 : Int) : Option (Int × Int) := if 1 ≤ a0 ∧ a0 ≤ 19 then some ((Go.Proofs.YtgmmngipnjmkfaaGreatDoor.Pure.cntI a0 : Nat), 0) else some (0, 2)
theorem zcg.calls (a0 : Int) (r1 : Int) (r2 : Int) (w : World) (h : zcg.f a0 = some (r1, r2)) :
    Calls Tryz.prog 36 #[.int .u8 a0] w fun e w' => e = .returned (.tuple #[.int .i64 r1, .int .i64 r2]) ∧ Below w.heap.size w w' := by
  unfold zcg.f at h
  by_cases e : 1 ≤ a0 ∧ a0 ≤ 19
  · rw [if_pos e] at h
    obtain ⟨h1, h2⟩ := Prod.mk.inj (Option.some.inj h)
    subst h1; subst h2
    rcases (show a0 ≤ 4 ∨ (a0 = 5 ∨ a0 = 6) ∨ 7 ≤ a0 by omega) with hq | hq | hq
    · rw [Go.Proofs.YtgmmngipnjmkfaaGreatDoor.Pure.cnt_leaf hq]; exact (parts_0 a0 w e.1 hq).mono fun _ _ ⟨h3, h4⟩ => ⟨h3, h4 ▸ Below.refl _ _⟩
    · rw [Go.Proofs.YtgmmngipnjmkfaaGreatDoor.Pure.cnt_un hq]; exact (parts_1 a0 w hq).mono fun _ _ ⟨h3, h4⟩ => ⟨h3, h4 ▸ Below.refl _ _⟩
    · rw [Go.Proofs.YtgmmngipnjmkfaaGreatDoor.Pure.cnt_bin hq]; exact (parts_2 a0 w hq e.2).mono fun _ _ ⟨h3, h4⟩ => ⟨h3, h4 ▸ Below.refl _ _⟩
  · rw [if_neg e] at h
    obtain ⟨h1, h2⟩ := Prod.mk.inj (Option.some.inj h)
    subst h1; subst h2
    exact (parts_no a0 w (by omega)).mono fun _ _ ⟨h3, h4⟩ => ⟨h3, h4 ▸ Below.refl _ _⟩
def api_Node.f (l0 : List S43) : Option (List S43) := if l0.length ≤ 1000000 then some l0 else none
theorem api_Node.calls (A0 : Option Addr) (c0 : Nat) (l0 : List S43) (r : List S43) (w : World) (hr0 : Kd.C k43 w A0 l0.length l0) (hc0 : l0.length ≤ c0) (h : api_Node.f l0 = some r) :
    Calls Tryz.prog 56 #[.slice A0 l0.length c0] w fun e w' => ∃ v0_ : Value, e = .returned v0_ ∧ Kd.R k43 43 w' w.heap.size (fun _ => True) v0_ r ∧ Below w.heap.size w w' := by
  unfold api_Node.f at h
  by_cases e : l0.length ≤ 1000000
  · rw [if_pos e] at h
    obtain rfl := Option.some.inj h
    exact clone_any A0 c0 l0 w hr0 e
  · rw [if_neg e] at h; cases h
end Go.Proofs.YtgmmngipnjmkfaaGreatDoor.Q
end
section
namespace Go.Proofs.YtgmmngipnjmkfaaGreatDoor.PureL
open Go.RowKit Go.Proofs.YtgmmngipnjmkfaaGreatDoor.Hand Go.Proofs.YtgmmngipnjmkfaaGreatDoor.Q Go.Proofs.YtgmmngipnjmkfaaGreatDoorW.PrintWords Go.Proofs.YtgmmngipnjmkfaaGreatDoorW.PrintLast Go.Proofs.YtgmmngipnjmkfaaGreatDoorW.PrintMore
def ba (l : List UInt8) : ByteArray := ⟨l.toArray⟩
theorem ba_data (l : List UInt8) : (ba l).data.toList = l := rfl
theorem ba_of {t : ByteArray} {l : List UInt8} (h : t.data.toList = l) : t = ba l := by subst h; rfl
theorem ba_size (l : List UInt8) : (ba l).size = l.length := by rw [← zbs, ba_data]
def kd (b : UInt8) : Int := kindOf b.toNat
def run (q : Int) (L : List UInt8) : List UInt8 := L.takeWhile fun b => kd b == q
def tok : List UInt8 → Int × List UInt8
  | [] => (3, [])
  | c :: r => if kd c = 2 then (1, run 2 (c :: r)) else if kd c = 3 then (2, run 3 (c :: r)) else (3, (c :: r).take (symL (c :: r)).toNat)
def chk (q : Int) (t : List UInt8) : Int :=
  if q = 1 then (readL t).2 else if q = 2 then (if isWord (ba t) = true then 0 else 32) else if q = 3 then (if symL t > 0 ∧ symL t = (t.length : Int) then 0 else 32) else 32
inductive Scan : Nat → Nat → List UInt8 → List S33 → Nat → Int → Prop
  | done (a n : Nat) : Scan a n [] [] a 0
  | blank {a n : Nat} {c : UInt8} {r : List UInt8} {ts : List S33} {m : Nat} {e : Int} : kd c = 1 → Scan (a + 1) n r ts m e → Scan a n (c :: r) ts m e
  | many {a : Nat} {c : UInt8} {r : List UInt8} : kd c ≠ 1 → Scan a 200 (c :: r) [] a 4
  | bad {a n : Nat} {c : UInt8} {r : List UInt8} {e : Int} : kd c ≠ 1 → n ≠ 200 → chk (tok (c :: r)).1 (tok (c :: r)).2 = e → e ≠ 0 → Scan a n (c :: r) [] a e
  | tok {a n : Nat} {c : UInt8} {r : List UInt8} {ts : List S33} {m : Nat} {e : Int} : kd c ≠ 1 → n ≠ 200 → chk (tok (c :: r)).1 (tok (c :: r)).2 = 0 →
      Scan (a + (tok (c :: r)).2.length) (n + 1) ((c :: r).drop (tok (c :: r)).2.length) ts m e → Scan a n (c :: r) (⟨(tok (c :: r)).1, ba (tok (c :: r)).2, (a : Int)⟩ :: ts) m e
theorem run_take (q : Int) (L : List UInt8) : run q L = L.take (run q L).length := by
  unfold run
  induction L with
  | nil => rfl
  | cons c r ih =>
    by_cases h : (kd c == q) = true
    · rw [List.takeWhile_cons_of_pos (p := fun b => kd b == q) h, List.length_cons, List.take_succ_cons, ← ih]
    · rw [List.takeWhile_cons_of_neg (p := fun b => kd b == q) h]; rfl
theorem run_len (q : Int) (L : List UInt8) : (run q L).length ≤ L.length := by
  have := congrArg List.length (run_take q L)
  rw [List.length_take] at this; omega
theorem take_len (L : List UInt8) (n : Nat) : L.take n = L.take (L.take n).length := by
  rw [List.length_take]
  rcases Nat.le_total n L.length with h | h
  · rw [Nat.min_eq_left h]
  · rw [Nat.min_eq_right h, List.take_of_length_le h, List.take_length]
theorem tok_take (L : List UInt8) : (tok L).2 = L.take (tok L).2.length := by
  cases L with
  | nil => rfl
  | cons c r =>
    by_cases h2 : kd c = 2
    · simp only [tok, if_pos h2]; exact run_take _ _
    · by_cases h3 : kd c = 3
      · simp only [tok, if_neg h2, if_pos h3]; exact run_take _ _
      · simp only [tok, if_neg h2, if_neg h3]
        exact take_len _ _
theorem tok_len (L : List UInt8) : (tok L).2.length ≤ L.length := by
  have := congrArg List.length (tok_take L)
  rw [List.length_take] at this; omega
theorem chk_pos {q : Int} {t : List UInt8} (h : chk q t = 0) : t ≠ [] := by
  rintro rfl
  unfold chk at h
  by_cases h1 : q = 1
  · rw [if_pos h1] at h; exact absurd h (by decide)
  rw [if_neg h1] at h
  by_cases h2 : q = 2
  · rw [if_pos h2] at h
    have : isWord (ba []) = false := by kernel_rfl
    rw [this] at h; exact absurd h (by decide)
  rw [if_neg h2] at h
  by_cases h3 : q = 3
  · rw [if_pos h3] at h; exact absurd h (by decide)
  · rw [if_neg h3] at h; exact absurd h (by decide)
theorem tok_pos {L : List UInt8} (h : chk (tok L).1 (tok L).2 = 0) : 0 < (tok L).2.length := List.length_pos_iff.2 (chk_pos h)
theorem same_l0 (t : ByteArray) (ht : t.size ≤ 1000000) (c : UInt8) (r : List UInt8) (e : t.data.toList = c :: r) (d : Nat) : ∀ (k i : Nat), t.size - i = d → i ≤ t.size → d < k →
    za8.l0 k t (i : Int) = some ((i + (run (kd c) (t.data.toList.drop i)).length : Nat) : Int) := by
  have h0 : bt t 0 = c.toNat := bt_list t 0 c (by rw [e]; rfl)
  have hp : (0 : Int) < (t.size : Int) := by rw [← zbs, e, List.length_cons]; omega
  induction d with
  | zero =>
    intro k i hd hi hk
    obtain ⟨k, rfl⟩ : ∃ m, k = m + 1 := ⟨k - 1, by omega⟩
    simp only [za8.l0]; rw [if_neg (by omega), List.drop_of_length_le (by rw [zbs]; omega)]; rfl
  | succ d ih =>
    intro k i hd hi hk
    obtain ⟨k, rfl⟩ : ∃ m, k = m + 1 := ⟨k - 1, by omega⟩
    have hlt : i < t.data.toList.length := by rw [zbs]; omega
    have hih := ih k (i + 1) (by omega) (by omega) (by omega)
    have hb : bt t (i : Int) = (t.data.toList[i]).toNat := bt_list t i _ (List.getElem?_eq_getElem hlt)
    rw [List.drop_eq_getElem_cons hlt]
    simp only [za8.l0, zbz.f, Option.bind_some]
    rw [if_pos (by omega), if_pos (by omega), if_pos hp, hb, h0]
    have hw : wrap64 ((i : Int) + 1) = ((i + 1 : Nat) : Int) := by clear hih ih; unfold wrap64; omega
    by_cases q : kindOf ((t.data.toList[i]).toNat : Int) = kindOf (c.toNat : Int)
    · rw [if_pos q, hw, hih]
      unfold run
      rw [List.takeWhile_cons_of_pos (by simpa [kd] using q), List.length_cons]
      congr 2; omega
    · rw [if_neg q]
      unfold run
      rw [List.takeWhile_cons_of_neg (by simpa [kd] using q)]; rfl
theorem same_f (t : ByteArray) (ht : t.size ≤ 1000000) (c : UInt8) (r : List UInt8) (e : t.data.toList = c :: r) (k : Nat) (hk : t.size ≤ k) : za8.f k t = some ((run (kd c) (c :: r)).length : Int) := by
  have hz : t.size = r.length + 1 := by rw [← zbs, e, List.length_cons]
  have h := same_l0 t ht c r e (t.size - 1) k 1 rfl (by omega) (by omega)
  unfold za8.f
  refine (show za8.l0 k t 1 = za8.l0 k t ((1 : Nat) : Int) from rfl).trans (h.trans ?_)
  rw [e, List.drop_one, List.tail_cons]
  unfold run
  rw [List.takeWhile_cons_of_pos (by simp), List.length_cons]
  congr 2; omega
theorem ext_ba (s : ByteArray) (a b : Nat) : s.extract a b = ba ((s.data.toList.drop a).take (b - a)) := ba_of (Lib.extract_data ..)
theorem symL_le (L : List UInt8) : 0 ≤ symL L ∧ symL L ≤ (L.length : Int) := by
  match L with
  | [] => exact ⟨Int.le_refl _, Int.le_refl _⟩
  | a :: r =>
    rcases zdw a r with h | h | ⟨b, l, rfl, h, _⟩
    · rw [h.1]; exact ⟨by omega, by omega⟩
    · rw [h.1, List.length_cons]; exact ⟨by omega, by omega⟩
    · rw [h, List.length_cons, List.length_cons]; exact ⟨by omega, by omega⟩
theorem symbol_zero (t : ByteArray) : zcf.f t 0 = some (symL t.data.toList, 0) := by
  unfold zcf.f
  rw [if_neg (by omega), symT_L, Lib.extract_data]
  simp only [Int.toNat_zero, List.drop_zero, Nat.sub_zero]
  rw [List.take_of_length_le (by rw [zbs]; exact Nat.le_refl _)]
theorem token_f (t : ByteArray) (ht : t.size ≤ 1000000) (c : UInt8) (r : List UInt8) (e : t.data.toList = c :: r) (k : Nat) (hk : t.size ≤ k) : zb9.f k t = some ((tok (c :: r)).1, ba (tok (c :: r)).2, 0) := by
  have h0 : bt t 0 = c.toNat := bt_list t 0 c (by rw [e]; rfl)
  have hz : t.size = r.length + 1 := by rw [← zbs, e, List.length_cons]
  have hR : ∀ q, ((run q (c :: r)).length : Int) ≤ (t.size : Int) := fun q => by have := run_len q (c :: r); rw [List.length_cons] at this; omega
  unfold zb9.f
  rw [if_pos (by omega), h0]
  simp only [zbz.f, Option.bind_some]
  have hext : ∀ n : Nat, t.extract 0 ((n : Int)).toNat = ba ((c :: r).take n) := fun n => by rw [Int.toNat_natCast, ext_ba, e, List.drop_zero, Nat.sub_zero]
  by_cases h2 : kindOf (c.toNat : Int) = 2
  · have k2 : kd c = 2 := h2
    rw [if_pos h2, same_f t ht c r e k hk, k2]
    simp only [Option.bind_some]
    rw [if_pos (by omega), if_pos (hR 2), hext, ← run_take]
    simp only [tok, if_pos k2]
  · have k2 : ¬ kd c = 2 := h2
    rw [if_neg h2]
    by_cases h3 : kindOf (c.toNat : Int) = 3
    · have k3 : kd c = 3 := h3
      rw [if_pos h3, same_f t ht c r e k hk, k3]
      simp only [Option.bind_some]
      rw [if_pos (by omega), if_pos (hR 3), hext, ← run_take]
      simp only [tok, if_neg k2, if_pos k3]
    · have k3 : ¬ kd c = 3 := h3
      have hs := symL_le (c :: r)
      rw [if_neg h3, symbol_zero, e]
      simp only [Option.bind_some]
      rw [List.length_cons] at hs
      rw [if_pos hs.1, if_pos (by omega), ext_ba, e, List.drop_zero, Nat.sub_zero]
      simp only [tok, if_neg k2, if_neg k3]
theorem check_f (k : Nat) (hk : 0 < k) (q : Int) (t : ByteArray) (a : Int) (ht : t.size ≤ 140737488351232) : za6.f k q t a = some (chk q t.data.toList) := by
  obtain ⟨k, rfl⟩ : ∃ m, k = m + 1 := ⟨k - 1, by omega⟩
  have hz : (t.size : Int) = (t.data.toList.length : Int) := by rw [zbs]
  have hba : ba t.data.toList = t := (ba_of rfl).symm
  unfold za6.f chk
  by_cases h1 : q = 1
  · rw [if_pos h1, if_pos h1]; unfold zd3.f; rw [if_pos ht]; rfl
  rw [if_neg h1, if_neg h1]
  by_cases h2 : q = 2
  · rw [if_pos h2, if_pos h2, hba]; unfold zdh.f; simp only [Option.bind_some]
    cases isWord t <;> rfl
  rw [if_neg h2, if_neg h2]
  by_cases h3 : q = 3
  · rw [if_pos h3, if_pos h3, symbol_zero]
    simp only [Option.bind_some, if_true]
    by_cases h4 : symL t.data.toList > 0
    · rw [if_pos h4, hz]
      simp only [za6.j0]
      by_cases h5 : symL t.data.toList = (t.data.toList.length : Int)
      · rw [if_pos (beq_t h5), if_pos ⟨h4, h5⟩]
      · rw [if_neg (by rw [beq_f h5]; simp), if_neg (fun h => h5 h.2)]
    · rw [if_neg h4, if_neg (fun h => h4 h.1)]
      simp only [za6.j0]; rfl
  · rw [if_neg h3, if_neg h3]
theorem all_l0 (s : ByteArray) (hs : s.size ≤ 400) {a n : Nat} {L : List UInt8} {ts : List S33} {m : Nat} {e : Int} (h : Scan a n L ts m e) : ∀ (k : Nat) (acc : List S33), a ≤ s.size → s.data.toList.drop a = L → acc.length = n → L.length < k → n ≤ a →
    zbe.l0 k s acc (a : Int) = some (if e = 0 then (acc ++ ts, (m : Int), 0) else ([], (m : Int), e)) := by
  have hlen : ∀ a, (s.data.toList.drop a).length = s.size - a := fun a => by rw [List.length_drop, zbs]
  have hbt : ∀ a c r, s.data.toList.drop a = c :: r → bt s ((a : Nat) : Int) = c.toNat ∧ a < s.size := fun a c r h => by
    refine ⟨bt_list s a c ?_, ?_⟩
    · have := congrArg (fun l => l[0]?) h
      simpa using this
    · have := hlen a; rw [h, List.length_cons] at this; omega
  induction h with
  | done a n =>
    intro k acc ha hL hn hk _
    obtain ⟨k, rfl⟩ : ∃ m, k = m + 1 := ⟨k - 1, by omega⟩
    have := hlen a
    rw [hL, List.length_nil] at this
    simp only [zbe.l0]
    rw [if_neg (by omega), if_pos trivial, List.append_nil, show (s.size : Int) = (a : Int) by omega]
  | @blank a n c r ts m e hb _ ih =>
    intro k acc ha hL hn hk hna
    obtain ⟨k, rfl⟩ : ∃ m, k = m + 1 := ⟨k - 1, by omega⟩
    obtain ⟨hc, hlt⟩ := hbt a c r hL
    have hL' : s.data.toList.drop (a + 1) = r := by rw [← List.drop_drop, hL]; rfl
    have hi := ih k acc (by omega) hL' hn (by rw [List.length_cons] at hk; omega) (by omega)
    simp only [zbe.l0, zbz.f, Option.bind_some]
    rw [if_pos (by omega), if_pos (by omega), hc, if_pos (show kindOf (c.toNat : Int) = 1 from hb)]
    rw [show wrap64 ((a : Int) + 1) = ((a + 1 : Nat) : Int) by clear hi ih; unfold wrap64; omega]
    exact hi
  | @many a c r hb =>
    intro k acc ha hL hn hk _
    obtain ⟨k, rfl⟩ : ∃ m, k = m + 1 := ⟨k - 1, by omega⟩
    obtain ⟨hc, hlt⟩ := hbt a c r hL
    simp only [zbe.l0, zbz.f, Option.bind_some]
    rw [if_pos (by omega), if_pos (by omega), hc, if_neg (show ¬ kindOf (c.toNat : Int) = 1 from hb), if_pos (by rw [hn]; rfl), if_neg (by decide)]
  | @bad a n c r e hb hn200 hchk he =>
    intro k acc ha hL hn hk _
    obtain ⟨k, rfl⟩ : ∃ m, k = m + 1 := ⟨k - 1, by omega⟩
    have hk0 : 0 < k := by rw [List.length_cons] at hk; omega
    obtain ⟨hc, hlt⟩ := hbt a c r hL
    have hsz : (s.extract a s.size).data.toList = c :: r := by rw [Lib.extract_data, List.take_of_length_le (by rw [hlen]; exact Nat.le_refl _), hL]
    have hss : (s.extract a s.size).size = s.size - a := by rw [← zbs, hsz, ← hL, hlen]
    have hle := hlen a
    rw [hL] at hle
    have htk := token_f (s.extract a s.size) (by omega) c r hsz k (by omega)
    have htl := tok_len (c :: r)
    simp only [zbe.l0, zbz.f, Option.bind_some]
    rw [if_pos (by omega), if_pos (by omega), hc, if_neg (show ¬ kindOf (c.toNat : Int) = 1 from hb), if_neg (by omega), if_pos (by omega), Int.toNat_natCast, htk]
    simp only [Option.bind_some]
    rw [check_f k hk0 _ _ _ (by rw [ba_size]; omega), ba_data, hchk]
    simp only [Option.bind_some]
    rw [if_neg he, if_neg he]
  | @tok a n c r ts m e hb hn200 hchk _ ih =>
    intro k acc ha hL hn hk hna
    obtain ⟨k, rfl⟩ : ∃ m, k = m + 1 := ⟨k - 1, by omega⟩
    have hk0 : 0 < k := by rw [List.length_cons] at hk; omega
    obtain ⟨hc, hlt⟩ := hbt a c r hL
    have hsz : (s.extract a s.size).data.toList = c :: r := by rw [Lib.extract_data, List.take_of_length_le (by rw [hlen]; exact Nat.le_refl _), hL]
    have hss : (s.extract a s.size).size = s.size - a := by rw [← zbs, hsz, ← hL, hlen]
    have hle := hlen a
    rw [hL] at hle
    have htk := token_f (s.extract a s.size) (by omega) c r hsz k (by omega)
    have htl := tok_len (c :: r)
    have hp := tok_pos hchk
    have hi := ih k (acc ++ [⟨(tok (c :: r)).1, ba (tok (c :: r)).2, (a : Int)⟩]) (by omega) (by rw [← List.drop_drop, hL]) (by rw [List.length_append, hn]; rfl) (by rw [List.length_drop]; omega) (by omega)
    simp only [zbe.l0, zbz.f, Option.bind_some]
    rw [if_pos (by omega), if_pos (by omega), hc, if_neg (show ¬ kindOf (c.toNat : Int) = 1 from hb), if_neg (by omega), if_pos (by omega), Int.toNat_natCast, htk]
    simp only [Option.bind_some]
    rw [check_f k hk0 _ _ _ (by rw [ba_size]; omega), ba_data, hchk]
    simp only [Option.bind_some]
    rw [if_pos trivial, if_pos (by omega), ba_size]
    rw [show wrap64 ((a : Int) + ((tok (c :: r)).2.length : Int)) = ((a + (tok (c :: r)).2.length : Nat) : Int) by clear hi ih; unfold wrap64; omega]
    rw [hi, List.append_assoc]; rfl
def res (ts : List S33) (m : Nat) (e : Int) : List S33 × Int × Int := if e = 0 then (ts, (m : Int), 0) else ([], (m : Int), e)
theorem all_f (s : ByteArray) (hs : s.size ≤ 400) {ts : List S33} {m : Nat} {e : Int} (h : Scan 0 0 s.data.toList ts m e) (k : Nat) (hk : s.size < k) : zbe.f k s = some (res ts m e) := by
  unfold zbe.f
  rw [if_neg (by omega)]
  have := all_l0 s hs h k [] (by omega) rfl rfl (by rw [zbs]; exact hk) (Nat.le_refl _)
  simpa [res] using this
end Go.Proofs.YtgmmngipnjmkfaaGreatDoor.PureL
end
