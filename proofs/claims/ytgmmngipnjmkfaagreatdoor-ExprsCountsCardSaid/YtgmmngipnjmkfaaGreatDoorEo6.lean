/- Lemmas of the proof (cut to what it uses, by wip/trim.py). -/
import Derived.Lib.ItoaNum
import Derived.Test.YtgmmngipnjmkfaaGreatDoorEo1
import Derived.Test.YtgmmngipnjmkfaaGreatDoorEo3
import Derived.Test.YtgmmngipnjmkfaaGreatDoorEo4
import Derived.Test.YtgmmngipnjmkfaaGreatDoorEo5
section
namespace Go.Proofs.YtgmmngipnjmkfaaGreatDoor.Q
open Go.Proofs.YtgmmngipnjmkfaaGreatDoor.Hand
open Go.RowKit Go.Proofs.YtgmmngipnjmkfaaGreatDoorW.PrintWords Go.Proofs.YtgmmngipnjmkfaaGreatDoorW.PrintLast Go.Proofs.YtgmmngipnjmkfaaGreatDoorW.PrintMore
attribute [local go_sem] zda zdb zdm zdn zcq zcr zdc zdd
set_option linter.unusedVariables false
set_option linter.unusedSimpArgs false
def zay.j0 : Nat → Bool → Option (Int)
  | 0, _ => none
  | k + 1, x43 => if x43 = true then (some 0) else (some 32)
def zay.f (k : Nat) (a0_0 : Int) (a0_1 : ByteArray) (a0_2 : Int) : Option (Int) := if a0_0 = 1 then ((zdo.f a0_1).bind fun bt110 => (some bt110.2)) else (if a0_0 = 2 then ((zc2.f a0_1).bind fun t112 => (if t112 = true then (some 0) else (some 32))) else (if a0_0 = 3 then ((zb1.f a0_1 0).bind fun bt113 => (if bt113.2 = 0 then (if bt113.1 > 0 then (zay.j0 k (bt113.1 == (a0_1.size : Int))) else (zay.j0 k false)) else (zay.j0 k false))) else (some 32)))
theorem zay.zdf : ∀ k, (∀ y0, LeO (zay.j0 k y0) (zay.j0 (k + 1) y0))
  | 0 => fun _ r h => by simp [zay.j0] at h
  | k + 1 => by
    have ih0 := zay.zdf k
    · intro y0
      unfold zay.j0
      repeat' first
      | (with_reducible exact ih0 _)
      | (with_reducible exact LeO.refl _)
      | (with_reducible exact LeO.none _)
      | (with_reducible refine LeO.ite ?_ ?_)
      | (with_reducible refine LeO.bind ?_ (fun _ => ?_))
      | exact ih0 _
      | exact LeO.none _
      | refine LeO.ite ?_ ?_
      | refine LeO.bind ?_ (fun _ => ?_)
theorem zay.mono : ∀ a0 a1 a2 k, LeO (zay.f k a0 a1 a2) (zay.f (k + 1) a0 a1 a2) := by
  intro a0 a1 a2 k
  have ih0 := zay.zdf k
  unfold zay.f
  repeat' first
      | (with_reducible exact ih0 _)
      | (with_reducible exact LeO.refl _)
      | (with_reducible exact LeO.none _)
      | (with_reducible refine LeO.ite ?_ ?_)
      | (with_reducible refine LeO.bind ?_ (fun _ => ?_))
      | exact ih0 _
      | exact LeO.none _
      | refine LeO.ite ?_ ?_
      | refine LeO.bind ?_ (fun _ => ?_)
set_option maxHeartbeats 8000000 in
set_option maxRecDepth 100000 in
theorem zay.calls (k : Nat) (a0_0 : Int) (a0_1 : ByteArray) (a0_2 : Int) (r : Int) (w : World) (hT : Tabs w) (h : zay.f k a0_0 a0_1 a0_2 = some r) :
 Calls Tryz.prog 27 #[.agg #[.int .u8 a0_0, .string a0_1, .int .i64 a0_2]] w fun e w' => e = .returned (.int .i64 r) ∧ Below w.heap.size w w' := by
 have hu33 := Tryz.underlying33
 have HB := zad.mk (Below.refl w.heap.size w)
 have H : (if a0_0 = 1 then ((zdo.f a0_1).bind fun bt110 => (some bt110.2)) else (if a0_0 = 2 then ((zc2.f a0_1).bind fun t112 => (if t112 = true then (some 0) else (some 32))) else (if a0_0 = 3 then ((zb1.f a0_1 0).bind fun bt113 => (if bt113.2 = 0 then (if bt113.1 > 0 then (zay.j0 k (bt113.1 == (a0_1.size : Int))) else (zay.j0 k false)) else (zay.j0 k false))) else (some 32)))) = some r := h
 clear h
 by_cases c2 : a0_0 = 1
 ·rw [if_pos c2] at H
  have c2b0 : (a0_0 == 1) = true := beq_iff_eq.mpr c2
  have c2b1 : (a0_0 != 1) = false := bne_eq_false_iff_eq.mpr c2
  clear c2
  replace H := Option.bind_eq_some_iff.mp H
  obtain ⟨⟨t110, t111⟩, A30, H⟩ := H
  replace H : (some t111) = some r := H
  have A3 := zad.mk A30
  clear A30
  obtain rfl := Option.some.inj H
  go_enter Tryz.func27, Tryz.ntmps27
  go_wp2_with (first | ((with_reducible refine zbt (N := 1) rfl ?_); (try (refine zb3 (by rfl) ?_; dsimp only)); refine zbs ?hg (N := 1) ?hd (cs := #[.int .u8 a0_0, .string a0_1, .int .i64 a0_2]) (t := 33) ?hr ?_; (case hd => rfl); (case hg => rfl); (case hr => first | (go_simp; done) | (go_simp; rfl)); intro gb109 hg w4 hbox hb; have n0_ := zad.mk (zaf (by repeat (first | (with_reducible first | exact HB.out | apply zab | apply zaa | apply zac) | exact HB.out)) hb); have n1_ := zad.mk (hbox); have n2_ := zad.mk ((by rw [hg]; exact (zao (by repeat (first | (with_reducible first | exact HB.out | apply zab | apply zaa | apply zac) | exact HB.out))) : w.heap.size ≤ gb109)); have n3_ := zad.mk ((by rw [hg]; exact (zao (by repeat (first | (with_reducible first | exact HB.out | apply zab | apply zaa | apply zac) | exact HB.out))) : w.heap.size ≤ gb109)); clear HB; have HB := n0_; have BK109 := n1_; have GW109 := n2_; have GE109 := n3_; clear n0_ n1_ n2_ n3_; clear hb hbox hg; have hcz5_0 : w4.cell? ⟨gb109, 0, none⟩ = some (.int .u8 a0_0) := (zal BK109.out 0).trans rfl; have hcz5_1 : w4.cell? ⟨gb109, 1, none⟩ = some (.string a0_1) := (zal BK109.out 1).trans rfl; have hcz5_2 : w4.cell? ⟨gb109, 2, none⟩ = some (.int .i64 a0_2) := (zal BK109.out 2).trans rfl; have hfz5_0 := zaj BK109.out 0; have hfz5_1 := zaj BK109.out 1; have hfz5_2 := zaj BK109.out 2) | ((with_reducible refine zan (f := 41) rfl ?_); refine zbd (some 14) rfl rfl Tryz.func41 (by kernel_rfl) rfl #[.string a0_1] rfl (by (try simp only [List.map_toArray, List.map_cons, List.map_nil]); first | done | rfl | (simp only [List.length_drop, List.length_take]; rfl)) ?_; (with_reducible refine (zdo.calls a0_1 t110 t111 _ ?side1 A3.out).mono ?_); (case side1 => exact Tabs.below hT (by repeat (first | (with_reducible first | exact HB.out | apply zab | apply zaa | apply zac | refine zaq ?_ GE109.out) | exact HB.out))); rintro e w6 ⟨rfl, hb⟩; refine ⟨_, rfl, ?_⟩; have n0_ := zad.mk (zbn (g := gb109) (o := .cells #[.int .u8 a0_0, .string a0_1, .int .i64 a0_2] 33 (0, 0)) (by (with_reducible repeat (first | refine zas ?_ _ | refine zaw ?_ | refine zar ?_ _)); exact BK109.out) hb); have n1_ := zad.mk (zaf (by repeat (first | (with_reducible first | exact HB.out | apply zab | apply zaa | apply zac | refine zaq ?_ GE109.out) | exact HB.out)) hb); clear BK109; clear HB; have BK109 := n0_; have HB := n1_; clear n0_ n1_; (try clear hb); (try clear hb2); (try clear hk); (try clear hi)))
  go_ret
  exact ⟨by first | rfl | (simp [zah, zai] <;> rfl) | (simp [*, zah, zai] <;> rfl), by repeat (first | (with_reducible first | exact HB.out | apply zab | apply zaa | apply zac | refine zaq ?_ GE109.out) | exact HB.out)⟩
 ·rw [if_neg c2] at H
  have c2b0 : (a0_0 == 1) = false := beq_eq_false_iff_ne.mpr c2
  have c2b1 : (a0_0 != 1) = true := bne_iff_ne.mpr c2
  by_cases c7 : a0_0 = 2
  ·rw [if_pos c7] at H
   have c7b0 : (a0_0 == 2) = true := beq_iff_eq.mpr c7
   have c7b1 : (a0_0 != 2) = false := bne_eq_false_iff_eq.mpr c7
   clear c7
   replace H := Option.bind_eq_some_iff.mp H
   obtain ⟨t112, A80, H⟩ := H
   replace H : (if t112 = true then (some 0) else (some 32)) = some r := H
   have A8 := zad.mk A80
   clear A80
   by_cases c9 : t112 = true
   ·subst c9
    have H1 : (some 0) = some r := by rw [if_pos rfl] at H; exact H
    clear H
    have H := H1
    clear H1
    obtain rfl := Option.some.inj H
    go_enter Tryz.func27, Tryz.ntmps27
    go_wp2_with (first | ((with_reducible refine zbt (N := 1) rfl ?_); (try (refine zb3 (by rfl) ?_; dsimp only)); refine zbs ?hg (N := 1) ?hd (cs := #[.int .u8 a0_0, .string a0_1, .int .i64 a0_2]) (t := 33) ?hr ?_; (case hd => rfl); (case hg => rfl); (case hr => first | (go_simp; done) | (go_simp; rfl)); intro gb109 hg w10 hbox hb; have n0_ := zad.mk (zaf (by repeat (first | (with_reducible first | exact HB.out | apply zab | apply zaa | apply zac) | exact HB.out)) hb); have n1_ := zad.mk (hbox); have n2_ := zad.mk ((by rw [hg]; exact (zao (by repeat (first | (with_reducible first | exact HB.out | apply zab | apply zaa | apply zac) | exact HB.out))) : w.heap.size ≤ gb109)); have n3_ := zad.mk ((by rw [hg]; exact (zao (by repeat (first | (with_reducible first | exact HB.out | apply zab | apply zaa | apply zac) | exact HB.out))) : w.heap.size ≤ gb109)); clear HB; have HB := n0_; have BK109 := n1_; have GW109 := n2_; have GE109 := n3_; clear n0_ n1_ n2_ n3_; clear hb hbox hg; have hcz11_0 : w10.cell? ⟨gb109, 0, none⟩ = some (.int .u8 a0_0) := (zal BK109.out 0).trans rfl; have hcz11_1 : w10.cell? ⟨gb109, 1, none⟩ = some (.string a0_1) := (zal BK109.out 1).trans rfl; have hcz11_2 : w10.cell? ⟨gb109, 2, none⟩ = some (.int .i64 a0_2) := (zal BK109.out 2).trans rfl; have hfz11_0 := zaj BK109.out 0; have hfz11_1 := zaj BK109.out 1; have hfz11_2 := zaj BK109.out 2) | ((with_reducible refine zan (f := 42) rfl ?_); refine zbd (some 22) rfl rfl Tryz.func42 (by kernel_rfl) rfl #[.string a0_1] rfl (by (try simp only [List.map_toArray, List.map_cons, List.map_nil]); first | done | rfl | (simp only [List.length_drop, List.length_take]; rfl)) ?_; (with_reducible refine (zc2.calls a0_1 true _ ?side1 A8.out).mono ?_); (case side1 => exact Tabs.below hT (by repeat (first | (with_reducible first | exact HB.out | apply zab | apply zaa | apply zac | refine zaq ?_ GE109.out) | exact HB.out))); rintro e w12 ⟨rfl, hb⟩; refine ⟨_, rfl, ?_⟩; have n0_ := zad.mk (zbn (g := gb109) (o := .cells #[.int .u8 a0_0, .string a0_1, .int .i64 a0_2] 33 (0, 0)) (by (with_reducible repeat (first | refine zas ?_ _ | refine zaw ?_ | refine zar ?_ _)); exact BK109.out) hb); have n1_ := zad.mk (zaf (by repeat (first | (with_reducible first | exact HB.out | apply zab | apply zaa | apply zac | refine zaq ?_ GE109.out) | exact HB.out)) hb); clear BK109; clear HB; have BK109 := n0_; have HB := n1_; clear n0_ n1_; (try clear hb); (try clear hb2); (try clear hk); (try clear hi)))
    go_ret
    exact ⟨by first | rfl | (simp [zah, zai] <;> rfl) | (simp [*, zah, zai] <;> rfl), by repeat (first | (with_reducible first | exact HB.out | apply zab | apply zaa | apply zac | refine zaq ?_ GE109.out) | exact HB.out)⟩
   ·replace c9 := Bool.eq_false_iff.mpr c9
    subst c9
    have H1 : (some 32) = some r := by rw [if_neg (show ¬ (false = true) by decide)] at H; exact H
    clear H
    have H := H1
    clear H1
    obtain rfl := Option.some.inj H
    go_enter Tryz.func27, Tryz.ntmps27
    go_wp2_with (first | ((with_reducible refine zbt (N := 1) rfl ?_); (try (refine zb3 (by rfl) ?_; dsimp only)); refine zbs ?hg (N := 1) ?hd (cs := #[.int .u8 a0_0, .string a0_1, .int .i64 a0_2]) (t := 33) ?hr ?_; (case hd => rfl); (case hg => rfl); (case hr => first | (go_simp; done) | (go_simp; rfl)); intro gb109 hg w13 hbox hb; have n0_ := zad.mk (zaf (by repeat (first | (with_reducible first | exact HB.out | apply zab | apply zaa | apply zac) | exact HB.out)) hb); have n1_ := zad.mk (hbox); have n2_ := zad.mk ((by rw [hg]; exact (zao (by repeat (first | (with_reducible first | exact HB.out | apply zab | apply zaa | apply zac) | exact HB.out))) : w.heap.size ≤ gb109)); have n3_ := zad.mk ((by rw [hg]; exact (zao (by repeat (first | (with_reducible first | exact HB.out | apply zab | apply zaa | apply zac) | exact HB.out))) : w.heap.size ≤ gb109)); clear HB; have HB := n0_; have BK109 := n1_; have GW109 := n2_; have GE109 := n3_; clear n0_ n1_ n2_ n3_; clear hb hbox hg; have hcz14_0 : w13.cell? ⟨gb109, 0, none⟩ = some (.int .u8 a0_0) := (zal BK109.out 0).trans rfl; have hcz14_1 : w13.cell? ⟨gb109, 1, none⟩ = some (.string a0_1) := (zal BK109.out 1).trans rfl; have hcz14_2 : w13.cell? ⟨gb109, 2, none⟩ = some (.int .i64 a0_2) := (zal BK109.out 2).trans rfl; have hfz14_0 := zaj BK109.out 0; have hfz14_1 := zaj BK109.out 1; have hfz14_2 := zaj BK109.out 2) | ((with_reducible refine zan (f := 42) rfl ?_); refine zbd (some 22) rfl rfl Tryz.func42 (by kernel_rfl) rfl #[.string a0_1] rfl (by (try simp only [List.map_toArray, List.map_cons, List.map_nil]); first | done | rfl | (simp only [List.length_drop, List.length_take]; rfl)) ?_; (with_reducible refine (zc2.calls a0_1 false _ ?side1 A8.out).mono ?_); (case side1 => exact Tabs.below hT (by repeat (first | (with_reducible first | exact HB.out | apply zab | apply zaa | apply zac | refine zaq ?_ GE109.out) | exact HB.out))); rintro e w15 ⟨rfl, hb⟩; refine ⟨_, rfl, ?_⟩; have n0_ := zad.mk (zbn (g := gb109) (o := .cells #[.int .u8 a0_0, .string a0_1, .int .i64 a0_2] 33 (0, 0)) (by (with_reducible repeat (first | refine zas ?_ _ | refine zaw ?_ | refine zar ?_ _)); exact BK109.out) hb); have n1_ := zad.mk (zaf (by repeat (first | (with_reducible first | exact HB.out | apply zab | apply zaa | apply zac | refine zaq ?_ GE109.out) | exact HB.out)) hb); clear BK109; clear HB; have BK109 := n0_; have HB := n1_; clear n0_ n1_; (try clear hb); (try clear hb2); (try clear hk); (try clear hi)))
    go_ret
    exact ⟨by first | rfl | (simp [zah, zai] <;> rfl) | (simp [*, zah, zai] <;> rfl), by repeat (first | (with_reducible first | exact HB.out | apply zab | apply zaa | apply zac | refine zaq ?_ GE109.out) | exact HB.out)⟩
  ·rw [if_neg c7] at H
   have c7b0 : (a0_0 == 2) = false := beq_eq_false_iff_ne.mpr c7
   have c7b1 : (a0_0 != 2) = true := bne_iff_ne.mpr c7
   by_cases c16 : a0_0 = 3
   ·rw [if_pos c16] at H
    have c16b0 : (a0_0 == 3) = true := beq_iff_eq.mpr c16
    have c16b1 : (a0_0 != 3) = false := bne_eq_false_iff_eq.mpr c16
    clear c16
    replace H := Option.bind_eq_some_iff.mp H
    obtain ⟨⟨t113, t114⟩, A170, H⟩ := H
    replace H : (if t114 = 0 then (if t113 > 0 then (zay.j0 k (t113 == (a0_1.size : Int))) else (zay.j0 k false)) else (zay.j0 k false)) = some r := H
    have A17 := zad.mk A170
    clear A170
    have HC18 := zad.mk H
    clear H
    go_enter Tryz.func27, Tryz.ntmps27
    go_upto_region 10 with (first | ((with_reducible refine zbt (N := 1) rfl ?_); (try (refine zb3 (by rfl) ?_; dsimp only)); refine zbs ?hg (N := 1) ?hd (cs := #[.int .u8 a0_0, .string a0_1, .int .i64 a0_2]) (t := 33) ?hr ?_; (case hd => rfl); (case hg => rfl); (case hr => first | (go_simp; done) | (go_simp; rfl)); intro gb109 hg w19 hbox hb; have n0_ := zad.mk (zaf (by repeat (first | (with_reducible first | exact HB.out | apply zab | apply zaa | apply zac) | exact HB.out)) hb); have n1_ := zad.mk (hbox); have n2_ := zad.mk ((by rw [hg]; exact (zao (by repeat (first | (with_reducible first | exact HB.out | apply zab | apply zaa | apply zac) | exact HB.out))) : w.heap.size ≤ gb109)); have n3_ := zad.mk ((by rw [hg]; exact (zao (by repeat (first | (with_reducible first | exact HB.out | apply zab | apply zaa | apply zac) | exact HB.out))) : w.heap.size ≤ gb109)); clear HB; have HB := n0_; have BK109 := n1_; have GW109 := n2_; have GE109 := n3_; clear n0_ n1_ n2_ n3_; clear hb hbox hg; have hcz20_0 : w19.cell? ⟨gb109, 0, none⟩ = some (.int .u8 a0_0) := (zal BK109.out 0).trans rfl; have hcz20_1 : w19.cell? ⟨gb109, 1, none⟩ = some (.string a0_1) := (zal BK109.out 1).trans rfl; have hcz20_2 : w19.cell? ⟨gb109, 2, none⟩ = some (.int .i64 a0_2) := (zal BK109.out 2).trans rfl; have hfz20_0 := zaj BK109.out 0; have hfz20_1 := zaj BK109.out 1; have hfz20_2 := zaj BK109.out 2) | ((with_reducible refine zan (f := 40) rfl ?_); refine zbd (some 28) rfl rfl Tryz.func40 (by kernel_rfl) rfl #[.string a0_1, .int .i64 0] rfl (by (try simp only [List.map_toArray, List.map_cons, List.map_nil]); first | done | rfl | (simp only [List.length_drop, List.length_take]; rfl)) ?_; (with_reducible refine (zb1.calls a0_1 0 t113 t114 _ A17.out).mono ?_); rintro e w21 ⟨rfl, hb⟩; refine ⟨_, rfl, ?_⟩; have n0_ := zad.mk (zbn (g := gb109) (o := .cells #[.int .u8 a0_0, .string a0_1, .int .i64 a0_2] 33 (0, 0)) (by (with_reducible repeat (first | refine zas ?_ _ | refine zaw ?_ | refine zar ?_ _)); exact BK109.out) hb); have n1_ := zad.mk (zaf (by repeat (first | (with_reducible first | exact HB.out | apply zab | apply zaa | apply zac | refine zaq ?_ GE109.out) | exact HB.out)) hb); clear BK109; clear HB; have BK109 := n0_; have HB := n1_; clear n0_ n1_; (try clear hb); (try clear hb2); (try clear hk); (try clear hi)))
    (try simp only [Act.put, List.setIfInBounds_toArray, List.set_cons_zero, List.set_cons_succ])
    go_cut [43] (fun v43 wc => ∃ (kq : Nat) (x43_17 : Bool), v43 = .bool x43_17 ∧ zad (zay.j0 kq x43_17 = some r) ∧ zad (kq ≤ k) ∧ zad (wc.heap[gb109]? = some (.cells #[.int .u8 a0_0, .string a0_1, .int .i64 a0_2] 33 (0, 0))) ∧ zad (Below w.heap.size w wc))
    case first =>
     have H := HC18.out
     clear HC18
     by_cases c22 : t114 = 0
     ·rw [if_pos c22] at H
      have c22b0 : (t114 == 0) = true := beq_iff_eq.mpr c22
      have c22b1 : (t114 != 0) = false := bne_eq_false_iff_eq.mpr c22
      clear c22
      (first | rw [c22b0] | (simp only [i64_w, i32_w]; rw [c22b0]) | skip)
      by_cases c23 : t113 > 0
      ·rw [if_pos c23] at H
       have c23b0 : decide (0 < t113) = true := decide_eq_true c23
       clear c23
       have H' := zad.mk H
       clear H
       have hcz24_0 : w21.cell? ⟨gb109, 0, none⟩ = some (.int .u8 a0_0) := (zal BK109.out 0).trans rfl
       have hcz24_1 : w21.cell? ⟨gb109, 1, none⟩ = some (.string a0_1) := (zal BK109.out 1).trans rfl
       have hcz24_2 : w21.cell? ⟨gb109, 2, none⟩ = some (.int .i64 a0_2) := (zal BK109.out 2).trans rfl
       have hfz24_0 := zaj BK109.out 0
       have hfz24_1 := zaj BK109.out 1
       have hfz24_2 := zaj BK109.out 2
       go_wp2
       go_meet
       case rel => exact ⟨_, ((t113 == (a0_1.size : Int))), (by first | rfl | (simp; done) | (simp [*]; done)), H', ⟨by first | omega | exact Nat.le_refl _⟩, ⟨by (with_reducible repeat (first | refine zas ?_ _ | refine zaw ?_ | refine zar ?_ _)); exact BK109.out⟩, ⟨by repeat (first | (with_reducible first | exact HB.out | apply zab | apply zaa | apply zac | refine zaq ?_ GE109.out) | exact HB.out)⟩⟩
      ·rw [if_neg c23] at H
       have c23b0 : decide (0 < t113) = false := decide_eq_false c23
       clear c23
       have H' := zad.mk H
       clear H
       go_wp2
       go_meet
       case rel => exact ⟨_, (false), (by first | rfl | (simp; done) | (simp [*]; done)), H', ⟨by first | omega | exact Nat.le_refl _⟩, ⟨by (with_reducible repeat (first | refine zas ?_ _ | refine zaw ?_ | refine zar ?_ _)); exact BK109.out⟩, ⟨by repeat (first | (with_reducible first | exact HB.out | apply zab | apply zaa | apply zac | refine zaq ?_ GE109.out) | exact HB.out)⟩⟩
     ·rw [if_neg c22] at H
      have c22b0 : (t114 == 0) = false := beq_eq_false_iff_ne.mpr c22
      have c22b1 : (t114 != 0) = true := bne_iff_ne.mpr c22
      (first | rw [c22b0] | (simp only [i64_w, i32_w]; rw [c22b0]) | skip)
      have H' := zad.mk H
      clear H
      go_wp2
      go_meet
      case rel => exact ⟨_, (false), (by first | rfl | (simp; done) | (simp [*]; done)), H', ⟨by first | omega | exact Nat.le_refl _⟩, ⟨by (with_reducible repeat (first | refine zas ?_ _ | refine zaw ?_ | refine zar ?_ _)); exact BK109.out⟩, ⟨by repeat (first | (with_reducible first | exact HB.out | apply zab | apply zaa | apply zac | refine zaq ?_ GE109.out) | exact HB.out)⟩⟩
    case rest =>
     clear HC18
     try clear c1
     try clear c2
     try clear c2b0
     try clear c2b1
     try clear p2
     try clear c4
     try clear c7
     try clear c7b0
     try clear c7b1
     try clear c9
     try clear c16
     try clear c16b0
     try clear c16b1
     try clear c22
     try clear c22b0
     try clear c22b1
     try clear c23
     try clear c23b0
     try clear hcz11_0
     try clear hcz11_1
     try clear hcz11_2
     try clear hcz14_0
     try clear hcz14_1
     try clear hcz14_2
     try clear hcz20_0
     try clear hcz20_1
     try clear hcz20_2
     try clear hcz24_0
     try clear hcz24_1
     try clear hcz24_2
     try clear hcz5_0
     try clear hcz5_1
     try clear hcz5_2
     try clear hfz11_0
     try clear hfz11_1
     try clear hfz11_2
     try clear hfz14_0
     try clear hfz14_1
     try clear hfz14_2
     try clear hfz20_0
     try clear hfz20_1
     try clear hfz20_2
     try clear hfz24_0
     try clear hfz24_1
     try clear hfz24_2
     try clear hfz5_0
     try clear hfz5_1
     try clear hfz5_2
     obtain ⟨kq, x43_17, rfl, HA, HJ17, BK109, HB⟩ := hcut
     cases kq with
     | zero => exact absurd HA.out (by simp [zay.j0])
     | succ kj17 =>
      have H := HA.out
      clear HA
      simp only [zay.j0] at H
      by_cases c25 : x43_17 = true
      ·subst c25
       have H1 : (some 0) = some r := by rw [if_pos rfl] at H; exact H
       clear H
       have H := H1
       clear H1
       obtain rfl := Option.some.inj H
       go_wp2
       go_ret
       exact ⟨by first | rfl | (simp [zah, zai] <;> rfl) | (simp [*, zah, zai] <;> rfl), by repeat (first | (with_reducible first | exact HB.out | apply zab | apply zaa | apply zac | refine zaq ?_ GE109.out) | exact HB.out)⟩
      ·replace c25 := Bool.eq_false_iff.mpr c25
       subst c25
       have H1 : (some 32) = some r := by rw [if_neg (show ¬ (false = true) by decide)] at H; exact H
       clear H
       have H := H1
       clear H1
       obtain rfl := Option.some.inj H
       go_wp2
       go_ret
       exact ⟨by first | rfl | (simp [zah, zai] <;> rfl) | (simp [*, zah, zai] <;> rfl), by repeat (first | (with_reducible first | exact HB.out | apply zab | apply zaa | apply zac | refine zaq ?_ GE109.out) | exact HB.out)⟩
   ·rw [if_neg c16] at H
    have c16b0 : (a0_0 == 3) = false := beq_eq_false_iff_ne.mpr c16
    have c16b1 : (a0_0 != 3) = true := bne_iff_ne.mpr c16
    obtain rfl := Option.some.inj H
    go_enter Tryz.func27, Tryz.ntmps27
    go_wp2_with (first | ((with_reducible refine zbt (N := 1) rfl ?_); (try (refine zb3 (by rfl) ?_; dsimp only)); refine zbs ?hg (N := 1) ?hd (cs := #[.int .u8 a0_0, .string a0_1, .int .i64 a0_2]) (t := 33) ?hr ?_; (case hd => rfl); (case hg => rfl); (case hr => first | (go_simp; done) | (go_simp; rfl)); intro gb109 hg w26 hbox hb; have n0_ := zad.mk (zaf (by repeat (first | (with_reducible first | exact HB.out | apply zab | apply zaa | apply zac) | exact HB.out)) hb); have n1_ := zad.mk (hbox); have n2_ := zad.mk ((by rw [hg]; exact (zao (by repeat (first | (with_reducible first | exact HB.out | apply zab | apply zaa | apply zac) | exact HB.out))) : w.heap.size ≤ gb109)); have n3_ := zad.mk ((by rw [hg]; exact (zao (by repeat (first | (with_reducible first | exact HB.out | apply zab | apply zaa | apply zac) | exact HB.out))) : w.heap.size ≤ gb109)); clear HB; have HB := n0_; have BK109 := n1_; have GW109 := n2_; have GE109 := n3_; clear n0_ n1_ n2_ n3_; clear hb hbox hg; have hcz27_0 : w26.cell? ⟨gb109, 0, none⟩ = some (.int .u8 a0_0) := (zal BK109.out 0).trans rfl; have hcz27_1 : w26.cell? ⟨gb109, 1, none⟩ = some (.string a0_1) := (zal BK109.out 1).trans rfl; have hcz27_2 : w26.cell? ⟨gb109, 2, none⟩ = some (.int .i64 a0_2) := (zal BK109.out 2).trans rfl; have hfz27_0 := zaj BK109.out 0; have hfz27_1 := zaj BK109.out 1; have hfz27_2 := zaj BK109.out 2))
    go_ret
    exact ⟨by first | rfl | (simp [zah, zai] <;> rfl) | (simp [*, zah, zai] <;> rfl), by repeat (first | (with_reducible first | exact HB.out | apply zab | apply zaa | apply zac | refine zaq ?_ GE109.out) | exact HB.out)⟩
def zba.l0 : Nat → ByteArray → List (S33) → Int → Option ((List (S33)) × Int × Int)
  | 0, _, _, _ => none
  | k + 1, x0, x5, x6 => if x6 < (x0.size : Int) then (if 0 ≤ x6 then ((zbq.f (bt x0 x6)).bind fun t115 => (if t115 = 1 then (zba.l0 k x0 x5 (wrap64 (x6 + 1))) else (if (x5.length : Int) = 200 then (some (([] : List (S33)), x6, 4)) else (if x6 ≤ (x0.size : Int) then ((zbx.f k (x0.extract (x6 : Int).toNat x0.size)).bind fun bt116 => ((zay.f k bt116.1 bt116.2.1 x6).bind fun t120 => (if t120 = 0 then (if x5.length < 4398046511104 then (zba.l0 k x0 (x5 ++ [(⟨bt116.1, bt116.2.1, x6⟩ : S33)]) (wrap64 (x6 + (bt116.2.1.size : Int)))) else (none)) else (some (([] : List (S33)), x6, t120))))) else (none))))) else (none)) else (some (x5, (x0.size : Int), 0))
def zba.f (k : Nat) (a0 : ByteArray) : Option ((List (S33)) × Int × Int) := if (a0.size : Int) > 400 then (some (([] : List (S33)), 0, 4)) else (zba.l0 k a0 ([] : List (S33)) 0)
theorem zba.zdf : ∀ k, (∀ y0 y1 y2, LeO (zba.l0 k y0 y1 y2) (zba.l0 (k + 1) y0 y1 y2))
  | 0 => fun _ _ _ r h => by simp [zba.l0] at h
  | k + 1 => by
    have ih0 := zba.zdf k
    · intro y0 y1 y2
      unfold zba.l0
      repeat' first
      | (with_reducible exact ih0 _ _ _)
      | (with_reducible exact zay.mono _ _ _ _)
      | (with_reducible exact zbx.mono _ _)
      | (with_reducible exact LeO.refl _)
      | (with_reducible exact LeO.none _)
      | (with_reducible refine LeO.ite ?_ ?_)
      | (with_reducible refine LeO.bind ?_ (fun _ => ?_))
      | exact ih0 _ _ _
      | exact zay.mono _ _ _ _
      | exact zbx.mono _ _
      | exact LeO.none _
      | refine LeO.ite ?_ ?_
      | refine LeO.bind ?_ (fun _ => ?_)
theorem zba.mono : ∀ a0 k, LeO (zba.f k a0) (zba.f (k + 1) a0) := by
  intro a0 k
  have ih0 := zba.zdf k
  unfold zba.f
  repeat' first
      | (with_reducible exact ih0 _ _ _)
      | (with_reducible exact zay.mono _ _ _ _)
      | (with_reducible exact zbx.mono _ _)
      | (with_reducible exact LeO.refl _)
      | (with_reducible exact LeO.none _)
      | (with_reducible refine LeO.ite ?_ ?_)
      | (with_reducible refine LeO.bind ?_ (fun _ => ?_))
      | exact ih0 _ _ _
      | exact zay.mono _ _ _ _
      | exact zbx.mono _ _
      | exact LeO.none _
      | refine LeO.ite ?_ ?_
      | refine LeO.bind ?_ (fun _ => ?_)
set_option maxHeartbeats 8000000 in
set_option maxRecDepth 100000 in
theorem zba.calls (k : Nat) (a0 : ByteArray) (r1 : List (S33)) (r2 : Int) (r3 : Int) (w : World) (hT : Tabs w) (h : zba.f k a0 = some (r1, r2, r3)) :
 Calls Tryz.prog 9 #[.string a0] w fun e w' => ∃ v0_ : Value, e = .returned (.tuple #[v0_, .int .i64 r2, .int .i64 r3]) ∧ Kd.R k33 33 w' w.heap.size (fun _ => True) v0_ r1 ∧ Below w.heap.size w w' := by
 have hu33 := Tryz.underlying33
 have HB := zad.mk (Below.refl w.heap.size w)
 have H : (if (a0.size : Int) > 400 then (some (([] : List (S33)), 0, 4)) else (zba.l0 k a0 ([] : List (S33)) 0)) = some (r1, r2, r3) := h
 clear h
 by_cases c2 : (a0.size : Int) > 400
 ·rw [if_pos c2] at H
  have c2b0 : decide (400 < (a0.size : Int)) = true := decide_eq_true c2
  have c2b1 : decide (400 < a0.size) = true := decide_eq_true (by omega)
  clear c2
  simp only [Option.some.injEq, Prod.mk.injEq] at H
  obtain ⟨rfl, rfl, rfl⟩ := H
  go_enter Tryz.func9, Tryz.ntmps9
  go_wp2
  go_ret3
  exact ⟨_, by first | rfl | (simp [zah, zai] <;> rfl) | (simp [*, zah, zai] <;> rfl), by first | exact Kd.R_nil _ _ _ _ _ | exact Kd.N_nil _ _ _ _ _ | exact Kd.V_nil _ _ _ _ _ | exact Kd.Q_nil _ _ _ _ _ | exact Kd.S_nil _ _ _ _ _, by repeat (first | (with_reducible first | exact HB.out | apply zab | apply zaa | apply zac) | exact HB.out)⟩
 ·rw [if_neg c2] at H
  have c2b0 : decide (400 < (a0.size : Int)) = false := decide_eq_false c2
  have c2b1 : decide (400 < a0.size) = false := decide_eq_false (by omega)
  clear c2
  have H' := zad.mk H
  clear H
  go_enter Tryz.func9, Tryz.ntmps9
  go_wp2
  go_loopg [5, 6] k (fun kq v5 v6 w' => ∃ (x5_1 : List (S33)) (x6_1 : Int), v6 = .int .i64 x6_1 ∧ zad (zba.l0 kq a0 x5_1 x6_1 = some (r1, r2, r3)) ∧ zad (kq ≤ k) ∧ zad (Kd.R k33 33 w' w.heap.size (fun _ => True) v5 x5_1) ∧ zad (Below w.heap.size w w'))
  case atStart => exact ⟨(([] : List (S33))), (0), (by first | rfl | (simp; done) | (simp [*]; done)), H', ⟨Nat.le_refl _⟩, ⟨by first | exact Kd.R_nil _ _ _ _ _ | exact Kd.N_nil _ _ _ _ _ | exact Kd.V_nil _ _ _ _ _ | exact Kd.Q_nil _ _ _ _ _ | exact Kd.S_nil _ _ _ _ _⟩, ⟨by repeat (first | (with_reducible first | exact HB.out | apply zab | apply zaa | apply zac) | exact HB.out)⟩⟩
  case round =>
   clear H'
   try clear c2
   try clear c2b0
   try clear c2b1
   try clear p2
   obtain ⟨x5_1, x6_1, rfl, HA, HK1, HO_5, HB⟩ := hrel
   cases gk with
   | zero => exact absurd HA.out (by simp [zba.l0])
   | succ k1 =>
    have H := HA.out
    clear HA
    simp only [zba.l0] at H
    by_cases c3 : x6_1 < (a0.size : Int)
    ·rw [if_pos c3] at H
     have c3b0 : decide (x6_1 < (a0.size : Int)) = true := decide_eq_true c3
     clear c3
     by_cases c4 : 0 ≤ x6_1
     ·rw [if_pos c4] at H
      have c4b0 : decide (0 ≤ x6_1) = true := decide_eq_true c4
      clear c4
      replace H := Option.bind_eq_some_iff.mp H
      obtain ⟨t115, A60, H⟩ := H
      replace H : (if t115 = 1 then (zba.l0 k1 a0 x5_1 (wrap64 (x6_1 + 1))) else (if (x5_1.length : Int) = 200 then (some (([] : List (S33)), x6_1, 4)) else (if x6_1 ≤ (a0.size : Int) then ((zbx.f k1 (a0.extract (x6_1 : Int).toNat a0.size)).bind fun bt116 => ((zay.f k1 bt116.1 bt116.2.1 x6_1).bind fun t120 => (if t120 = 0 then (if x5_1.length < 4398046511104 then (zba.l0 k1 a0 (x5_1 ++ [(⟨bt116.1, bt116.2.1, x6_1⟩ : S33)]) (wrap64 (x6_1 + (bt116.2.1.size : Int)))) else (none)) else (some (([] : List (S33)), x6_1, t120))))) else (none)))) = some (r1, r2, r3) := H
      have A6 := zad.mk A60
      clear A60
      by_cases c7 : t115 = 1
      ·rw [if_pos c7] at H
       have c7b0 : (t115 == 1) = true := beq_iff_eq.mpr c7
       have c7b1 : (t115 != 1) = false := bne_eq_false_iff_eq.mpr c7
       clear c7
       have H' := zad.mk H
       clear H
       have p5 : 0 ≤ (x6_1 : Int) := of_decide_eq_true (by first | (with_reducible assumption) | assumption)
       have q5 : x6_1 < (a0.size : Int) := of_decide_eq_true (by first | (with_reducible assumption) | assumption)
       have hx5 := bt_at a0 x6_1
       replace p5 := eq_true p5
       replace q5 := eq_true q5
       go_wp2_with (first | ((with_reducible refine zan (f := 25) rfl ?_); refine zbd (some 19) rfl rfl Tryz.func25 (by kernel_rfl) rfl #[.int .u8 (bt a0 x6_1)] rfl (by (try simp only [List.map_toArray, List.map_cons, List.map_nil]); first | done | rfl | (simp only [List.length_drop, List.length_take]; rfl)) ?_; (with_reducible refine (zbq.calls (bt a0 x6_1) t115 _ A6.out).mono ?_); rintro e w8 ⟨rfl, hb⟩; refine ⟨_, rfl, ?_⟩; have n0_ := zad.mk (Kd.zbv (by (with_reducible repeat (first | apply Kd.zav | apply Kd.za1 | apply Kd.za9)); exact HO_5.out) hb); have n1_ := zad.mk (zaf (by repeat (first | (with_reducible first | exact HB.out | apply zab | apply zaa | apply zac) | exact HB.out)) hb); clear HO_5; clear HB; have HO_5 := n0_; have HB := n1_; clear n0_ n1_; (try clear hb); (try clear hb2); (try clear hk); (try clear hi)))
       go_roundg k1
       case measure => have := HK1.out; omega
       case rel => exact ⟨(x5_1), (wrap64 (x6_1 + 1)), (by first | rfl | (simp; done) | (simp [*]; done)), H', ⟨by have := HK1.out; omega⟩, ⟨by (with_reducible repeat (first | apply Kd.zav | apply Kd.za1 | apply Kd.za9)); exact HO_5.out⟩, ⟨by repeat (first | (with_reducible first | exact HB.out | apply zab | apply zaa | apply zac) | exact HB.out)⟩⟩
      ·rw [if_neg c7] at H
       have c7b0 : (t115 == 1) = false := beq_eq_false_iff_ne.mpr c7
       have c7b1 : (t115 != 1) = true := bne_iff_ne.mpr c7
       by_cases c9 : (x5_1.length : Int) = 200
       ·rw [if_pos c9] at H
        have c9b0 : ((x5_1.length : Int) == 200) = true := beq_iff_eq.mpr c9
        have c9b1 : ((x5_1.length : Int) != 200) = false := bne_eq_false_iff_eq.mpr c9
        clear c9
        simp only [Option.some.injEq, Prod.mk.injEq] at H
        obtain ⟨rfl, rfl, rfl⟩ := H
        have p5 : 0 ≤ (x6_1 : Int) := of_decide_eq_true (by first | (with_reducible assumption) | assumption)
        have q5 : x6_1 < (a0.size : Int) := of_decide_eq_true (by first | (with_reducible assumption) | assumption)
        have hx5 := bt_at a0 x6_1
        replace p5 := eq_true p5
        replace q5 := eq_true q5
        go_wp2_with (first | ((with_reducible refine zan (f := 25) rfl ?_); refine zbd (some 19) rfl rfl Tryz.func25 (by kernel_rfl) rfl #[.int .u8 (bt a0 x6_1)] rfl (by (try simp only [List.map_toArray, List.map_cons, List.map_nil]); first | done | rfl | (simp only [List.length_drop, List.length_take]; rfl)) ?_; (with_reducible refine (zbq.calls (bt a0 x6_1) t115 _ A6.out).mono ?_); rintro e w10 ⟨rfl, hb⟩; refine ⟨_, rfl, ?_⟩; have n0_ := zad.mk (Kd.zbv (by (with_reducible repeat (first | apply Kd.zav | apply Kd.za1 | apply Kd.za9)); exact HO_5.out) hb); have n1_ := zad.mk (zaf (by repeat (first | (with_reducible first | exact HB.out | apply zab | apply zaa | apply zac) | exact HB.out)) hb); clear HO_5; clear HB; have HO_5 := n0_; have HB := n1_; clear n0_ n1_; (try clear hb); (try clear hb2); (try clear hk); (try clear hi); obtain ⟨Ao11, co11, eo11⟩ := Kd.zbk HO_5.out; subst eo11))
        go_ret3
        exact ⟨_, by first | rfl | (simp [zah, zai] <;> rfl) | (simp [*, zah, zai] <;> rfl), by first | exact Kd.R_nil _ _ _ _ _ | exact Kd.N_nil _ _ _ _ _ | exact Kd.V_nil _ _ _ _ _ | exact Kd.Q_nil _ _ _ _ _ | exact Kd.S_nil _ _ _ _ _, by repeat (first | (with_reducible first | exact HB.out | apply zab | apply zaa | apply zac) | exact HB.out)⟩
       ·rw [if_neg c9] at H
        have c9b0 : ((x5_1.length : Int) == 200) = false := beq_eq_false_iff_ne.mpr c9
        have c9b1 : ((x5_1.length : Int) != 200) = true := bne_iff_ne.mpr c9
        have c12b0 := eq_true (of_decide_eq_true (by first | (with_reducible assumption) | assumption) : 0 ≤ x6_1)
        by_cases c13 : x6_1 ≤ (a0.size : Int)
        ·rw [if_pos c13] at H
         have c13b0 := eq_true c13
         have c13b1 : decide (x6_1 ≤ (a0.size : Int)) = true := decide_eq_true c13
         clear c13
         replace H := Option.bind_eq_some_iff.mp H
         obtain ⟨⟨t116, t117, t118⟩, A140, H⟩ := H
         replace H : ((zay.f k1 t116 t117 x6_1).bind fun t120 => (if t120 = 0 then (if x5_1.length < 4398046511104 then (zba.l0 k1 a0 (x5_1 ++ [(⟨t116, t117, x6_1⟩ : S33)]) (wrap64 (x6_1 + (t117.size : Int)))) else (none)) else (some (([] : List (S33)), x6_1, t120)))) = some (r1, r2, r3) := H
         have A14 := zad.mk A140
         clear A140
         replace H := Option.bind_eq_some_iff.mp H
         obtain ⟨t120, A150, H⟩ := H
         replace H : (if t120 = 0 then (if x5_1.length < 4398046511104 then (zba.l0 k1 a0 (x5_1 ++ [(⟨t116, t117, x6_1⟩ : S33)]) (wrap64 (x6_1 + (t117.size : Int)))) else (none)) else (some (([] : List (S33)), x6_1, t120))) = some (r1, r2, r3) := H
         have A15 := zad.mk A150
         clear A150
         by_cases c16 : t120 = 0
         ·rw [if_pos c16] at H
          have c16b0 : (t120 == 0) = true := beq_iff_eq.mpr c16
          have c16b1 : (t120 != 0) = false := bne_eq_false_iff_eq.mpr c16
          clear c16
          by_cases c17 : x5_1.length < 4398046511104
          ·rw [if_pos c17] at H
           have LMc17 := zad.mk c17
           clear c17
           obtain ⟨y121, hy121⟩ : ∃ y_ : List (S33), y_ = (x5_1 ++ [(⟨t116, t117, x6_1⟩ : S33)]) := ⟨_, rfl⟩
           replace H : (zba.l0 k1 a0 y121 (wrap64 (x6_1 + (t117.size : Int)))) = some (r1, r2, r3) := by first | (rw [hy121]; with_reducible exact H) | (have H2_ := (Option.bind_some _ _).symm.trans H; rw [hy121]; with_reducible exact H2_) | (have H2_ := (Option.bind_some _ _).symm.trans H; with_reducible exact H2_) | with_reducible exact H | (rw [hy121]; exact H) | exact H
           have Ny121 := zad.mk hy121
           clear hy121
           have H' := zad.mk H
           clear H
           have p5 : 0 ≤ (x6_1 : Int) := of_decide_eq_true (by first | (with_reducible assumption) | assumption)
           have q5 : x6_1 < (a0.size : Int) := of_decide_eq_true (by first | (with_reducible assumption) | assumption)
           have hx5 := bt_at a0 x6_1
           replace p5 := eq_true p5
           replace q5 := eq_true q5
           go_wp2_with (first | ((fail_if_success (have := hcsx)); (with_reducible refine zbt (N := 33) rfl ?_); refine with_fact (p := ⟨gb119, 2, none⟩) (v := .int .i64 x6_1) ((World.cell?_setCell_same _ _ _ (World.cell?_setCell_same _ _ _ ((World.cell?_setCell_other _ _ _ _ (by simp)).trans ((World.cell?_setCell_other _ _ _ _ (by simp)).trans hcz22_2))))) ?_; intro hcsx) | ((with_reducible refine zan (f := 25) rfl ?_); refine zbd (some 19) rfl rfl Tryz.func25 (by kernel_rfl) rfl #[.int .u8 (bt a0 x6_1)] rfl (by (try simp only [List.map_toArray, List.map_cons, List.map_nil]); first | done | rfl | (simp only [List.length_drop, List.length_take]; rfl)) ?_; (with_reducible refine (zbq.calls (bt a0 x6_1) t115 _ A6.out).mono ?_); rintro e w18 ⟨rfl, hb⟩; refine ⟨_, rfl, ?_⟩; have n0_ := zad.mk (Kd.zbv (by (with_reducible repeat (first | apply Kd.zav | apply Kd.za1 | apply Kd.za9)); exact HO_5.out) hb); have n1_ := zad.mk (zaf (by repeat (first | (with_reducible first | exact HB.out | apply zab | apply zaa | apply zac) | exact HB.out)) hb); clear HO_5; clear HB; have HO_5 := n0_; have HB := n1_; clear n0_ n1_; (try clear hb); (try clear hb2); (try clear hk); (try clear hi); obtain ⟨Ao19, co19, eo19⟩ := Kd.zbk HO_5.out; subst eo19) | ((with_reducible refine zan (f := 26) rfl ?_); refine zbd (some 30) rfl rfl Tryz.func26 (by kernel_rfl) rfl #[.string (a0.extract (x6_1 : Int).toNat a0.size)] rfl (by (try simp only [List.map_toArray, List.map_cons, List.map_nil]); first | done | rfl | (simp only [List.length_drop, List.length_take]; rfl)) ?_; (with_reducible refine (zbx.calls k1 (a0.extract (x6_1 : Int).toNat a0.size) t116 t117 t118 _ A14.out).mono ?_); rintro e w20 ⟨rfl, hb⟩; refine ⟨_, rfl, ?_⟩; have n0_ := zad.mk (Kd.zbv (by (with_reducible repeat (first | apply Kd.zav | apply Kd.za1 | apply Kd.za9)); exact HO_5.out) hb); have n1_ := zad.mk (zaf (by repeat (first | (with_reducible first | exact HB.out | apply zab | apply zaa | apply zac) | exact HB.out)) hb); clear HO_5; clear HB; have HO_5 := n0_; have HB := n1_; clear n0_ n1_; (try clear hb); (try clear hb2); (try clear hk); (try clear hi)) | ((with_reducible refine zbt (N := 7) rfl ?_); refine zbs ?hg (N := 7) ?hd (cs := #[.int .u8 0, .string (⟨#[]⟩ : ByteArray), .int .i64 0]) (t := 33) ?hr ?_; (case hd => rfl); (case hg => rfl); (case hr => first | (go_simp; done) | (go_simp; rfl)); intro gb119 hg w21 hbox hb; have n0_ := zad.mk (Kd.zbv (Kd.R_elderB (by (with_reducible repeat (first | apply Kd.zav | apply Kd.za1 | apply Kd.za9)); exact HO_5.out) gb119 (Nat.le_of_eq hg.symm)) hb); have n1_ := zad.mk (zaf (by repeat (first | (with_reducible first | exact HB.out | apply zab | apply zaa | apply zac) | exact HB.out)) hb); have n2_ := zad.mk (hbox); have n3_ := zad.mk ((by rw [hg]; exact (zao (by repeat (first | (with_reducible first | exact HB.out | apply zab | apply zaa | apply zac) | exact HB.out))) : w.heap.size ≤ gb119)); have n4_ := zad.mk ((by rw [hg]; exact (zao (by repeat (first | (with_reducible first | exact HB.out | apply zab | apply zaa | apply zac) | exact HB.out))) : w.heap.size ≤ gb119)); clear HO_5; clear HB; have HO_5 := n0_; have HB := n1_; have BK119 := n2_; have GW119 := n3_; have GE119 := n4_; clear n0_ n1_ n2_ n3_ n4_; clear hb hbox hg; have hcz22_0 : w21.cell? ⟨gb119, 0, none⟩ = some (.int .u8 0) := (zal BK119.out 0).trans rfl; have hcz22_1 : w21.cell? ⟨gb119, 1, none⟩ = some (.string (⟨#[]⟩ : ByteArray)) := (zal BK119.out 1).trans rfl; have hcz22_2 : w21.cell? ⟨gb119, 2, none⟩ = some (.int .i64 0) := (zal BK119.out 2).trans rfl; have hfz22_0 := zaj BK119.out 0; have hfz22_1 := zaj BK119.out 1; have hfz22_2 := zaj BK119.out 2) | ((with_reducible refine zan (f := 27) rfl ?_); refine zbd (some 34) rfl rfl Tryz.func27 (by kernel_rfl) rfl #[.agg #[.int .u8 t116, .string t117, .int .i64 x6_1]] rfl (by (try simp only [List.map_toArray, List.map_cons, List.map_nil]); first | done | rfl | (simp only [List.length_drop, List.length_take]; rfl)) ?_; (with_reducible refine (zay.calls k1 t116 t117 x6_1 t120 _ ?side1 A15.out).mono ?_); (case side1 => exact Tabs.below hT (by repeat (first | (with_reducible first | exact HB.out | apply zab | apply zaa | apply zac | refine zaq ?_ GE119.out) | exact HB.out))); rintro e w23 ⟨rfl, hb⟩; refine ⟨_, rfl, ?_⟩; have n0_ := zad.mk (Kd.zbv (by (with_reducible repeat (first | apply Kd.zav | apply Kd.za1 | apply Kd.za9)); exact (Kd.zb0 (Kd.R_far (p := ⟨gb119, 2, none⟩) (Kd.R_far (p := ⟨gb119, 2, none⟩) (Kd.R_far (p := ⟨gb119, 1, none⟩) (Kd.R_far (p := ⟨gb119, 0, none⟩) (Kd.zb0 HO_5.out (fun k_ hk => (⟨hk, hk.2⟩ : _ ∧ k_ ≠ gb119))) (fun _ hk => hk.2) (.int .u8 t116)) (fun _ hk => hk.2) (.string t117)) (fun _ hk => hk.2) (.int .i64 t118)) (fun _ hk => hk.2) (.int .i64 x6_1)) (fun _ h_ => h_.1))) hb); have n1_ := zad.mk (zbn (g := gb119) (o := .cells #[.int .u8 t116, .string t117, .int .i64 x6_1] 33 (0, 0)) (by (with_reducible repeat (first | refine zas ?_ _ | refine zaw ?_ | refine zar ?_ _)); refine zbw (cs := #[.int .u8 t116, .string t117, .int .i64 t118]) ?_ 2 _ rfl; (with_reducible repeat (first | refine zas ?_ _ | refine zaw ?_ | refine zar ?_ _)); refine zbw (cs := #[.int .u8 t116, .string t117, .int .i64 0]) ?_ 2 _ rfl; (with_reducible repeat (first | refine zas ?_ _ | refine zaw ?_ | refine zar ?_ _)); refine zbw (cs := #[.int .u8 t116, .string (⟨#[]⟩ : ByteArray), .int .i64 0]) ?_ 1 _ rfl; (with_reducible repeat (first | refine zas ?_ _ | refine zaw ?_ | refine zar ?_ _)); refine zbw (cs := #[.int .u8 0, .string (⟨#[]⟩ : ByteArray), .int .i64 0]) ?_ 0 _ rfl; (with_reducible repeat (first | refine zas ?_ _ | refine zaw ?_ | refine zar ?_ _)); exact BK119.out) hb); have n2_ := zad.mk (zaf (by repeat (first | (with_reducible first | exact HB.out | apply zab | apply zaa | apply zac | refine zaq ?_ GE119.out) | exact HB.out)) hb); clear HO_5; clear BK119; clear HB; have HO_5 := n0_; have BK119 := n1_; have HB := n2_; clear n0_ n1_ n2_; (try clear hb); (try clear hb2); (try clear hk); (try clear hi); have hcz24_0 : w23.cell? ⟨gb119, 0, none⟩ = some (.int .u8 t116) := (zal BK119.out 0).trans rfl; have hcz24_1 : w23.cell? ⟨gb119, 1, none⟩ = some (.string t117) := (zal BK119.out 1).trans rfl; have hcz24_2 : w23.cell? ⟨gb119, 2, none⟩ = some (.int .i64 x6_1) := (zal BK119.out 2).trans rfl; have hfz24_0 := zaj BK119.out 0; have hfz24_1 := zaj BK119.out 1; have hfz24_2 := zaj BK119.out 2) | ((with_reducible refine zbe (b := .append) (xs := #[.tmp 39, .tmp 41]) rfl ?_); at_builtin; refine Kd.zb2 k33 (w0 := w) w.heap.size rfl (.tmp 39) (.tmp 41) 25 33 (.agg #[(.int .u8 0), (.string ⟨#[]⟩), (.int .i64 0)]) 32 rfl Tryz.underlying25 info33 rfl (by decide) (by omega) (.slice Ao19 x5_1.length co19) x5_1 (⟨t116, t117, x6_1⟩ : S33) [.int .u8 t116, .string t117, .int .i64 x6_1] (fun k_ => k_ ≠ gb119) (fun _ => False) rfl rfl ?aP (fun _ hk => hk.elim) ?aF ?aO ?aB ?aS ?aL ?_; (case aP => exact k33_mkM _ _ _ (⟨t116, t117, x6_1⟩ : S33)); (case aB => exact (by repeat (first | (with_reducible first | exact HB.out | apply zab | apply zaa | apply zac | refine zaq ?_ GE119.out) | exact HB.out))); (case aF => exact (fun k_ hk => Kd.freshB (g := gb119) (o := .cells #[.int .u8 t116, .string t117, .int .i64 x6_1] 33 (0, 0)) (by (with_reducible repeat (first | refine zas ?_ _ | refine zaw ?_ | refine zar ?_ _)); exact BK119.out) k_ hk)); (case aO => exact (by (with_reducible repeat (first | apply Kd.zav | apply Kd.za1 | apply Kd.za9)); exact Kd.zb0 HO_5.out (fun _ hk => hk.2))); (case aS => exact (zao (by repeat (first | (with_reducible first | exact HB.out | apply zab | apply zaa | apply zac | refine zaq ?_ GE119.out) | exact HB.out)))); (case aL => have := LMc17.out; omega); intro v122 w25 ho hb hg hat; rw [← Ny121.out] at ho; have n0_ := zad.mk (zb9 (g := gb119) (o := .cells #[.int .u8 t116, .string t117, .int .i64 x6_1] 33 (0, 0)) (by (with_reducible repeat (first | refine zas ?_ _ | refine zaw ?_ | refine zar ?_ _)); exact BK119.out) hg (Kd.R_away HO_5.out (fun _ hk => hk.2))); have n1_ := zad.mk (hb); have n2_ := zad.mk (ho); clear BK119; clear HB; clear HO_5; have BK119 := n0_; have HB := n1_; have HO123 := n2_; clear n0_ n1_ n2_; clear ho hb hg hat; have hcz26_0 : w25.cell? ⟨gb119, 0, none⟩ = some (.int .u8 t116) := (zal BK119.out 0).trans rfl; have hcz26_1 : w25.cell? ⟨gb119, 1, none⟩ = some (.string t117) := (zal BK119.out 1).trans rfl; have hcz26_2 : w25.cell? ⟨gb119, 2, none⟩ = some (.int .i64 x6_1) := (zal BK119.out 2).trans rfl; have hfz26_0 := zaj BK119.out 0; have hfz26_1 := zaj BK119.out 1; have hfz26_2 := zaj BK119.out 2))
           go_roundg k1
           case measure => have := HK1.out; omega
           case rel => exact ⟨(y121), (wrap64 (x6_1 + (t117.size : Int))), (by first | rfl | (simp; done) | (simp [*]; done)), H', ⟨by have := HK1.out; omega⟩, ⟨by (with_reducible repeat (first | apply Kd.zav | apply Kd.za1 | apply Kd.za9)); exact Kd.zb0 HO123.out (fun _ hk => trivial)⟩, ⟨by repeat (first | (with_reducible first | exact HB.out | apply zab | apply zaa | apply zac | refine zaq ?_ GE119.out) | exact HB.out)⟩⟩
          ·rw [if_neg c17] at H
           exact absurd H (by simp)
         ·rw [if_neg c16] at H
          have c16b0 : (t120 == 0) = false := beq_eq_false_iff_ne.mpr c16
          have c16b1 : (t120 != 0) = true := bne_iff_ne.mpr c16
          simp only [Option.some.injEq, Prod.mk.injEq] at H
          obtain ⟨rfl, rfl, rfl⟩ := H
          have p5 : 0 ≤ (x6_1 : Int) := of_decide_eq_true (by first | (with_reducible assumption) | assumption)
          have q5 : x6_1 < (a0.size : Int) := of_decide_eq_true (by first | (with_reducible assumption) | assumption)
          have hx5 := bt_at a0 x6_1
          replace p5 := eq_true p5
          replace q5 := eq_true q5
          go_wp2_with (first | ((fail_if_success (have := hcsx)); (with_reducible refine zbt (N := 33) rfl ?_); refine with_fact (p := ⟨gb119, 2, none⟩) (v := .int .i64 x6_1) ((World.cell?_setCell_same _ _ _ (World.cell?_setCell_same _ _ _ ((World.cell?_setCell_other _ _ _ _ (by simp)).trans ((World.cell?_setCell_other _ _ _ _ (by simp)).trans hcz31_2))))) ?_; intro hcsx) | ((with_reducible refine zan (f := 25) rfl ?_); refine zbd (some 19) rfl rfl Tryz.func25 (by kernel_rfl) rfl #[.int .u8 (bt a0 x6_1)] rfl (by (try simp only [List.map_toArray, List.map_cons, List.map_nil]); first | done | rfl | (simp only [List.length_drop, List.length_take]; rfl)) ?_; (with_reducible refine (zbq.calls (bt a0 x6_1) t115 _ A6.out).mono ?_); rintro e w27 ⟨rfl, hb⟩; refine ⟨_, rfl, ?_⟩; have n0_ := zad.mk (Kd.zbv (by (with_reducible repeat (first | apply Kd.zav | apply Kd.za1 | apply Kd.za9)); exact HO_5.out) hb); have n1_ := zad.mk (zaf (by repeat (first | (with_reducible first | exact HB.out | apply zab | apply zaa | apply zac) | exact HB.out)) hb); clear HO_5; clear HB; have HO_5 := n0_; have HB := n1_; clear n0_ n1_; (try clear hb); (try clear hb2); (try clear hk); (try clear hi); obtain ⟨Ao28, co28, eo28⟩ := Kd.zbk HO_5.out; subst eo28) | ((with_reducible refine zan (f := 26) rfl ?_); refine zbd (some 30) rfl rfl Tryz.func26 (by kernel_rfl) rfl #[.string (a0.extract (x6_1 : Int).toNat a0.size)] rfl (by (try simp only [List.map_toArray, List.map_cons, List.map_nil]); first | done | rfl | (simp only [List.length_drop, List.length_take]; rfl)) ?_; (with_reducible refine (zbx.calls k1 (a0.extract (x6_1 : Int).toNat a0.size) t116 t117 t118 _ A14.out).mono ?_); rintro e w29 ⟨rfl, hb⟩; refine ⟨_, rfl, ?_⟩; have n0_ := zad.mk (Kd.zbv (by (with_reducible repeat (first | apply Kd.zav | apply Kd.za1 | apply Kd.za9)); exact HO_5.out) hb); have n1_ := zad.mk (zaf (by repeat (first | (with_reducible first | exact HB.out | apply zab | apply zaa | apply zac) | exact HB.out)) hb); clear HO_5; clear HB; have HO_5 := n0_; have HB := n1_; clear n0_ n1_; (try clear hb); (try clear hb2); (try clear hk); (try clear hi)) | ((with_reducible refine zbt (N := 7) rfl ?_); refine zbs ?hg (N := 7) ?hd (cs := #[.int .u8 0, .string (⟨#[]⟩ : ByteArray), .int .i64 0]) (t := 33) ?hr ?_; (case hd => rfl); (case hg => rfl); (case hr => first | (go_simp; done) | (go_simp; rfl)); intro gb119 hg w30 hbox hb; have n0_ := zad.mk (Kd.zbv (Kd.R_elderB (by (with_reducible repeat (first | apply Kd.zav | apply Kd.za1 | apply Kd.za9)); exact HO_5.out) gb119 (Nat.le_of_eq hg.symm)) hb); have n1_ := zad.mk (zaf (by repeat (first | (with_reducible first | exact HB.out | apply zab | apply zaa | apply zac) | exact HB.out)) hb); have n2_ := zad.mk (hbox); have n3_ := zad.mk ((by rw [hg]; exact (zao (by repeat (first | (with_reducible first | exact HB.out | apply zab | apply zaa | apply zac) | exact HB.out))) : w.heap.size ≤ gb119)); have n4_ := zad.mk ((by rw [hg]; exact (zao (by repeat (first | (with_reducible first | exact HB.out | apply zab | apply zaa | apply zac) | exact HB.out))) : w.heap.size ≤ gb119)); clear HO_5; clear HB; have HO_5 := n0_; have HB := n1_; have BK119 := n2_; have GW119 := n3_; have GE119 := n4_; clear n0_ n1_ n2_ n3_ n4_; clear hb hbox hg; have hcz31_0 : w30.cell? ⟨gb119, 0, none⟩ = some (.int .u8 0) := (zal BK119.out 0).trans rfl; have hcz31_1 : w30.cell? ⟨gb119, 1, none⟩ = some (.string (⟨#[]⟩ : ByteArray)) := (zal BK119.out 1).trans rfl; have hcz31_2 : w30.cell? ⟨gb119, 2, none⟩ = some (.int .i64 0) := (zal BK119.out 2).trans rfl; have hfz31_0 := zaj BK119.out 0; have hfz31_1 := zaj BK119.out 1; have hfz31_2 := zaj BK119.out 2) | ((with_reducible refine zan (f := 27) rfl ?_); refine zbd (some 34) rfl rfl Tryz.func27 (by kernel_rfl) rfl #[.agg #[.int .u8 t116, .string t117, .int .i64 x6_1]] rfl (by (try simp only [List.map_toArray, List.map_cons, List.map_nil]); first | done | rfl | (simp only [List.length_drop, List.length_take]; rfl)) ?_; (with_reducible refine (zay.calls k1 t116 t117 x6_1 t120 _ ?side1 A15.out).mono ?_); (case side1 => exact Tabs.below hT (by repeat (first | (with_reducible first | exact HB.out | apply zab | apply zaa | apply zac | refine zaq ?_ GE119.out) | exact HB.out))); rintro e w32 ⟨rfl, hb⟩; refine ⟨_, rfl, ?_⟩; have n0_ := zad.mk (Kd.zbv (by (with_reducible repeat (first | apply Kd.zav | apply Kd.za1 | apply Kd.za9)); exact (Kd.zb0 (Kd.R_far (p := ⟨gb119, 2, none⟩) (Kd.R_far (p := ⟨gb119, 2, none⟩) (Kd.R_far (p := ⟨gb119, 1, none⟩) (Kd.R_far (p := ⟨gb119, 0, none⟩) (Kd.zb0 HO_5.out (fun k_ hk => (⟨hk, hk.2⟩ : _ ∧ k_ ≠ gb119))) (fun _ hk => hk.2) (.int .u8 t116)) (fun _ hk => hk.2) (.string t117)) (fun _ hk => hk.2) (.int .i64 t118)) (fun _ hk => hk.2) (.int .i64 x6_1)) (fun _ h_ => h_.1))) hb); have n1_ := zad.mk (zbn (g := gb119) (o := .cells #[.int .u8 t116, .string t117, .int .i64 x6_1] 33 (0, 0)) (by (with_reducible repeat (first | refine zas ?_ _ | refine zaw ?_ | refine zar ?_ _)); refine zbw (cs := #[.int .u8 t116, .string t117, .int .i64 t118]) ?_ 2 _ rfl; (with_reducible repeat (first | refine zas ?_ _ | refine zaw ?_ | refine zar ?_ _)); refine zbw (cs := #[.int .u8 t116, .string t117, .int .i64 0]) ?_ 2 _ rfl; (with_reducible repeat (first | refine zas ?_ _ | refine zaw ?_ | refine zar ?_ _)); refine zbw (cs := #[.int .u8 t116, .string (⟨#[]⟩ : ByteArray), .int .i64 0]) ?_ 1 _ rfl; (with_reducible repeat (first | refine zas ?_ _ | refine zaw ?_ | refine zar ?_ _)); refine zbw (cs := #[.int .u8 0, .string (⟨#[]⟩ : ByteArray), .int .i64 0]) ?_ 0 _ rfl; (with_reducible repeat (first | refine zas ?_ _ | refine zaw ?_ | refine zar ?_ _)); exact BK119.out) hb); have n2_ := zad.mk (zaf (by repeat (first | (with_reducible first | exact HB.out | apply zab | apply zaa | apply zac | refine zaq ?_ GE119.out) | exact HB.out)) hb); clear HO_5; clear BK119; clear HB; have HO_5 := n0_; have BK119 := n1_; have HB := n2_; clear n0_ n1_ n2_; (try clear hb); (try clear hb2); (try clear hk); (try clear hi)))
          go_ret3
          exact ⟨_, by first | rfl | (simp [zah, zai] <;> rfl) | (simp [*, zah, zai] <;> rfl), by first | exact Kd.R_nil _ _ _ _ _ | exact Kd.N_nil _ _ _ _ _ | exact Kd.V_nil _ _ _ _ _ | exact Kd.Q_nil _ _ _ _ _ | exact Kd.S_nil _ _ _ _ _, by repeat (first | (with_reducible first | exact HB.out | apply zab | apply zaa | apply zac | refine zaq ?_ GE119.out) | exact HB.out)⟩
        ·rw [if_neg c13] at H
         exact absurd H (by simp)
     ·rw [if_neg c4] at H
      exact absurd H (by simp)
    ·rw [if_neg c3] at H
     have c3b0 : decide (x6_1 < (a0.size : Int)) = false := decide_eq_false c3
     clear c3
     simp only [Option.some.injEq, Prod.mk.injEq] at H
     obtain ⟨rfl, rfl, rfl⟩ := H
     go_wp2
     go_ret3
     exact ⟨_, by first | rfl | (simp [zah, zai] <;> rfl) | (simp [*, zah, zai] <;> rfl), by (with_reducible repeat (first | apply Kd.zav | apply Kd.za1 | apply Kd.za9)); exact HO_5.out, by repeat (first | (with_reducible first | exact HB.out | apply zab | apply zaa | apply zac) | exact HB.out)⟩
def strings_Join.f (l0 : List ByteArray) (a1 : ByteArray) : Option ByteArray := if l0.length ≤ 140737488355328 ∧ (Lib.join (l0.map (·.data.toList)) a1.data.toList).length ≤ 140737488355328 then some (joinB l0 a1) else none
theorem strings_Join.calls (A0 : Option Addr) (c0 : Nat) (l0 : List ByteArray) (a1 : ByteArray) (r : ByteArray) (w : World) (hr0 : Kd.C Kd.string w A0 l0.length l0) (hc0 : l0.length ≤ c0) (h : strings_Join.f l0 a1 = some r) :
    Calls Tryz.prog 43 #[.slice A0 l0.length c0, .string a1] w fun e w' => e = .returned (.string r) ∧ Below w.heap.size w w' := by
  unfold strings_Join.f at h
  by_cases e : l0.length ≤ 140737488355328 ∧ (Lib.join (l0.map (·.data.toList)) a1.data.toList).length ≤ 140737488355328
  · rw [if_pos e] at h
    have h2 := Option.some.inj h
    subst h2
    exact join_any A0 c0 l0 a1 w hr0 hc0 e.1 e.2
  · rw [if_neg e] at h; cases h
def zbb.l0 : Nat → List ByteArray → List (S33) → Int → Int → Option (ByteArray × Int)
  | 0, _, _, _, _ => none
  | k + 1, x4, x11, x12, x13 => if x13 < x12 then (if 0 ≤ x13 then (if x13 < (x11.length : Int) then ((zay.f k ((za6 x11 x13).f0) ((za6 x11 x13).f1) ((za6 x11 x13).f2)).bind fun t126 => (if t126 = 0 then (if x4.length < 8796093022208 then (zbb.l0 k (x4 ++ [(za6 x11 x13).f1]) x11 x12 (wrap64 (x13 + 1))) else (none)) else (some ((⟨#[]⟩ : ByteArray), 8)))) else (none)) else (none)) else ((strings_Join.f x4 (⟨#[32]⟩ : ByteArray)).bind fun t130 => (if (t130.size : Int) > 400 then (some ((⟨#[]⟩ : ByteArray), 18)) else (some (t130, 0))))
def zbb.f (k : Nat) (l0 : List (S33)) : Option (ByteArray × Int) := if (l0.length : Int) > 200 then (some ((⟨#[]⟩ : ByteArray), 4)) else (zbb.l0 k ([] : List ByteArray) l0 (l0.length : Int) 0)
theorem zbb.zdf : ∀ k, (∀ y0 y1 y2 y3, LeO (zbb.l0 k y0 y1 y2 y3) (zbb.l0 (k + 1) y0 y1 y2 y3))
  | 0 => fun _ _ _ _ r h => by simp [zbb.l0] at h
  | k + 1 => by
    have ih0 := zbb.zdf k
    · intro y0 y1 y2 y3
      unfold zbb.l0
      repeat' first
      | (with_reducible exact ih0 _ _ _ _)
      | (with_reducible exact zay.mono _ _ _ _)
      | (with_reducible exact LeO.refl _)
      | (with_reducible exact LeO.none _)
      | (with_reducible refine LeO.ite ?_ ?_)
      | (with_reducible refine LeO.bind ?_ (fun _ => ?_))
      | exact ih0 _ _ _ _
      | exact zay.mono _ _ _ _
      | exact LeO.none _
      | refine LeO.ite ?_ ?_
      | refine LeO.bind ?_ (fun _ => ?_)
theorem zbb.mono : ∀ a0 k, LeO (zbb.f k a0) (zbb.f (k + 1) a0) := by
  intro a0 k
  have ih0 := zbb.zdf k
  unfold zbb.f
  repeat' first
      | (with_reducible exact ih0 _ _ _ _)
      | (with_reducible exact zay.mono _ _ _ _)
      | (with_reducible exact LeO.refl _)
      | (with_reducible exact LeO.none _)
      | (with_reducible refine LeO.ite ?_ ?_)
      | (with_reducible refine LeO.bind ?_ (fun _ => ?_))
      | exact ih0 _ _ _ _
      | exact zay.mono _ _ _ _
      | exact LeO.none _
      | refine LeO.ite ?_ ?_
      | refine LeO.bind ?_ (fun _ => ?_)
set_option maxHeartbeats 8000000 in
set_option maxRecDepth 100000 in
theorem zbb.calls (k : Nat) (A0 : Option Addr) (c0 : Nat) (l0 : List (S33)) (r1 : ByteArray) (r2 : Int) (w : World) (hr0 : Kd.C k33 w A0 l0.length l0) (hc0 : l0.length ≤ c0) (hT : Tabs w) (h : zbb.f k l0 = some (r1, r2)) :
 Calls Tryz.prog 28 #[.slice A0 l0.length c0] w fun e w' => e = .returned (.tuple #[.string r1, .int .i64 r2]) ∧ Below w.heap.size w w' := by
 have hu33 := Tryz.underlying33
 have HR0 := zad.mk hr0
 have HC0 := zad.mk hc0
 clear hr0 hc0
 have HB := zad.mk (Below.refl w.heap.size w)
 have H : (if (l0.length : Int) > 200 then (some ((⟨#[]⟩ : ByteArray), 4)) else (zbb.l0 k ([] : List ByteArray) l0 (l0.length : Int) 0)) = some (r1, r2) := h
 clear h
 by_cases c2 : (l0.length : Int) > 200
 ·rw [if_pos c2] at H
  have c2b0 : decide (200 < (l0.length : Int)) = true := decide_eq_true c2
  have c2b1 : decide (200 < l0.length) = true := decide_eq_true (by omega)
  clear c2
  simp only [Option.some.injEq, Prod.mk.injEq] at H
  obtain ⟨rfl, rfl⟩ := H
  go_enter Tryz.func28, Tryz.ntmps28
  go_wp2
  go_ret2
  exact ⟨by first | rfl | (simp [zah, zai] <;> rfl) | (simp [*, zah, zai] <;> rfl), by repeat (first | (with_reducible first | exact HB.out | apply zab | apply zaa | apply zac) | exact HB.out)⟩
 ·rw [if_neg c2] at H
  have c2b0 : decide (200 < (l0.length : Int)) = false := decide_eq_false c2
  have c2b1 : decide (200 < l0.length) = false := decide_eq_false (by omega)
  clear c2
  have H' := zad.mk H
  clear H
  go_enter Tryz.func28, Tryz.ntmps28
  go_wp2
  go_loopg [4, 13] k (fun kq v4 v13 w' => ∃ (x4_1 : List ByteArray) (x13_1 : Int), v13 = .int .i64 x13_1 ∧ zad (zbb.l0 kq x4_1 l0 (l0.length : Int) x13_1 = some (r1, r2)) ∧ zad (kq ≤ k) ∧ zad (Kd.R Kd.string 9 w' w.heap.size (fun _ => True) v4 x4_1) ∧ zad (Below w.heap.size w w'))
  case atStart => exact ⟨(([] : List ByteArray)), (0), (by first | rfl | (simp; done) | (simp [*]; done)), H', ⟨Nat.le_refl _⟩, ⟨by first | exact Kd.R_nil _ _ _ _ _ | exact Kd.N_nil _ _ _ _ _ | exact Kd.V_nil _ _ _ _ _ | exact Kd.Q_nil _ _ _ _ _ | exact Kd.S_nil _ _ _ _ _⟩, ⟨by repeat (first | (with_reducible first | exact HB.out | apply zab | apply zaa | apply zac) | exact HB.out)⟩⟩
  case round =>
   clear H'
   try clear c2
   try clear c2b0
   try clear c2b1
   try clear p2
   obtain ⟨x4_1, x13_1, rfl, HA, HK1, HO_4, HB⟩ := hrel
   cases gk with
   | zero => exact absurd HA.out (by simp [zbb.l0])
   | succ k1 =>
    have H := HA.out
    clear HA
    simp only [zbb.l0] at H
    by_cases c3 : x13_1 < (l0.length : Int)
    ·rw [if_pos c3] at H
     have c3b0 : decide (x13_1 < (l0.length : Int)) = true := decide_eq_true c3
     clear c3
     by_cases c4 : 0 ≤ x13_1
     ·rw [if_pos c4] at H
      have c4b0 : decide (0 ≤ x13_1) = true := decide_eq_true c4
      clear c4
      by_cases c5 : x13_1 < (l0.length : Int)
      ·rw [if_pos c5] at H
       have c5b0 : decide (x13_1 < (l0.length : Int)) = true := decide_eq_true c5
       clear c5
       replace H := Option.bind_eq_some_iff.mp H
       obtain ⟨t126, A60, H⟩ := H
       replace H : (if t126 = 0 then (if x4_1.length < 8796093022208 then (zbb.l0 k1 (x4_1 ++ [(za6 l0 x13_1).f1]) l0 (l0.length : Int) (wrap64 (x13_1 + 1))) else (none)) else (some ((⟨#[]⟩ : ByteArray), 8))) = some (r1, r2) := H
       have A6 := zad.mk A60
       clear A60
       by_cases c7 : t126 = 0
       ·rw [if_pos c7] at H
        have c7b0 : (t126 == 0) = true := beq_iff_eq.mpr c7
        have c7b1 : (t126 != 0) = false := bne_eq_false_iff_eq.mpr c7
        clear c7
        by_cases c8 : x4_1.length < 8796093022208
        ·rw [if_pos c8] at H
         have LMc8 := zad.mk c8
         clear c8
         obtain ⟨y127, hy127⟩ : ∃ y_ : List ByteArray, y_ = (x4_1 ++ [(za6 l0 x13_1).f1]) := ⟨_, rfl⟩
         replace H : (zbb.l0 k1 y127 l0 (l0.length : Int) (wrap64 (x13_1 + 1))) = some (r1, r2) := by first | (rw [hy127]; with_reducible exact H) | (have H2_ := (Option.bind_some _ _).symm.trans H; rw [hy127]; with_reducible exact H2_) | (have H2_ := (Option.bind_some _ _).symm.trans H; with_reducible exact H2_) | with_reducible exact H | (rw [hy127]; exact H) | exact H
         have Ny127 := zad.mk hy127
         clear hy127
         have H' := zad.mk H
         clear H
         have p124 : 0 ≤ (x13_1 : Int) := of_decide_eq_true (by first | (with_reducible assumption) | assumption)
         have q124 : x13_1 < (l0.length : Int) := of_decide_eq_true (by first | (with_reducible assumption) | assumption)
         obtain ⟨ad124, e124, hx124_0, hx124_1, hx124_2⟩ := zc1 HR0.out x13_1 p124 q124
         cases e124
         replace hx124_0 := (HB.out.cell (World.block_lt_of_cell? w _ hx124_0)).trans hx124_0
         replace hx124_1 := (HB.out.cell (World.block_lt_of_cell? w _ hx124_1)).trans hx124_1
         replace hx124_2 := (HB.out.cell (World.block_lt_of_cell? w _ hx124_2)).trans hx124_2
         replace p124 := eq_true p124
         replace q124 := eq_true q124
         go_wp2_with (first | ((with_reducible refine zbt (N := 6) rfl ?_); refine zbs ?hg (N := 6) ?hd (cs := #[.int .u8 0, .string (⟨#[]⟩ : ByteArray), .int .i64 0]) (t := 33) ?hr ?_; (case hd => rfl); (case hg => rfl); (case hr => first | (go_simp; done) | (go_simp; rfl)); intro gb125 hg w9 hbox hb; have n0_ := zad.mk (Kd.zbv (by (with_reducible repeat (first | apply Kd.zav | apply Kd.za1 | apply Kd.za9)); exact HO_4.out) hb); have n1_ := zad.mk (zaf (by repeat (first | (with_reducible first | exact HB.out | apply zab | apply zaa | apply zac) | exact HB.out)) hb); have n2_ := zad.mk (hbox); have n3_ := zad.mk ((by rw [hg]; exact (zao (by repeat (first | (with_reducible first | exact HB.out | apply zab | apply zaa | apply zac) | exact HB.out))) : w.heap.size ≤ gb125)); have n4_ := zad.mk ((by rw [hg]; exact (zao (by repeat (first | (with_reducible first | exact HB.out | apply zab | apply zaa | apply zac) | exact HB.out))) : w.heap.size ≤ gb125)); clear HO_4; clear HB; have HO_4 := n0_; have HB := n1_; have BK125 := n2_; have GW125 := n3_; have GE125 := n4_; clear n0_ n1_ n2_ n3_ n4_; clear hb hbox hg; have hcz10_0 : w9.cell? ⟨gb125, 0, none⟩ = some (.int .u8 0) := (zal BK125.out 0).trans rfl; have hcz10_1 : w9.cell? ⟨gb125, 1, none⟩ = some (.string (⟨#[]⟩ : ByteArray)) := (zal BK125.out 1).trans rfl; have hcz10_2 : w9.cell? ⟨gb125, 2, none⟩ = some (.int .i64 0) := (zal BK125.out 2).trans rfl; have hfz10_0 := zaj BK125.out 0; have hfz10_1 := zaj BK125.out 1; have hfz10_2 := zaj BK125.out 2) | ((with_reducible refine zan (f := 27) rfl ?_); refine zbd (some 18) rfl rfl Tryz.func27 (by kernel_rfl) rfl #[.agg #[.int .u8 ((za6 l0 x13_1).f0), .string ((za6 l0 x13_1).f1), .int .i64 ((za6 l0 x13_1).f2)]] rfl (by (try simp only [List.map_toArray, List.map_cons, List.map_nil]); first | done | rfl | (simp only [List.length_drop, List.length_take]; rfl)) ?_; (with_reducible refine (zay.calls k1 ((za6 l0 x13_1).f0) ((za6 l0 x13_1).f1) ((za6 l0 x13_1).f2) t126 _ ?side1 A6.out).mono ?_); (case side1 => exact Tabs.below hT (by repeat (first | (with_reducible first | exact HB.out | apply zab | apply zaa | apply zac | refine zaq ?_ GE125.out) | exact HB.out))); rintro e w11 ⟨rfl, hb⟩; refine ⟨_, rfl, ?_⟩; have n0_ := zad.mk (Kd.zbv (by (with_reducible repeat (first | apply Kd.zav | apply Kd.za1 | apply Kd.za9)); exact (Kd.zb0 (Kd.R_far (p := ⟨gb125, 2, none⟩) (Kd.R_far (p := ⟨gb125, 1, none⟩) (Kd.R_far (p := ⟨gb125, 0, none⟩) (Kd.R_types HO_4.out BK125.out (by decide)) (fun _ hk => hk.2) (.int .u8 ((za6 l0 x13_1).f0))) (fun _ hk => hk.2) (.string ((za6 l0 x13_1).f1))) (fun _ hk => hk.2) (.int .i64 ((za6 l0 x13_1).f2))) (fun _ h_ => h_.1))) hb); have n1_ := zad.mk (zbn (g := gb125) (o := .cells #[.int .u8 ((za6 l0 x13_1).f0), .string ((za6 l0 x13_1).f1), .int .i64 ((za6 l0 x13_1).f2)] 33 (0, 0)) (by (with_reducible repeat (first | refine zas ?_ _ | refine zaw ?_ | refine zar ?_ _)); refine zbw (cs := #[.int .u8 ((za6 l0 x13_1).f0), .string ((za6 l0 x13_1).f1), .int .i64 0]) ?_ 2 _ rfl; (with_reducible repeat (first | refine zas ?_ _ | refine zaw ?_ | refine zar ?_ _)); refine zbw (cs := #[.int .u8 ((za6 l0 x13_1).f0), .string (⟨#[]⟩ : ByteArray), .int .i64 0]) ?_ 1 _ rfl; (with_reducible repeat (first | refine zas ?_ _ | refine zaw ?_ | refine zar ?_ _)); refine zbw (cs := #[.int .u8 0, .string (⟨#[]⟩ : ByteArray), .int .i64 0]) ?_ 0 _ rfl; (with_reducible repeat (first | refine zas ?_ _ | refine zaw ?_ | refine zar ?_ _)); exact BK125.out) hb); have n2_ := zad.mk (zaf (by repeat (first | (with_reducible first | exact HB.out | apply zab | apply zaa | apply zac | refine zaq ?_ GE125.out) | exact HB.out)) hb); clear HO_4; clear BK125; clear HB; have HO_4 := n0_; have BK125 := n1_; have HB := n2_; clear n0_ n1_ n2_; (try clear hb); (try clear hb2); (try clear hk); (try clear hi); have hcz12_0 : w11.cell? ⟨gb125, 0, none⟩ = some (.int .u8 ((za6 l0 x13_1).f0)) := (zal BK125.out 0).trans rfl; have hcz12_1 : w11.cell? ⟨gb125, 1, none⟩ = some (.string ((za6 l0 x13_1).f1)) := (zal BK125.out 1).trans rfl; have hcz12_2 : w11.cell? ⟨gb125, 2, none⟩ = some (.int .i64 ((za6 l0 x13_1).f2)) := (zal BK125.out 2).trans rfl; have hfz12_0 := zaj BK125.out 0; have hfz12_1 := zaj BK125.out 1; have hfz12_2 := zaj BK125.out 2) | ((with_reducible refine zbe (b := .append) (xs := #[.tmp 20, .tmp 23]) rfl ?_); at_builtin; refine Kd.zb2 Kd.string (w0 := w) w.heap.size rfl (.tmp 20) (.tmp 23) 23 9 (.string ⟨#[]⟩) 16 rfl Tryz.underlying23 info9 rfl (by decide) (by omega) u4 x4_1 ((za6 l0 x13_1).f1) [.string ((za6 l0 x13_1).f1)] (fun _ => True) (fun _ => False) rfl rfl ?aP (fun _ hk => hk.elim) ?aF ?aO ?aB ?aS ?aL ?_; (case aP => exact rfl); (case aB => exact (by repeat (first | (with_reducible first | exact HB.out | apply zab | apply zaa | apply zac | refine zaq ?_ GE125.out) | exact HB.out))); (case aF => exact (fun _ _ => trivial)); (case aO => exact (by (with_reducible repeat (first | apply Kd.zav | apply Kd.za1 | apply Kd.za9)); exact HO_4.out)); (case aS => exact (zao (by repeat (first | (with_reducible first | exact HB.out | apply zab | apply zaa | apply zac | refine zaq ?_ GE125.out) | exact HB.out)))); (case aL => have := LMc8.out; omega); intro v128 w13 ho hb hg hat; rw [← Ny127.out] at ho; have n0_ := zad.mk (zb9 (g := gb125) (o := .cells #[.int .u8 ((za6 l0 x13_1).f0), .string ((za6 l0 x13_1).f1), .int .i64 ((za6 l0 x13_1).f2)] 33 (0, 0)) (by (with_reducible repeat (first | refine zas ?_ _ | refine zaw ?_ | refine zar ?_ _)); exact BK125.out) hg (Kd.R_ne HO_4.out BK125.out (by decide))); have n1_ := zad.mk (hb); have n2_ := zad.mk (ho); clear BK125; clear HB; clear HO_4; have BK125 := n0_; have HB := n1_; have HO129 := n2_; clear n0_ n1_ n2_; clear ho hb hg hat))
         go_roundg k1
         case measure => have := HK1.out; omega
         case rel => exact ⟨(y127), (wrap64 (x13_1 + 1)), (by first | rfl | (simp; done) | (simp [*]; done)), H', ⟨by have := HK1.out; omega⟩, ⟨by (with_reducible repeat (first | apply Kd.zav | apply Kd.za1 | apply Kd.za9)); exact HO129.out⟩, ⟨by repeat (first | (with_reducible first | exact HB.out | apply zab | apply zaa | apply zac | refine zaq ?_ GE125.out) | exact HB.out)⟩⟩
        ·rw [if_neg c8] at H
         exact absurd H (by simp)
       ·rw [if_neg c7] at H
        have c7b0 : (t126 == 0) = false := beq_eq_false_iff_ne.mpr c7
        have c7b1 : (t126 != 0) = true := bne_iff_ne.mpr c7
        simp only [Option.some.injEq, Prod.mk.injEq] at H
        obtain ⟨rfl, rfl⟩ := H
        have p124 : 0 ≤ (x13_1 : Int) := of_decide_eq_true (by first | (with_reducible assumption) | assumption)
        have q124 : x13_1 < (l0.length : Int) := of_decide_eq_true (by first | (with_reducible assumption) | assumption)
        obtain ⟨ad124, e124, hx124_0, hx124_1, hx124_2⟩ := zc1 HR0.out x13_1 p124 q124
        cases e124
        replace hx124_0 := (HB.out.cell (World.block_lt_of_cell? w _ hx124_0)).trans hx124_0
        replace hx124_1 := (HB.out.cell (World.block_lt_of_cell? w _ hx124_1)).trans hx124_1
        replace hx124_2 := (HB.out.cell (World.block_lt_of_cell? w _ hx124_2)).trans hx124_2
        replace p124 := eq_true p124
        replace q124 := eq_true q124
        go_wp2_with (first | ((with_reducible refine zbt (N := 6) rfl ?_); refine zbs ?hg (N := 6) ?hd (cs := #[.int .u8 0, .string (⟨#[]⟩ : ByteArray), .int .i64 0]) (t := 33) ?hr ?_; (case hd => rfl); (case hg => rfl); (case hr => first | (go_simp; done) | (go_simp; rfl)); intro gb125 hg w14 hbox hb; have n0_ := zad.mk (Kd.zbv (by (with_reducible repeat (first | apply Kd.zav | apply Kd.za1 | apply Kd.za9)); exact HO_4.out) hb); have n1_ := zad.mk (zaf (by repeat (first | (with_reducible first | exact HB.out | apply zab | apply zaa | apply zac) | exact HB.out)) hb); have n2_ := zad.mk (hbox); have n3_ := zad.mk ((by rw [hg]; exact (zao (by repeat (first | (with_reducible first | exact HB.out | apply zab | apply zaa | apply zac) | exact HB.out))) : w.heap.size ≤ gb125)); have n4_ := zad.mk ((by rw [hg]; exact (zao (by repeat (first | (with_reducible first | exact HB.out | apply zab | apply zaa | apply zac) | exact HB.out))) : w.heap.size ≤ gb125)); clear HO_4; clear HB; have HO_4 := n0_; have HB := n1_; have BK125 := n2_; have GW125 := n3_; have GE125 := n4_; clear n0_ n1_ n2_ n3_ n4_; clear hb hbox hg; have hcz15_0 : w14.cell? ⟨gb125, 0, none⟩ = some (.int .u8 0) := (zal BK125.out 0).trans rfl; have hcz15_1 : w14.cell? ⟨gb125, 1, none⟩ = some (.string (⟨#[]⟩ : ByteArray)) := (zal BK125.out 1).trans rfl; have hcz15_2 : w14.cell? ⟨gb125, 2, none⟩ = some (.int .i64 0) := (zal BK125.out 2).trans rfl; have hfz15_0 := zaj BK125.out 0; have hfz15_1 := zaj BK125.out 1; have hfz15_2 := zaj BK125.out 2) | ((with_reducible refine zan (f := 27) rfl ?_); refine zbd (some 18) rfl rfl Tryz.func27 (by kernel_rfl) rfl #[.agg #[.int .u8 ((za6 l0 x13_1).f0), .string ((za6 l0 x13_1).f1), .int .i64 ((za6 l0 x13_1).f2)]] rfl (by (try simp only [List.map_toArray, List.map_cons, List.map_nil]); first | done | rfl | (simp only [List.length_drop, List.length_take]; rfl)) ?_; (with_reducible refine (zay.calls k1 ((za6 l0 x13_1).f0) ((za6 l0 x13_1).f1) ((za6 l0 x13_1).f2) t126 _ ?side1 A6.out).mono ?_); (case side1 => exact Tabs.below hT (by repeat (first | (with_reducible first | exact HB.out | apply zab | apply zaa | apply zac | refine zaq ?_ GE125.out) | exact HB.out))); rintro e w16 ⟨rfl, hb⟩; refine ⟨_, rfl, ?_⟩; have n0_ := zad.mk (Kd.zbv (by (with_reducible repeat (first | apply Kd.zav | apply Kd.za1 | apply Kd.za9)); exact (Kd.zb0 (Kd.R_far (p := ⟨gb125, 2, none⟩) (Kd.R_far (p := ⟨gb125, 1, none⟩) (Kd.R_far (p := ⟨gb125, 0, none⟩) (Kd.R_types HO_4.out BK125.out (by decide)) (fun _ hk => hk.2) (.int .u8 ((za6 l0 x13_1).f0))) (fun _ hk => hk.2) (.string ((za6 l0 x13_1).f1))) (fun _ hk => hk.2) (.int .i64 ((za6 l0 x13_1).f2))) (fun _ h_ => h_.1))) hb); have n1_ := zad.mk (zbn (g := gb125) (o := .cells #[.int .u8 ((za6 l0 x13_1).f0), .string ((za6 l0 x13_1).f1), .int .i64 ((za6 l0 x13_1).f2)] 33 (0, 0)) (by (with_reducible repeat (first | refine zas ?_ _ | refine zaw ?_ | refine zar ?_ _)); refine zbw (cs := #[.int .u8 ((za6 l0 x13_1).f0), .string ((za6 l0 x13_1).f1), .int .i64 0]) ?_ 2 _ rfl; (with_reducible repeat (first | refine zas ?_ _ | refine zaw ?_ | refine zar ?_ _)); refine zbw (cs := #[.int .u8 ((za6 l0 x13_1).f0), .string (⟨#[]⟩ : ByteArray), .int .i64 0]) ?_ 1 _ rfl; (with_reducible repeat (first | refine zas ?_ _ | refine zaw ?_ | refine zar ?_ _)); refine zbw (cs := #[.int .u8 0, .string (⟨#[]⟩ : ByteArray), .int .i64 0]) ?_ 0 _ rfl; (with_reducible repeat (first | refine zas ?_ _ | refine zaw ?_ | refine zar ?_ _)); exact BK125.out) hb); have n2_ := zad.mk (zaf (by repeat (first | (with_reducible first | exact HB.out | apply zab | apply zaa | apply zac | refine zaq ?_ GE125.out) | exact HB.out)) hb); clear HO_4; clear BK125; clear HB; have HO_4 := n0_; have BK125 := n1_; have HB := n2_; clear n0_ n1_ n2_; (try clear hb); (try clear hb2); (try clear hk); (try clear hi)))
        go_ret2
        exact ⟨by first | rfl | (simp [zah, zai] <;> rfl) | (simp [*, zah, zai] <;> rfl), by repeat (first | (with_reducible first | exact HB.out | apply zab | apply zaa | apply zac | refine zaq ?_ GE125.out) | exact HB.out)⟩
      ·rw [if_neg c5] at H
       exact absurd H (by simp)
     ·rw [if_neg c4] at H
      exact absurd H (by simp)
    ·rw [if_neg c3] at H
     have c3b0 : decide (x13_1 < (l0.length : Int)) = false := decide_eq_false c3
     clear c3
     replace H := Option.bind_eq_some_iff.mp H
     obtain ⟨t130, A170, H⟩ := H
     replace H : (if (t130.size : Int) > 400 then (some ((⟨#[]⟩ : ByteArray), 18)) else (some (t130, 0))) = some (r1, r2) := H
     have A17 := zad.mk A170
     clear A170
     by_cases c18 : (t130.size : Int) > 400
     ·rw [if_pos c18] at H
      have c18b0 : decide (400 < (t130.size : Int)) = true := decide_eq_true c18
      have c18b1 : decide (400 < t130.size) = true := decide_eq_true (by omega)
      clear c18
      simp only [Option.some.injEq, Prod.mk.injEq] at H
      obtain ⟨rfl, rfl⟩ := H
      obtain ⟨Ao19, co19, eo19⟩ := Kd.zbk HO_4.out
      subst eo19
      go_wp2_with (first | ((with_reducible refine zan (f := 43) rfl ?_); refine zbd (some 27) rfl rfl Tryz.func43 (by kernel_rfl) rfl #[.slice Ao19 x4_1.length co19, .string (⟨#[32]⟩ : ByteArray)] rfl (by (try simp only [List.map_toArray, List.map_cons, List.map_nil]); first | done | rfl | (simp only [List.length_drop, List.length_take]; rfl)) ?_; (with_reducible refine (strings_Join.calls _ _ x4_1 (⟨#[32]⟩ : ByteArray) t130 _ ?side1 ?side2 A17.out).mono ?_); (case side1 => repeat (first | exact (Kd.zbg HO_4.out).2.2 | (with_reducible refine Kd.zce ?_ _) | (with_reducible refine Kd.zb6 ?_ _) | (with_reducible refine Kd.zcp ?_))); (case side2 => exact (Kd.zbg HO_4.out).2.1); rintro e w20 ⟨rfl, hb⟩; refine ⟨_, rfl, ?_⟩; have n0_ := zad.mk (Kd.zbv (by (with_reducible repeat (first | apply Kd.zav | apply Kd.za1 | apply Kd.za9)); exact HO_4.out) hb); have n1_ := zad.mk (zaf (by repeat (first | (with_reducible first | exact HB.out | apply zab | apply zaa | apply zac) | exact HB.out)) hb); clear HO_4; clear HB; have HO_4 := n0_; have HB := n1_; clear n0_ n1_; (try clear hb); (try clear hb2); (try clear hk); (try clear hi)))
      go_ret2
      exact ⟨by first | rfl | (simp [zah, zai] <;> rfl) | (simp [*, zah, zai] <;> rfl), by repeat (first | (with_reducible first | exact HB.out | apply zab | apply zaa | apply zac) | exact HB.out)⟩
     ·rw [if_neg c18] at H
      have c18b0 : decide (400 < (t130.size : Int)) = false := decide_eq_false c18
      have c18b1 : decide (400 < t130.size) = false := decide_eq_false (by omega)
      clear c18
      simp only [Option.some.injEq, Prod.mk.injEq] at H
      obtain ⟨rfl, rfl⟩ := H
      obtain ⟨Ao21, co21, eo21⟩ := Kd.zbk HO_4.out
      subst eo21
      go_wp2_with (first | ((with_reducible refine zan (f := 43) rfl ?_); refine zbd (some 27) rfl rfl Tryz.func43 (by kernel_rfl) rfl #[.slice Ao21 x4_1.length co21, .string (⟨#[32]⟩ : ByteArray)] rfl (by (try simp only [List.map_toArray, List.map_cons, List.map_nil]); first | done | rfl | (simp only [List.length_drop, List.length_take]; rfl)) ?_; (with_reducible refine (strings_Join.calls _ _ x4_1 (⟨#[32]⟩ : ByteArray) t130 _ ?side1 ?side2 A17.out).mono ?_); (case side1 => repeat (first | exact (Kd.zbg HO_4.out).2.2 | (with_reducible refine Kd.zce ?_ _) | (with_reducible refine Kd.zb6 ?_ _) | (with_reducible refine Kd.zcp ?_))); (case side2 => exact (Kd.zbg HO_4.out).2.1); rintro e w22 ⟨rfl, hb⟩; refine ⟨_, rfl, ?_⟩; have n0_ := zad.mk (Kd.zbv (by (with_reducible repeat (first | apply Kd.zav | apply Kd.za1 | apply Kd.za9)); exact HO_4.out) hb); have n1_ := zad.mk (zaf (by repeat (first | (with_reducible first | exact HB.out | apply zab | apply zaa | apply zac) | exact HB.out)) hb); clear HO_4; clear HB; have HO_4 := n0_; have HB := n1_; clear n0_ n1_; (try clear hb); (try clear hb2); (try clear hk); (try clear hi)))
      go_ret2
      exact ⟨by first | rfl | (simp [zah, zai] <;> rfl) | (simp [*, zah, zai] <;> rfl), by repeat (first | (with_reducible first | exact HB.out | apply zab | apply zaa | apply zac) | exact HB.out)⟩
def zcm.f (l0 : List S43) : Option (List S94 × Bool) := if l0.length ≤ 1000000 then some (Go.Proofs.YtgmmngipnjmkfaaGreatDoor.Pure.tloop l0 0 [] []) else none
theorem zcm.calls (A0 : Option Addr) (c0 : Nat) (l0 : List S43) (r1 : List S94) (r2 : Bool) (w : World) (hr0 : Kd.C k43 w A0 l0.length l0) (hc0 : l0.length ≤ c0) (h : zcm.f l0 = some (r1, r2)) :
    Calls Tryz.prog 53 #[.slice A0 l0.length c0] w fun e w' => ∃ v0_ : Value, e = .returned (.tuple #[v0_, .bool r2]) ∧ Kd.R k94 94 w' w.heap.size (fun _ => True) v0_ r1 ∧ Below w.heap.size w w' := by
  unfold zcm.f at h
  by_cases e : l0.length ≤ 1000000
  · rw [if_pos e] at h
    have h2 := Option.some.inj h
    rw [show r1 = (Go.Proofs.YtgmmngipnjmkfaaGreatDoor.Pure.tloop l0 0 [] []).1 by rw [h2], show r2 = (Go.Proofs.YtgmmngipnjmkfaaGreatDoor.Pure.tloop l0 0 [] []).2 by rw [h2]]
    exact tops_any A0 c0 l0 w hr0 e
  · rw [if_neg e] at h; cases h
def zc6.f (l0 : List (S43)) : Option ((List (S94)) × Int) := if (l0.length : Int) > 60 then (some (([] : List (S94)), 4)) else ((zcm.f l0).bind fun bt131 => (if bt131.2 = true then (if 0 ≤ (wrap64 ((bt131.1.length : Int) - 1)) then (if (wrap64 ((bt131.1.length : Int) - 1)) < (bt131.1.length : Int) then (if ((zcx bt131.1 (wrap64 ((bt131.1.length : Int) - 1))).f2) > 20 then (some (([] : List (S94)), 34)) else (some (bt131.1, 0))) else (none)) else (none)) else (some (([] : List (S94)), 8))))
set_option maxHeartbeats 8000000 in
set_option maxRecDepth 100000 in
theorem zc6.calls (A0 : Option Addr) (c0 : Nat) (l0 : List (S43)) (r1 : List (S94)) (r2 : Int) (w : World) (hr0 : Kd.C k43 w A0 l0.length l0) (hc0 : l0.length ≤ c0) (h : zc6.f l0 = some (r1, r2)) :
    Calls Tryz.prog 32 #[.slice A0 l0.length c0] w fun e w' => ∃ v0_ : Value, e = .returned (.tuple #[v0_, .int .i64 r2]) ∧ Kd.R k94 94 w' w.heap.size (fun _ => True) v0_ r1 ∧ Below w.heap.size w w' := by
  have HR0 := zad.mk hr0
  have HC0 := zad.mk hc0
  clear hr0 hc0
  have HB := zad.mk (Below.refl w.heap.size w)
  have H : (if (l0.length : Int) > 60 then (some (([] : List (S94)), 4)) else ((zcm.f l0).bind fun bt131 => (if bt131.2 = true then (if 0 ≤ (wrap64 ((bt131.1.length : Int) - 1)) then (if (wrap64 ((bt131.1.length : Int) - 1)) < (bt131.1.length : Int) then (if ((zcx bt131.1 (wrap64 ((bt131.1.length : Int) - 1))).f2) > 20 then (some (([] : List (S94)), 34)) else (some (bt131.1, 0))) else (none)) else (none)) else (some (([] : List (S94)), 8))))) = some (r1, r2) := h
  clear h
  by_cases c2 : (l0.length : Int) > 60
  · rw [if_pos c2] at H
    have c2b0 : decide (60 < (l0.length : Int)) = true := decide_eq_true c2
    have c2b1 : decide (60 < l0.length) = true := decide_eq_true (by omega)
    clear c2
    simp only [Option.some.injEq, Prod.mk.injEq] at H
    obtain ⟨rfl, rfl⟩ := H
    go_enter Tryz.func32, Tryz.ntmps32
    go_wp2
    go_ret2
    exact ⟨_, by first | rfl | (simp [zah, zai] <;> rfl) | (simp [*, zah, zai] <;> rfl), by first | exact Kd.R_nil _ _ _ _ _ | exact Kd.N_nil _ _ _ _ _ | exact Kd.V_nil _ _ _ _ _ | exact Kd.Q_nil _ _ _ _ _ | exact Kd.S_nil _ _ _ _ _, by repeat (first | (with_reducible first | exact HB.out | apply zab | apply zaa | apply zac) | exact HB.out)⟩
  · rw [if_neg c2] at H
    have c2b0 : decide (60 < (l0.length : Int)) = false := decide_eq_false c2
    have c2b1 : decide (60 < l0.length) = false := decide_eq_false (by omega)
    clear c2
    replace H := Option.bind_eq_some_iff.mp H
    obtain ⟨⟨t131, t132⟩, A30, H⟩ := H
    replace H : (if t132 = true then (if 0 ≤ (wrap64 ((t131.length : Int) - 1)) then (if (wrap64 ((t131.length : Int) - 1)) < (t131.length : Int) then (if ((zcx t131 (wrap64 ((t131.length : Int) - 1))).f2) > 20 then (some (([] : List (S94)), 34)) else (some (t131, 0))) else (none)) else (none)) else (some (([] : List (S94)), 8))) = some (r1, r2) := H
    have A3 := zad.mk A30
    clear A30
    by_cases c4 : t132 = true
    · subst c4
      have H1 : (if 0 ≤ (wrap64 ((t131.length : Int) - 1)) then (if (wrap64 ((t131.length : Int) - 1)) < (t131.length : Int) then (if ((zcx t131 (wrap64 ((t131.length : Int) - 1))).f2) > 20 then (some (([] : List (S94)), 34)) else (some (t131, 0))) else (none)) else (none)) = some (r1, r2) := by rw [if_pos rfl] at H; exact H
      clear H
      have H := H1
      clear H1
      obtain ⟨ji5, hji5⟩ : ∃ j_ : Int, (wrap64 ((t131.length : Int) - 1)) = j_ := ⟨_, rfl⟩
      replace H : (if 0 ≤ (ji5) then (if (ji5) < (t131.length : Int) then (if ((zcx t131 (ji5)).f2) > 20 then (some (([] : List (S94)), 34)) else (some (t131, 0))) else (none)) else (none)) = some (r1, r2) := by first | (rw [hji5] at H; exact H) | (simp only [hji5] at H ⊢; exact H)
      (try rw [hji5] at A3)
      have hji5w : (IntKind.i64.wrap ((t131.length : Int) - 1)) = ji5 := (i64_w _).trans hji5
      by_cases c6 : 0 ≤ (ji5)
      · rw [if_pos c6] at H
        have c6b0 : decide (0 ≤ (ji5)) = true := decide_eq_true c6
        clear c6
        by_cases c7 : (ji5) < (t131.length : Int)
        · rw [if_pos c7] at H
          have c7b0 : decide ((ji5) < (t131.length : Int)) = true := decide_eq_true c7
          clear c7
          by_cases c8 : ((zcx t131 (ji5)).f2) > 20
          · rw [if_pos c8] at H
            have c8b0 : decide (20 < ((zcx t131 (ji5)).f2)) = true := decide_eq_true c8
            clear c8
            simp only [Option.some.injEq, Prod.mk.injEq] at H
            obtain ⟨rfl, rfl⟩ := H
            go_enter Tryz.func32, Tryz.ntmps32
            go_wp2_with (first | ((with_reducible refine zan (f := 53) rfl ?_); refine zbd (some 11) rfl rfl Tryz.func53 (by kernel_rfl) rfl #[.slice A0 l0.length c0] rfl (by (try simp only [List.map_toArray, List.map_cons, List.map_nil]); first | done | rfl | (simp only [List.length_drop, List.length_take]; rfl)) ?_; (with_reducible refine (zcm.calls _ _ l0 t131 true _ ?side1 ?side2 A3.out).mono ?_); (case side1 => repeat (first | exact HR0.out | (with_reducible refine Kd.zce ?_ _) | (with_reducible refine Kd.zb6 ?_ _) | (with_reducible refine Kd.zcp ?_))); (case side2 => exact HC0.out); rintro e w9 ⟨v133, rfl, ho0, hb⟩; refine ⟨_, rfl, ?_⟩; have n0_ := zad.mk (Kd.zbp ho0 (zao (by repeat (first | (with_reducible first | exact HB.out | apply zab | apply zaa | apply zac) | exact HB.out)))); have n1_ := zad.mk (zaf (by repeat (first | (with_reducible first | exact HB.out | apply zab | apply zaa | apply zac) | exact HB.out)) hb); clear HB; have HO134 := n0_; have HB := n1_; clear n0_ n1_; (try clear hb); (try clear hb2); (try clear hk); (try clear hi); (try clear ho0); obtain ⟨Ao10, co10, eo10⟩ := Kd.zbk HO134.out; subst eo10; have p135 : 0 ≤ ((ji5) : Int) := of_decide_eq_true (by first | (with_reducible assumption) | assumption); have q135 : (ji5) < (t131.length : Int) := of_decide_eq_true (by first | (with_reducible assumption) | assumption); obtain ⟨ad135, e135, hx135_0, hx135_1, hx135_2⟩ := at_T94 (Kd.zbg HO134.out).2.2 (ji5) p135 q135; cases e135; replace p135 := eq_true p135; replace q135 := eq_true q135))
            go_ret2
            exact ⟨_, by first | rfl | (simp [zah, zai] <;> rfl) | (simp only [← hji5]; first | rfl | (simp [zah, zai] <;> rfl)) | (simp [*, zah, zai] <;> rfl), by first | exact Kd.R_nil _ _ _ _ _ | exact Kd.N_nil _ _ _ _ _ | exact Kd.V_nil _ _ _ _ _ | exact Kd.Q_nil _ _ _ _ _ | exact Kd.S_nil _ _ _ _ _, by repeat (first | (with_reducible first | exact HB.out | apply zab | apply zaa | apply zac) | exact HB.out)⟩
          · rw [if_neg c8] at H
            have c8b0 : decide (20 < ((zcx t131 (ji5)).f2)) = false := decide_eq_false c8
            clear c8
            simp only [Option.some.injEq, Prod.mk.injEq] at H
            obtain ⟨rfl, rfl⟩ := H
            go_enter Tryz.func32, Tryz.ntmps32
            go_wp2_with (first | ((with_reducible refine zan (f := 53) rfl ?_); refine zbd (some 11) rfl rfl Tryz.func53 (by kernel_rfl) rfl #[.slice A0 l0.length c0] rfl (by (try simp only [List.map_toArray, List.map_cons, List.map_nil]); first | done | rfl | (simp only [List.length_drop, List.length_take]; rfl)) ?_; (with_reducible refine (zcm.calls _ _ l0 t131 true _ ?side1 ?side2 A3.out).mono ?_); (case side1 => repeat (first | exact HR0.out | (with_reducible refine Kd.zce ?_ _) | (with_reducible refine Kd.zb6 ?_ _) | (with_reducible refine Kd.zcp ?_))); (case side2 => exact HC0.out); rintro e w11 ⟨v133, rfl, ho0, hb⟩; refine ⟨_, rfl, ?_⟩; have n0_ := zad.mk (Kd.zbp ho0 (zao (by repeat (first | (with_reducible first | exact HB.out | apply zab | apply zaa | apply zac) | exact HB.out)))); have n1_ := zad.mk (zaf (by repeat (first | (with_reducible first | exact HB.out | apply zab | apply zaa | apply zac) | exact HB.out)) hb); clear HB; have HO134 := n0_; have HB := n1_; clear n0_ n1_; (try clear hb); (try clear hb2); (try clear hk); (try clear hi); (try clear ho0); obtain ⟨Ao12, co12, eo12⟩ := Kd.zbk HO134.out; subst eo12; have p135 : 0 ≤ ((ji5) : Int) := of_decide_eq_true (by first | (with_reducible assumption) | assumption); have q135 : (ji5) < (t131.length : Int) := of_decide_eq_true (by first | (with_reducible assumption) | assumption); obtain ⟨ad135, e135, hx135_0, hx135_1, hx135_2⟩ := at_T94 (Kd.zbg HO134.out).2.2 (ji5) p135 q135; cases e135; replace p135 := eq_true p135; replace q135 := eq_true q135))
            go_ret2
            exact ⟨_, by first | rfl | (simp [zah, zai] <;> rfl) | (simp only [← hji5]; first | rfl | (simp [zah, zai] <;> rfl)) | (simp [*, zah, zai] <;> rfl), by (with_reducible repeat (first | apply Kd.zav | apply Kd.za1 | apply Kd.za9)); exact HO134.out, by repeat (first | (with_reducible first | exact HB.out | apply zab | apply zaa | apply zac) | exact HB.out)⟩
        · rw [if_neg c7] at H
          exact absurd H (by simp)
      · rw [if_neg c6] at H
        exact absurd H (by simp)
    · replace c4 := Bool.eq_false_iff.mpr c4
      subst c4
      have H1 : (some (([] : List (S94)), 8)) = some (r1, r2) := by rw [if_neg (show ¬ (false = true) by decide)] at H; exact H
      clear H
      have H := H1
      clear H1
      simp only [Option.some.injEq, Prod.mk.injEq] at H
      obtain ⟨rfl, rfl⟩ := H
      go_enter Tryz.func32, Tryz.ntmps32
      go_wp2_with (first | ((with_reducible refine zan (f := 53) rfl ?_); refine zbd (some 11) rfl rfl Tryz.func53 (by kernel_rfl) rfl #[.slice A0 l0.length c0] rfl (by (try simp only [List.map_toArray, List.map_cons, List.map_nil]); first | done | rfl | (simp only [List.length_drop, List.length_take]; rfl)) ?_; (with_reducible refine (zcm.calls _ _ l0 t131 false _ ?side1 ?side2 A3.out).mono ?_); (case side1 => repeat (first | exact HR0.out | (with_reducible refine Kd.zce ?_ _) | (with_reducible refine Kd.zb6 ?_ _) | (with_reducible refine Kd.zcp ?_))); (case side2 => exact HC0.out); rintro e w13 ⟨v133, rfl, ho0, hb⟩; refine ⟨_, rfl, ?_⟩; have n0_ := zad.mk (Kd.zbp ho0 (zao (by repeat (first | (with_reducible first | exact HB.out | apply zab | apply zaa | apply zac) | exact HB.out)))); have n1_ := zad.mk (zaf (by repeat (first | (with_reducible first | exact HB.out | apply zab | apply zaa | apply zac) | exact HB.out)) hb); clear HB; have HO134 := n0_; have HB := n1_; clear n0_ n1_; (try clear hb); (try clear hb2); (try clear hk); (try clear hi); (try clear ho0)))
      go_ret2
      exact ⟨_, by first | rfl | (simp [zah, zai] <;> rfl) | (simp [*, zah, zai] <;> rfl), by first | exact Kd.R_nil _ _ _ _ _ | exact Kd.N_nil _ _ _ _ _ | exact Kd.V_nil _ _ _ _ _ | exact Kd.Q_nil _ _ _ _ _ | exact Kd.S_nil _ _ _ _ _, by repeat (first | (with_reducible first | exact HB.out | apply zab | apply zaa | apply zac) | exact HB.out)⟩
def zbl.f (l0 : List (S43)) : Option (Int) := (zc6.f l0).bind fun bt136 => (some bt136.2)
set_option maxHeartbeats 8000000 in
set_option maxRecDepth 100000 in
theorem zbl.calls (A0 : Option Addr) (c0 : Nat) (l0 : List (S43)) (r : Int) (w : World) (hr0 : Kd.C k43 w A0 l0.length l0) (hc0 : l0.length ≤ c0) (h : zbl.f l0 = some r) :
    Calls Tryz.prog 15 #[.slice A0 l0.length c0] w fun e w' => e = .returned (.int .i64 r) ∧ Below w.heap.size w w' := by
  have HR0 := zad.mk hr0
  have HC0 := zad.mk hc0
  clear hr0 hc0
  have HB := zad.mk (Below.refl w.heap.size w)
  have H : ((zc6.f l0).bind fun bt136 => (some bt136.2)) = some r := h
  clear h
  replace H := Option.bind_eq_some_iff.mp H
  obtain ⟨⟨t136, t137⟩, A20, H⟩ := H
  replace H : (some t137) = some r := H
  have A2 := zad.mk A20
  clear A20
  obtain rfl := Option.some.inj H
  go_enter Tryz.func15, Tryz.ntmps15
  go_wp2_with (first | ((with_reducible refine zan (f := 32) rfl ?_); refine zbd (some 7) rfl rfl Tryz.func32 (by kernel_rfl) rfl #[.slice A0 l0.length c0] rfl (by (try simp only [List.map_toArray, List.map_cons, List.map_nil]); first | done | rfl | (simp only [List.length_drop, List.length_take]; rfl)) ?_; (with_reducible refine (zc6.calls _ _ l0 t136 t137 _ ?side1 ?side2 A2.out).mono ?_); (case side1 => repeat (first | exact HR0.out | (with_reducible refine Kd.zce ?_ _) | (with_reducible refine Kd.zb6 ?_ _) | (with_reducible refine Kd.zcp ?_))); (case side2 => exact HC0.out); rintro e w3 ⟨v138, rfl, ho0, hb⟩; refine ⟨_, rfl, ?_⟩; have n0_ := zad.mk (Kd.zbp ho0 (zao (by repeat (first | (with_reducible first | exact HB.out | apply zab | apply zaa | apply zac) | exact HB.out)))); have n1_ := zad.mk (zaf (by repeat (first | (with_reducible first | exact HB.out | apply zab | apply zaa | apply zac) | exact HB.out)) hb); clear HB; have HO139 := n0_; have HB := n1_; clear n0_ n1_; (try clear hb); (try clear hb2); (try clear hk); (try clear hi); (try clear ho0)))
  go_ret
  exact ⟨by first | rfl | (simp [zah, zai] <;> rfl) | (simp [*, zah, zai] <;> rfl), by repeat (first | (with_reducible first | exact HB.out | apply zab | apply zaa | apply zac) | exact HB.out)⟩
def zb5.f (a0 : Int) : Option (Int × Int) := if 1 ≤ a0 ∧ a0 ≤ 19 then some ((Go.Proofs.YtgmmngipnjmkfaaGreatDoor.Pure.cntI a0 : Nat), 0) else some (0, 2)
theorem zb5.calls (a0 : Int) (r1 : Int) (r2 : Int) (w : World) (h : zb5.f a0 = some (r1, r2)) :
    Calls Tryz.prog 36 #[.int .u8 a0] w fun e w' => e = .returned (.tuple #[.int .i64 r1, .int .i64 r2]) ∧ Below w.heap.size w w' := by
  unfold zb5.f at h
  by_cases e : 1 ≤ a0 ∧ a0 ≤ 19
  · rw [if_pos e] at h
    obtain ⟨h1, h2⟩ := Prod.mk.inj (Option.some.inj h)
    subst h1; subst h2
    rcases (show a0 ≤ 4 ∨ (a0 = 5 ∨ a0 = 6) ∨ 7 ≤ a0 by omega) with hq | hq | hq
    · rw [Go.Proofs.YtgmmngipnjmkfaaGreatDoor.Pure.cnt_leaf hq]; exact (parts_0 a0 w e.1 hq).mono fun _ _ ⟨h3, h4⟩ => ⟨h3, h4 ▸ Below.refl _ _⟩
    · rw [Go.Proofs.YtgmmngipnjmkfaaGreatDoor.Pure.cnt_un hq]; exact (parts_1 a0 w hq).mono fun _ _ ⟨h3, h4⟩ => ⟨h3, h4 ▸ Below.refl _ _⟩
    · rw [Go.Proofs.YtgmmngipnjmkfaaGreatDoor.Pure.cnt_bin hq]; exact (parts_2 a0 w hq e.2).mono fun _ _ ⟨h3, h4⟩ => ⟨h3, h4 ▸ Below.refl _ _⟩
  · rw [if_neg e] at h
    obtain ⟨h1, h2⟩ := Prod.mk.inj (Option.some.inj h)
    subst h1; subst h2
    exact (parts_no a0 w (by omega)).mono fun _ _ ⟨h3, h4⟩ => ⟨h3, h4 ▸ Below.refl _ _⟩
def api_Node.f (l0 : List S43) : Option (List S43) := if l0.length ≤ 1000000 then some l0 else none
theorem api_Node.calls (A0 : Option Addr) (c0 : Nat) (l0 : List S43) (r : List S43) (w : World) (hr0 : Kd.C k43 w A0 l0.length l0) (hc0 : l0.length ≤ c0) (h : api_Node.f l0 = some r) :
    Calls Tryz.prog 56 #[.slice A0 l0.length c0] w fun e w' => ∃ v0_ : Value, e = .returned v0_ ∧ Kd.R k43 43 w' w.heap.size (fun _ => True) v0_ r ∧ Below w.heap.size w w' := by
  unfold api_Node.f at h
  by_cases e : l0.length ≤ 1000000
  · rw [if_pos e] at h
    obtain rfl := Option.some.inj h
    exact clone_any A0 c0 l0 w hr0 e
  · rw [if_neg e] at h; cases h
end Go.Proofs.YtgmmngipnjmkfaaGreatDoor.Q
end
section
namespace Go.Proofs.YtgmmngipnjmkfaaGreatDoor.PureL
open Go.RowKit Go.Proofs.YtgmmngipnjmkfaaGreatDoor.Hand Go.Proofs.YtgmmngipnjmkfaaGreatDoor.Q Go.Proofs.YtgmmngipnjmkfaaGreatDoorW.PrintWords Go.Proofs.YtgmmngipnjmkfaaGreatDoorW.PrintLast Go.Proofs.YtgmmngipnjmkfaaGreatDoorW.PrintMore
def ba (l : List UInt8) : ByteArray := ⟨l.toArray⟩
theorem ba_of {t : ByteArray} {l : List UInt8} (h : t.data.toList = l) : t = ba l := by subst h; rfl
def kd (b : UInt8) : Int := kindOf b.toNat
def run (q : Int) (L : List UInt8) : List UInt8 := L.takeWhile fun b => kd b == q
def tok : List UInt8 → Int × List UInt8
  | [] => (3, [])
  | c :: r => if kd c = 2 then (1, run 2 (c :: r)) else if kd c = 3 then (2, run 3 (c :: r)) else (3, (c :: r).take (symL (c :: r)).toNat)
def chk (q : Int) (t : List UInt8) : Int :=
  if q = 1 then (readL t).2 else if q = 2 then (if isWord (ba t) = true then 0 else 32) else if q = 3 then (if symL t > 0 ∧ symL t = (t.length : Int) then 0 else 32) else 32
inductive Scan : Nat → Nat → List UInt8 → List S33 → Nat → Int → Prop
  | done (a n : Nat) : Scan a n [] [] a 0
  | blank {a n : Nat} {c : UInt8} {r : List UInt8} {ts : List S33} {m : Nat} {e : Int} : kd c = 1 → Scan (a + 1) n r ts m e → Scan a n (c :: r) ts m e
  | many {a : Nat} {c : UInt8} {r : List UInt8} : kd c ≠ 1 → Scan a 200 (c :: r) [] a 4
  | bad {a n : Nat} {c : UInt8} {r : List UInt8} {e : Int} : kd c ≠ 1 → n ≠ 200 → chk (tok (c :: r)).1 (tok (c :: r)).2 = e → e ≠ 0 → Scan a n (c :: r) [] a e
  | tok {a n : Nat} {c : UInt8} {r : List UInt8} {ts : List S33} {m : Nat} {e : Int} : kd c ≠ 1 → n ≠ 200 → chk (tok (c :: r)).1 (tok (c :: r)).2 = 0 →
      Scan (a + (tok (c :: r)).2.length) (n + 1) ((c :: r).drop (tok (c :: r)).2.length) ts m e → Scan a n (c :: r) (⟨(tok (c :: r)).1, ba (tok (c :: r)).2, (a : Int)⟩ :: ts) m e
theorem chk_pos {q : Int} {t : List UInt8} (h : chk q t = 0) : t ≠ [] := by
  rintro rfl
  unfold chk at h
  by_cases h1 : q = 1
  · rw [if_pos h1] at h; exact absurd h (by decide)
  rw [if_neg h1] at h
  by_cases h2 : q = 2
  · rw [if_pos h2] at h
    have : isWord (ba []) = false := by kernel_rfl
    rw [this] at h; exact absurd h (by decide)
  rw [if_neg h2] at h
  by_cases h3 : q = 3
  · rw [if_pos h3] at h; exact absurd h (by decide)
  · rw [if_neg h3] at h; exact absurd h (by decide)
theorem symL_le (L : List UInt8) : 0 ≤ symL L ∧ symL L ≤ (L.length : Int) := by
  match L with
  | [] => exact ⟨Int.le_refl _, Int.le_refl _⟩
  | a :: r =>
    rcases symL_cases a r with h | h | ⟨b, l, rfl, h, _⟩
    · rw [h.1]; exact ⟨by omega, by omega⟩
    · rw [h.1, List.length_cons]; exact ⟨by omega, by omega⟩
    · rw [h, List.length_cons, List.length_cons]; exact ⟨by omega, by omega⟩
theorem symbol_zero (t : ByteArray) : zb1.f t 0 = some (symL t.data.toList, 0) := by
  unfold zb1.f
  rw [if_neg (by omega), symT_L, Lib.extract_data]
  simp only [Int.toNat_zero, List.drop_zero, Nat.sub_zero]
  rw [List.take_of_length_le (by rw [zbu]; exact Nat.le_refl _)]
theorem check_f (k : Nat) (hk : 0 < k) (q : Int) (t : ByteArray) (a : Int) (ht : t.size ≤ 140737488351232) : zay.f k q t a = some (chk q t.data.toList) := by
  obtain ⟨k, rfl⟩ : ∃ m, k = m + 1 := ⟨k - 1, by omega⟩
  have hz : (t.size : Int) = (t.data.toList.length : Int) := by rw [zbu]
  have hba : ba t.data.toList = t := (ba_of rfl).symm
  unfold zay.f chk
  by_cases h1 : q = 1
  · rw [if_pos h1, if_pos h1]; unfold zdo.f; rw [if_pos ht]; rfl
  rw [if_neg h1, if_neg h1]
  by_cases h2 : q = 2
  · rw [if_pos h2, if_pos h2, hba]; unfold zc2.f; simp only [Option.bind_some]
    cases isWord t <;> rfl
  rw [if_neg h2, if_neg h2]
  by_cases h3 : q = 3
  · rw [if_pos h3, if_pos h3, symbol_zero]
    simp only [Option.bind_some, if_true]
    by_cases h4 : symL t.data.toList > 0
    · rw [if_pos h4, hz]
      simp only [zay.j0]
      by_cases h5 : symL t.data.toList = (t.data.toList.length : Int)
      · rw [if_pos (beq_t h5), if_pos ⟨h4, h5⟩]
      · rw [if_neg (by rw [beq_f h5]; simp), if_neg (fun h => h5 h.2)]
    · rw [if_neg h4, if_neg (fun h => h4 h.1)]
      simp only [zay.j0]; rfl
  · rw [if_neg h3, if_neg h3]
end Go.Proofs.YtgmmngipnjmkfaaGreatDoor.PureL
end
section
namespace Go.Proofs.YtgmmngipnjmkfaaGreatDoor.PureL
open Go.RowKit Go.Proofs.YtgmmngipnjmkfaaGreatDoor.Hand Go.Proofs.YtgmmngipnjmkfaaGreatDoor.Q Go.Proofs.YtgmmngipnjmkfaaGreatDoorW.PrintWords Go.Proofs.YtgmmngipnjmkfaaGreatDoorW.PrintLast Go.Proofs.YtgmmngipnjmkfaaGreatDoorW.PrintMore
def chkT (t : S33) : Int := chk t.f0 t.f1.data.toList
def sp : ByteArray := ⟨#[32]⟩
def em : ByteArray := ⟨#[]⟩
theorem rd_get (l : List S33) (i : Nat) (h : i < l.length) : za6 l (i : Int) = l[i] := by simp [za6, h]
theorem lens_le (l : List (List UInt8)) (b : Nat) (h : ∀ x ∈ l, x.length ≤ b) : Lib.lens l ≤ b * l.length := by
  induction l with
  | nil => exact Nat.le_refl _
  | cons x r ih =>
    have h1 := h x (List.mem_cons_self ..)
    have h2 := ih fun y hy => h y (List.mem_cons_of_mem _ hy)
    have : Lib.lens (x :: r) = x.length + Lib.lens r := by simp [Lib.lens]
    rw [this, List.length_cons, Nat.mul_add]; omega
theorem sjoin_f (l : List ByteArray) (B : Nat) (hl : l.length ≤ 200) (hB : (B + 1) * l.length ≤ 140737488355328) (hb : ∀ t ∈ l, t.size ≤ B) : strings_Join.f l sp = some (joinB l sp) := by
  unfold strings_Join.f
  refine if_pos ⟨by omega, ?_⟩
  cases l with
  | nil => exact Nat.zero_le _
  | cons x r =>
    rw [List.map_cons, Lib.join_length]
    have h := lens_le ((x :: r).map (·.data.toList)) B (fun y hy => by
      obtain ⟨z, hz, rfl⟩ := List.mem_map.1 hy
      rw [zbu]; exact hb z hz)
    rw [Nat.add_mul, Nat.one_mul] at hB
    rw [List.length_map] at h
    have h2 : ∀ m, m ≤ B * (x :: r).length → m + (x :: r).length ≤ 140737488355328 := fun m hm => by omega
    have h3 := h2 _ h
    rw [List.length_cons] at h3
    rw [List.map_cons] at h3
    have : sp.data.toList.length = 1 := rfl
    rw [this, List.length_map]
    omega
def jn (l : List S33) : ByteArray × Int :=
  if l.length > 200 then (em, 4) else if l.all (fun t => chkT t == 0) = true then (if (joinB (l.map S33.f1) sp).size > 400 then (em, 18) else (joinB (l.map S33.f1) sp, 0)) else (em, 8)
theorem join_l0 (l : List S33) (B : Nat) (hB2 : B ≤ 140737488351232) (hl : l.length ≤ 200) (hB : (B + 1) * l.length ≤ 140737488355328) (hb : ∀ t ∈ l, t.f1.size ≤ B) (d : Nat) : ∀ (k i : Nat), l.length - i = d → i ≤ l.length → d < k →
    zbb.l0 k ((l.take i).map S33.f1) l (l.length : Int) (i : Int) = some (if (l.drop i).all (fun t => chkT t == 0) = true then (if (joinB (l.map S33.f1) sp).size > 400 then (em, 18) else (joinB (l.map S33.f1) sp, 0)) else (em, 8)) := by
  induction d with
  | zero =>
    intro k i hd hi hk
    obtain ⟨k, rfl⟩ : ∃ m, k = m + 1 := ⟨k - 1, by omega⟩
    have h := sjoin_f (l.map S33.f1) B (by rw [List.length_map]; exact hl) (by rw [List.length_map]; exact hB) (fun x hx => by obtain ⟨z, hz, rfl⟩ := List.mem_map.1 hx; exact hb z hz)
    unfold sp at h
    simp only [zbb.l0]
    rw [if_neg (by omega), List.take_of_length_le (by omega), h, List.drop_of_length_le (by omega), if_pos List.all_nil]
    show (if ((joinB (l.map S33.f1) sp).size : Int) > 400 then some ((⟨#[]⟩ : ByteArray), (18 : Int)) else some (joinB (l.map S33.f1) sp, 0)) = _
    by_cases c : (joinB (l.map S33.f1) sp).size > 400
    · rw [if_pos (by omega), if_pos c]; rfl
    · rw [if_neg (by omega), if_neg c]
  | succ d ih =>
    intro k i hd hi hk
    obtain ⟨k, rfl⟩ : ∃ m, k = m + 1 := ⟨k - 1, by omega⟩
    have hlt : i < l.length := by omega
    have hih := ih k (i + 1) (by omega) (by omega) (by omega)
    have hw : wrap64 ((i : Int) + 1) = ((i + 1 : Nat) : Int) := by clear ih hih; unfold wrap64; omega
    have hz := hb l[i] (List.getElem_mem hlt)
    have hck := check_f k (by omega) l[i].f0 l[i].f1 l[i].f2 (by omega)
    have htl : (l.take i).map S33.f1 ++ [l[i].f1] = (l.take (i + 1)).map S33.f1 := by rw [List.take_succ_eq_append_getElem hlt, List.map_append]; rfl
    have hll : ((l.take i).map S33.f1).length < 8796093022208 := by rw [List.length_map, List.length_take]; omega
    rw [List.drop_eq_getElem_cons hlt, List.all_cons]
    simp only [zbb.l0]
    rw [if_pos (by omega), if_pos (by omega), if_pos (by omega), rd_get l i hlt, hck, Option.bind_some]
    by_cases c : chk l[i].f0 l[i].f1.data.toList = 0
    · rw [if_pos c, if_pos hll, htl, hw, hih]
      have : (chkT l[i] == 0) = true := beq_t c
      rw [this, Bool.true_and]
    · rw [if_neg c]
      have : (chkT l[i] == 0) = false := beq_f c
      rw [this, Bool.false_and]; rfl
theorem join_f (l : List S33) (B : Nat) (hB2 : B ≤ 140737488351232) (hB : l.length ≤ 200 → (B + 1) * l.length ≤ 140737488355328) (hb : ∀ t ∈ l, t.f1.size ≤ B) (k : Nat) (hk : 201 ≤ k) : zbb.f k l = some (jn l) := by
  unfold zbb.f jn
  by_cases h : l.length > 200
  · rw [if_pos (by omega), if_pos h]; rfl
  · rw [if_neg (by omega), if_neg h]
    exact join_l0 l B hB2 (by omega) (hB (by omega)) hb l.length k 0 (by omega) (by omega) (by omega)
set_option linter.unusedVariables false
theorem digB_kd (b : UInt8) : digB b = (kd b == 2) := by
  have h : ∀ n : Fin 256, digB (UInt8.ofNat n.val) = (kd (UInt8.ofNat n.val) == 2) := by decide +kernel
  have := h ⟨b.toNat, b.toNat_lt⟩
  simpa using this
theorem word_letters (t : List UInt8) (h : isWord (ba t) = true) : t.all (fun b => kd b == 3) = true := by
  have hall : wordList.all (fun w => w.data.toList.all fun b => kd b == 3) = true := by kernel_rfl
  have := List.all_eq_true.1 hall _ (isWord_iff.1 h)
  exact this
theorem run_all (q : Int) (t : List UInt8) (h : t.all (fun b => kd b == q) = true) : run q t = t := by
  unfold run
  induction t with
  | nil => rfl
  | cons c r ih =>
    rw [List.all_cons, Bool.and_eq_true] at h
    rw [List.takeWhile_cons_of_pos (p := fun b => kd b == q) h.1, ih h.2]
theorem tok_valid (q : Int) (t : List UInt8) (h : chk q t = 0) : tok t = (q, t) := by
  have hne := chk_pos h
  cases t with
  | nil => exact absurd rfl hne
  | cons c r =>
    unfold chk at h
    by_cases h1 : q = 1
    · rw [if_pos h1] at h
      have hd : (c :: r).all digB = true := by
        unfold readL at h
        rw [if_neg (by simp)] at h
        by_cases hd : (c :: r).all digB = true
        · exact hd
        · rw [if_neg hd] at h; exact absurd h (by decide)
      have hk : (c :: r).all (fun b => kd b == 2) = true := by
        rw [List.all_eq_true] at hd ⊢
        intro b hb; rw [← digB_kd]; exact hd b hb
      have hc : kd c = 2 := by have := List.all_eq_true.1 hk c (List.mem_cons_self ..); simpa using this
      simp only [tok, if_pos hc]
      rw [run_all 2 _ hk, h1]
    rw [if_neg h1] at h
    by_cases h2 : q = 2
    · rw [if_pos h2] at h
      have hw : isWord (ba (c :: r)) = true := by
        cases hw : isWord (ba (c :: r)) with
        | true => rfl
        | false => rw [hw] at h; exact absurd h (by decide)
      have hk := word_letters _ hw
      have hc : kd c = 3 := by have := List.all_eq_true.1 hk c (List.mem_cons_self ..); simpa using this
      simp only [tok, if_neg (show ¬ kd c = 2 by rw [hc]; decide), if_pos hc]
      rw [run_all 3 _ hk, h2]
    rw [if_neg h2] at h
    by_cases h3 : q = 3
    · rw [if_pos h3] at h
      have hs : symL (c :: r) > 0 ∧ symL (c :: r) = ((c :: r).length : Int) := by
        by_cases hs : symL (c :: r) > 0 ∧ symL (c :: r) = ((c :: r).length : Int)
        · exact hs
        · rw [if_neg hs] at h; exact absurd h (by decide)
      have hc : kd c = 4 := by
        rcases symL_cases c r with hx | hx | ⟨b, l, _, _, hx, _⟩
        · rw [hx.1] at hs; exact absurd hs.1 (by decide)
        · exact hx.2.1
        · exact hx
      simp only [tok, if_neg (show ¬ kd c = 2 by rw [hc]; decide), if_neg (show ¬ kd c = 3 by rw [hc]; decide)]
      rw [hs.2, Int.toNat_natCast, List.take_length, h3]
    · rw [if_neg h3] at h; exact absurd h (by decide)
theorem kd_sp : kd 32 = 1 := by decide
theorem chk_head (q : Int) (c : UInt8) (r : List UInt8) (h : chk q (c :: r) = 0) : kd c ≠ 1 := by
  intro hk
  have ht := tok_valid q _ h
  simp only [tok, if_neg (show ¬ kd c = 2 by rw [hk]; decide), if_neg (show ¬ kd c = 3 by rw [hk]; decide)] at ht
  have h2 := (Prod.mk.inj ht).2
  rcases symL_cases c r with hx | hx | ⟨b, l, _, _, hx, _⟩
  · rw [hx.1] at h2; cases h2
  · have := hx.2.1; unfold kd at hk; rw [hk] at this; cases this
  · unfold kd at hk; rw [hk] at hx; cases hx
end Go.Proofs.YtgmmngipnjmkfaaGreatDoor.PureL
end
section
namespace Go.Proofs.YtgmmngipnjmkfaaGreatDoor.Pure
open Go.Proofs.YtgmmngipnjmkfaaGreatDoor.Q
def opB (k : Int) : List UInt8 :=
  if k = 7 then [42] else if k = 8 then [43] else if k = 9 then [45] else if k = 10 then [60, 60] else if k = 11 then [62, 62] else if k = 12 then [60] else if k = 13 then [60, 61] else if k = 14 then [62] else if k = 15 then [62, 61]
  else if k = 16 then [61] else if k = 17 then [33, 61] else if k = 18 then [97, 110, 100] else [111, 114]
def fldB (k : Int) : List UInt8 := if k = 2 then [107] else if k = 3 then [116] else [118]
def brB (p : Bool) (s : List UInt8) : List UInt8 := if p then 40 :: (s ++ [41]) else s
def tbytes : Tr → Bool → List UInt8
  | .leaf k n _, _ => if k = 1 then Lib.itoa n else fldB k
  | .un k _ a, p => brB p ((if k = 5 then [45, 32] else [110, 111, 116, 32]) ++ tbytes a true)
  | .bin k _ a b, p => brB p (tbytes a true ++ ([32] ++ (opB k ++ ([32] ++ tbytes b true))))
def rdN (l : List Nd) (i : Int) : Nd := l.getD i.toNat z43
def textN : Nat → List Nd → Int → Bool → List UInt8
  | 0, _, _, _ => []
  | k + 1, l, a, p =>
    if (rdN l a).f0 = 1 then Lib.itoa (rdN l a).f1 else if (rdN l a).f0 ≤ 4 then fldB (rdN l a).f0
    else if (rdN l a).f0 ≤ 6 then brB p ((if (rdN l a).f0 = 5 then [45, 32] else [110, 111, 116, 32]) ++ textN k l (rdN l a).f2 true)
    else brB p (textN k l (rdN l a).f2 true ++ ([32] ++ (opB (rdN l a).f0 ++ ([32] ++ textN k l (rdN l a).f3 true))))
def Lies (l : List Nd) (o : Nat) (t : Tr) : Prop := ∃ pre post, l = pre ++ (t.flat o ++ post) ∧ pre.length = o
theorem lies_root (t : Tr) : Lies (t.flat 0) 0 t := ⟨[], [], by simp, rfl⟩
theorem rdN_app {l pre post : List Nd} {x : Nd} (h : l = pre ++ (x :: post)) (i : Int) (hi : i = (pre.length : Int)) : rdN l i = x := by
  subst h; subst hi; unfold rdN
  rw [Int.toNat_natCast, List.getD_eq_getElem?_getD, List.getElem?_append_right (Nat.le_refl _), Nat.sub_self]; rfl
theorem lies_len {l : List Nd} {o : Nat} {t : Tr} (h : Lies l o t) : o + t.size ≤ l.length := by
  obtain ⟨pre, post, rfl, h⟩ := h
  rw [List.length_append, List.length_append, t.zb7]; omega
theorem lies_leaf {l : List Nd} {o : Nat} {k n p : Int} (h : Lies l o (.leaf k n p)) : rdN l (o : Int) = ⟨k, n, 0, 0, p⟩ := by
  obtain ⟨pre, post, e, h⟩ := h
  exact rdN_app (post := post) (by simpa [Tr.flat] using e) _ (by omega)
theorem lies_un {l : List Nd} {o : Nat} {k p : Int} {a : Tr} (h : Lies l o (.un k p a)) : Lies l o a ∧ rdN l (((o + a.size : Nat)) : Int) = ⟨k, 0, ((o + a.size : Nat) : Int) - 1, 0, p⟩ := by
  obtain ⟨pre, post, e, h⟩ := h
  refine ⟨⟨pre, [⟨k, 0, ((o + a.size : Nat) : Int) - 1, 0, p⟩] ++ post, by rw [e]; simp only [Tr.flat, List.append_assoc], h⟩, rdN_app (pre := pre ++ a.flat o) (post := post) (by rw [e]; simp [Tr.flat]) _ (by rw [List.length_append, a.zb7]; omega)⟩
theorem lies_bin {l : List Nd} {o : Nat} {k p : Int} {a b : Tr} (h : Lies l o (.bin k p a b)) : Lies l o a ∧ Lies l (o + a.size) b ∧ rdN l (((o + a.size + b.size : Nat)) : Int) = ⟨k, 0, ((o + a.size : Nat) : Int) - 1, ((o + a.size + b.size : Nat) : Int) - 1, p⟩ := by
  obtain ⟨pre, post, e, h⟩ := h
  refine ⟨⟨pre, b.flat (o + a.size) ++ ([⟨k, 0, ((o + a.size : Nat) : Int) - 1, ((o + a.size + b.size : Nat) : Int) - 1, p⟩] ++ post), by rw [e]; simp only [Tr.flat, List.append_assoc], h⟩, ⟨pre ++ a.flat o, [⟨k, 0, ((o + a.size : Nat) : Int) - 1, ((o + a.size + b.size : Nat) : Int) - 1, p⟩] ++ post, by rw [e]; simp only [Tr.flat, List.append_assoc], by rw [List.length_append, a.zb7]; omega⟩,
    rdN_app (pre := pre ++ (a.flat o ++ b.flat (o + a.size))) (post := post) (by rw [e]; simp [Tr.flat]) _ (by rw [List.length_append, List.length_append, a.zb7, b.zb7]; omega)⟩
theorem textN_tree : ∀ (t : Tr), t.WF → ∀ (k : Nat) (l : List Nd) (o : Nat) (p : Bool), t.depth ≤ k → Lies l o t → textN k l (((o + t.size : Nat) : Int) - 1) p = tbytes t p
  | .leaf kd n ps, hw, k, l, o, p, hk, h => by
    obtain ⟨k, rfl⟩ : ∃ m, k = m + 1 := ⟨k - 1, by simp [Tr.depth] at hk; omega⟩
    obtain ⟨h1, h2, _⟩ := hw
    rw [show ((o + (Tr.leaf kd n ps).size : Nat) : Int) - 1 = (o : Int) by simp [Tr.size]]
    simp only [textN, lies_leaf h]
    simp only [tbytes]
    by_cases h3 : kd = 1
    · rw [if_pos h3, if_pos h3]
    · rw [if_neg h3, if_neg h3, if_pos h2]
  | .un kd ps a, hw, k, l, o, p, hk, h => by
    obtain ⟨k, rfl⟩ : ∃ m, k = m + 1 := ⟨k - 1, by simp [Tr.depth] at hk; omega⟩
    obtain ⟨h1, _, _, h4⟩ := hw
    obtain ⟨ha, hr⟩ := lies_un h
    rw [show ((o + (Tr.un kd ps a).size : Nat) : Int) - 1 = ((o + a.size : Nat) : Int) by simp only [Tr.size]; omega]
    simp only [textN, hr]
    simp only [tbytes]
    rw [if_neg (by omega), if_neg (by omega), if_pos (by omega), textN_tree a h4 k l o true (by simp [Tr.depth] at hk; omega) ha]
  | .bin kd ps a b, hw, k, l, o, p, hk, h => by
    obtain ⟨k, rfl⟩ : ∃ m, k = m + 1 := ⟨k - 1, by simp [Tr.depth] at hk; omega⟩
    obtain ⟨h1, _, _, _, h5, h6⟩ := hw
    obtain ⟨ha, hb, hr⟩ := lies_bin h
    simp only [Tr.depth] at hk
    rw [show ((o + (Tr.bin kd ps a b).size : Nat) : Int) - 1 = ((o + a.size + b.size : Nat) : Int) by simp only [Tr.size]; omega]
    simp only [textN, hr]
    simp only [tbytes]
    rw [if_neg (by omega), if_neg (by omega), if_neg (by omega), textN_tree a h5 k l o true (by omega) ha, textN_tree b h6 k l (o + a.size) true (by omega) hb]
theorem nDigits_le : ∀ (k u : Nat), 1 ≤ k → u < 10 ^ k → Lib.nDigits u ≤ k
  | 0, _, h, _ => by omega
  | k + 1, u, _, h => by
    by_cases h1 : u < 10
    · rw [Lib.nDigits_small h1]; omega
    · rw [Lib.nDigits_big h1]
      have hk : 1 ≤ k := by
        rcases Nat.eq_zero_or_pos k with h0 | h0
        · subst h0; simp at h; omega
        · exact h0
      have := nDigits_le k (u / 10) hk (by rw [Nat.pow_succ] at h; omega)
      omega
theorem itoa_len {n : Int} (h0 : 0 ≤ n) (h1 : n ≤ 9223372036854775807) : (Lib.itoa n).length ≤ 19 := by
  unfold Lib.itoa
  rw [if_neg (by omega), Lib.decDigits_length]
  exact nDigits_le 19 _ (by omega) (by omega)
theorem ite_len {c : Prop} [Decidable c] {a b : List UInt8} {n : Nat} (ha : a.length ≤ n) (hb : b.length ≤ n) : (if c then a else b).length ≤ n := by split <;> assumption
theorem opB_len (k : Int) : (opB k).length ≤ 3 := by
  unfold opB
  repeat (refine ite_len (by decide) ?_)
  decide
theorem fldB_len (k : Int) : (fldB k).length ≤ 1 := by
  unfold fldB
  repeat (refine ite_len (by decide) ?_)
  decide
theorem brB_len (p : Bool) (s : List UInt8) : (brB p s).length ≤ s.length + 2 := by
  unfold brB
  cases p <;> simp
theorem zdk : ∀ (t : Tr), t.WF → ∀ p, (tbytes t p).length ≤ 19 * t.size
  | .leaf kd n ps, hw, p => by
    obtain ⟨h1, h2, h3, h4, _⟩ := hw
    have h5 := itoa_len h3 h4
    have h6 := fldB_len kd
    simp only [tbytes, Tr.size]
    split <;> omega
  | .un kd ps a, hw, p => by
    have h1 := zdk a hw.2.2.2 true
    have h2 := brB_len p ((if kd = 5 then [45, 32] else [110, 111, 116, 32]) ++ tbytes a true)
    have h3 : (if kd = 5 then [45, 32] else [110, 111, 116, 32] : List UInt8).length ≤ 4 := by split <;> simp
    simp only [tbytes, Tr.size]
    rw [List.length_append] at h2
    omega
  | .bin kd ps a b, hw, p => by
    have h1 := zdk a hw.2.2.2.2.1 true
    have h2 := zdk b hw.2.2.2.2.2 true
    have h3 := opB_len kd
    have h4 := brB_len p (tbytes a true ++ ([32] ++ (opB kd ++ ([32] ++ tbytes b true))))
    simp only [tbytes, Tr.size]
    simp only [List.length_append, List.length_cons, List.length_nil] at h4
    omega
end Go.Proofs.YtgmmngipnjmkfaaGreatDoor.Pure
end
