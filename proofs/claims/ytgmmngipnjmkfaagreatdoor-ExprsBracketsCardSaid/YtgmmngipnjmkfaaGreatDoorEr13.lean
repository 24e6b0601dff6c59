/- Lemmas of the proof (cut to what it uses, by wip/trim.py). -/
import Derived.Test.YtgmmngipnjmkfaaGreatDoorEr3
import Derived.Test.YtgmmngipnjmkfaaGreatDoorEr4
import Derived.Test.YtgmmngipnjmkfaaGreatDoorEr5
import Derived.Test.YtgmmngipnjmkfaaGreatDoorEr6
import Derived.Test.YtgmmngipnjmkfaaGreatDoorEr8
import Derived.Test.YtgmmngipnjmkfaaGreatDoorEr12
section
namespace Go.Proofs.YtgmmngipnjmkfaaGreatDoor.Q
open Go.Proofs.YtgmmngipnjmkfaaGreatDoor.Hand
open Go.RowKit Go.Proofs.YtgmmngipnjmkfaaGreatDoorW.PrintWords Go.Proofs.YtgmmngipnjmkfaaGreatDoorW.PrintLast Go.Proofs.YtgmmngipnjmkfaaGreatDoorW.PrintMore
attribute [local go_sem] zcy zcz zdb zdc zcp zcq zc0 zc1
set_option linter.unusedVariables false
set_option linter.unusedSimpArgs false
mutual
def zay.l0 : Nat → List (S43) → List Int → List Int → Int → Option (List Int × List Int × Bool)
  | 0, _, _, _, _ => none
  | k + 1, x0, x5, x6, x7 => if x7 < (x0.length : Int) then (if 0 ≤ x7 then ((zbi.f ((za0 x0 x7).f0)).bind fun t364 => (if t364 > 0 then (if (wrap64 (x7 - 1)) < 0 then (some (([] : List Int), ([] : List Int), false)) else (if 0 ≤ (wrap64 (x7 - 1)) then (if (wrap64 (x7 - 1)) < (x5.length : Int) then (if (wrap64 (x7 - 1)) < (x6.length : Int) then (if t364 = 2 then (if (wrap64 ((wrap64 (x7 - 1)) - (rd x5 (wrap64 (x7 - 1))))) < 0 then (some (([] : List Int), ([] : List Int), false)) else (if 0 ≤ (wrap64 ((wrap64 (x7 - 1)) - (rd x5 (wrap64 (x7 - 1))))) then (if (wrap64 ((wrap64 (x7 - 1)) - (rd x5 (wrap64 (x7 - 1))))) < (x5.length : Int) then (if (wrap64 ((wrap64 (x7 - 1)) - (rd x5 (wrap64 (x7 - 1))))) < (x6.length : Int) then (zay.j1 k x0 x5 x6 x7 (wrap64 ((wrap64 (x7 - 1)) - (rd x5 (wrap64 (x7 - 1))))) (wrap64 (x7 - 1)) (wrap64 ((wrap64 (1 + (rd x5 (wrap64 (x7 - 1))))) + (rd x5 (wrap64 ((wrap64 (x7 - 1)) - (rd x5 (wrap64 (x7 - 1)))))))) (mx (wrap64 (1 + (rd x6 (wrap64 (x7 - 1))))) (wrap64 (1 + (rd x6 (wrap64 ((wrap64 (x7 - 1)) - (rd x5 (wrap64 (x7 - 1)))))))))) else (none)) else (none)) else (none))) else (zay.j1 k x0 x5 x6 x7 (wrap64 (x7 - 1)) 0 (wrap64 (1 + (rd x5 (wrap64 (x7 - 1))))) (wrap64 (1 + (rd x6 (wrap64 (x7 - 1))))))) else (none)) else (none)) else (none))) else (zay.j1 k x0 x5 x6 x7 0 0 1 1))) else (none)) else (if (x0.length : Int) > 0 then (if 0 ≤ (wrap64 ((x0.length : Int) - 1)) then (if (wrap64 ((x0.length : Int) - 1)) < (x5.length : Int) then (some (x5, x6, ((rd x5 (wrap64 ((x0.length : Int) - 1))) == (x0.length : Int)))) else (none)) else (none)) else (some (x5, x6, false)))
def zay.j1 : Nat → List (S43) → List Int → List Int → Int → Int → Int → Int → Int → Option (List Int × List Int × Bool)
  | 0, _, _, _, _, _, _, _, _ => none
  | k + 1, x0, x5, x6, x7, x8, x9, x10, x11 => if 0 ≤ x7 then (if x7 < (x0.length : Int) then ((zbt.f ((za0 x0 x7).f0) ((za0 x0 x7).f1) ((za0 x0 x7).f2) ((za0 x0 x7).f3) ((za0 x0 x7).f4) x8 x9).bind fun t371 => (if t371 = true then (if x5.length < 17592186044416 then (if x6.length < 17592186044416 then (zay.l0 k x0 (x5 ++ [x10]) (x6 ++ [x11]) (wrap64 (x7 + 1))) else (none)) else (none)) else (some (([] : List Int), ([] : List Int), false)))) else (none)) else (none)
end
def zay.f (k : Nat) (l0 : List (S43)) : Option (List Int × List Int × Bool) := zay.l0 k l0 ([] : List Int) ([] : List Int) 0
set_option maxHeartbeats 8000000 in
set_option maxRecDepth 100000 in
theorem zay.calls (k : Nat) (A0 : Option Addr) (c0 : Nat) (l0 : List (S43)) (r1 : List Int) (r2 : List Int) (r3 : Bool) (w : World) (hr0 : Kd.C k43 w A0 l0.length l0) (hc0 : l0.length ≤ c0) (h : zay.f k l0 = some (r1, r2, r3)) :
 Calls Tryz.prog 33 #[.slice A0 l0.length c0] w fun e w' => ∃ v0_ v1_ : Value, e = .returned (.tuple #[v0_, v1_, .bool r3]) ∧ Kd.R (Kd.int .i64) 3 w' w.heap.size (fun k_ => some k_ ≠ (v1_ : Value).ownBlock) v0_ r1 ∧ Kd.R (Kd.int .i64) 3 w' w.heap.size (fun k_ => some k_ ≠ (v0_ : Value).ownBlock) v1_ r2 ∧ Below w.heap.size w w' := by
 have hu43 := Tryz.underlying43
 have HR0 := zad.mk hr0
 have HC0 := zad.mk hc0
 clear hr0 hc0
 have HB := zad.mk (Below.refl w.heap.size w)
 have H : (zay.l0 k l0 ([] : List Int) ([] : List Int) 0) = some (r1, r2, r3) := h
 clear h
 have H' := zad.mk H
 clear H
 go_enter Tryz.func33, Tryz.ntmps33
 go_wp2
 repeat (go_quiet (fail); try go_wp2)
 go_loopg [5, 6, 7] k (fun kq v5 v6 v7 w' => ∃ (x5_1 : List Int) (x6_1 : List Int) (x7_1 : Int), v7 = .int .i64 x7_1 ∧ zad (zay.l0 kq l0 x5_1 x6_1 x7_1 = some (r1, r2, r3)) ∧ zad (kq ≤ k) ∧ zad (Kd.R (Kd.int .i64) 3 w' w.heap.size (fun k_ => some k_ ≠ (v6 : Value).ownBlock) v5 x5_1) ∧ zad (Kd.R (Kd.int .i64) 3 w' w.heap.size (fun k_ => some k_ ≠ (v5 : Value).ownBlock) v6 x6_1) ∧ zad (Below w.heap.size w w'))
 case atStart => exact ⟨(([] : List Int)), (([] : List Int)), (0), (by first | rfl | (simp; done) | (simp [*]; done)), H', ⟨Nat.le_refl _⟩, ⟨by first | exact Kd.R_nil _ _ _ _ _ | exact Kd.N_nil _ _ _ _ _ | exact Kd.V_nil _ _ _ _ _ | exact Kd.Q_nil _ _ _ _ _ | exact Kd.S_nil _ _ _ _ _⟩, ⟨by first | exact Kd.R_nil _ _ _ _ _ | exact Kd.N_nil _ _ _ _ _ | exact Kd.V_nil _ _ _ _ _ | exact Kd.Q_nil _ _ _ _ _ | exact Kd.S_nil _ _ _ _ _⟩, ⟨by repeat (first | (with_reducible first | exact HB.out | apply zab | apply zaa | apply zac) | exact HB.out)⟩⟩
 case round =>
  clear H'
  obtain ⟨x5_1, x6_1, x7_1, rfl, HA, HK1, HO_5, HO_6, HB⟩ := hrel
  cases gk with
  | zero => exact absurd HA.out (by simp [zay.l0])
  | succ k1 =>
   have H := HA.out
   clear HA
   simp only [zay.l0] at H
   by_cases c2 : x7_1 < (l0.length : Int)
   ·rw [if_pos c2] at H
    have c2b0 : decide (x7_1 < (l0.length : Int)) = true := decide_eq_true c2
    clear c2
    by_cases c3 : 0 ≤ x7_1
    ·rw [if_pos c3] at H
     have c3b0 : decide (0 ≤ x7_1) = true := decide_eq_true c3
     clear c3
     replace H := Option.bind_eq_some_iff.mp H
     obtain ⟨t364, A40, H⟩ := H
     replace H : (if t364 > 0 then (if (wrap64 (x7_1 - 1)) < 0 then (some (([] : List Int), ([] : List Int), false)) else (if 0 ≤ (wrap64 (x7_1 - 1)) then (if (wrap64 (x7_1 - 1)) < (x5_1.length : Int) then (if (wrap64 (x7_1 - 1)) < (x6_1.length : Int) then (if t364 = 2 then (if (wrap64 ((wrap64 (x7_1 - 1)) - (rd x5_1 (wrap64 (x7_1 - 1))))) < 0 then (some (([] : List Int), ([] : List Int), false)) else (if 0 ≤ (wrap64 ((wrap64 (x7_1 - 1)) - (rd x5_1 (wrap64 (x7_1 - 1))))) then (if (wrap64 ((wrap64 (x7_1 - 1)) - (rd x5_1 (wrap64 (x7_1 - 1))))) < (x5_1.length : Int) then (if (wrap64 ((wrap64 (x7_1 - 1)) - (rd x5_1 (wrap64 (x7_1 - 1))))) < (x6_1.length : Int) then (zay.j1 k1 l0 x5_1 x6_1 x7_1 (wrap64 ((wrap64 (x7_1 - 1)) - (rd x5_1 (wrap64 (x7_1 - 1))))) (wrap64 (x7_1 - 1)) (wrap64 ((wrap64 (1 + (rd x5_1 (wrap64 (x7_1 - 1))))) + (rd x5_1 (wrap64 ((wrap64 (x7_1 - 1)) - (rd x5_1 (wrap64 (x7_1 - 1)))))))) (mx (wrap64 (1 + (rd x6_1 (wrap64 (x7_1 - 1))))) (wrap64 (1 + (rd x6_1 (wrap64 ((wrap64 (x7_1 - 1)) - (rd x5_1 (wrap64 (x7_1 - 1)))))))))) else (none)) else (none)) else (none))) else (zay.j1 k1 l0 x5_1 x6_1 x7_1 (wrap64 (x7_1 - 1)) 0 (wrap64 (1 + (rd x5_1 (wrap64 (x7_1 - 1))))) (wrap64 (1 + (rd x6_1 (wrap64 (x7_1 - 1))))))) else (none)) else (none)) else (none))) else (zay.j1 k1 l0 x5_1 x6_1 x7_1 0 0 1 1)) = some (r1, r2, r3) := H
     have A4 := zad.mk A40
     clear A40
     have HC5 := zad.mk H
     clear H
     have p363 : 0 ≤ (x7_1 : Int) := of_decide_eq_true (by first | (with_reducible assumption) | assumption)
     have q363 : x7_1 < (l0.length : Int) := of_decide_eq_true (by first | (with_reducible assumption) | assumption)
     obtain ⟨ad363, e363, hx363_0, hx363_1, hx363_2, hx363_3, hx363_4⟩ := zds HR0.out x7_1 p363 q363
     cases e363
     replace hx363_0 := (HB.out.cell (World.block_lt_of_cell? w _ hx363_0)).trans hx363_0
     replace hx363_1 := (HB.out.cell (World.block_lt_of_cell? w _ hx363_1)).trans hx363_1
     replace hx363_2 := (HB.out.cell (World.block_lt_of_cell? w _ hx363_2)).trans hx363_2
     replace hx363_3 := (HB.out.cell (World.block_lt_of_cell? w _ hx363_3)).trans hx363_3
     replace hx363_4 := (HB.out.cell (World.block_lt_of_cell? w _ hx363_4)).trans hx363_4
     replace p363 := eq_true p363
     replace q363 := eq_true q363
     go_upto_if 28 with (first | (go_at_call 54; (with_reducible refine (zbi.calls ((za0 l0 x7_1).f0) t364 _ A4.out).mono ?_); rintro e w' ⟨rfl, ⟨nd, rfl⟩⟩; (try first | exact ⟨rfl, _, World.drewN_drewN _ _ _⟩ | exact ⟨rfl, _, Eq.trans (World.drewN_drewN _ _ _) (congrArg (World.drewN _) (Nat.add_assoc _ _ _))⟩)))
     repeat (go_quiet (first | (go_at_call 54; (with_reducible refine (zbi.calls ((za0 l0 x7_1).f0) t364 _ A4.out).mono ?_); rintro e w' ⟨rfl, ⟨nd, rfl⟩⟩; (try first | exact ⟨rfl, _, World.drewN_drewN _ _ _⟩ | exact ⟨rfl, _, Eq.trans (World.drewN_drewN _ _ _) (congrArg (World.drewN _) (Nat.add_assoc _ _ _))⟩))); go_upto_if 28 with (first | (go_at_call 54; (with_reducible refine (zbi.calls ((za0 l0 x7_1).f0) t364 _ A4.out).mono ?_); rintro e w' ⟨rfl, ⟨nd, rfl⟩⟩; (try first | exact ⟨rfl, _, World.drewN_drewN _ _ _⟩ | exact ⟨rfl, _, Eq.trans (World.drewN_drewN _ _ _) (congrArg (World.drewN _) (Nat.add_assoc _ _ _))⟩))))
     (try simp only [Act.put, List.setIfInBounds_toArray, List.set_cons_zero, List.set_cons_succ])
     go_cut [8, 9, 10, 11] (fun v8 v9 v10 v11 wc => ∃ (kq : Nat) (x8_4 : Int) (x9_4 : Int) (x10_4 : Int) (x11_4 : Int), v8 = .int .i64 x8_4 ∧ v9 = .int .i64 x9_4 ∧ v10 = .int .i64 x10_4 ∧ v11 = .int .i64 x11_4 ∧ zad (zay.j1 kq l0 x5_1 x6_1 x7_1 x8_4 x9_4 x10_4 x11_4 = some (r1, r2, r3)) ∧ zad (kq ≤ k1) ∧ zad (Kd.R (Kd.int .i64) 3 wc w.heap.size (fun k_ => some k_ ≠ (u6 : Value).ownBlock) u5 x5_1) ∧ zad (Kd.R (Kd.int .i64) 3 wc w.heap.size (fun k_ => some k_ ≠ (u5 : Value).ownBlock) u6 x6_1) ∧ zad (Below w.heap.size w wc))
     case first =>
      have H := HC5.out
      clear HC5
      by_cases c6 : t364 > 0
      ·rw [if_pos c6] at H
       have c6b0 : decide (0 < t364) = true := decide_eq_true c6
       clear c6
       (first | rw [c6b0] | (simp only [i64_w, i32_w]; rw [c6b0]) | skip)
       by_cases c7 : (wrap64 (x7_1 - 1)) < 0
       ·rw [if_pos c7] at H
        have c7b0 : decide ((wrap64 (x7_1 - 1)) < 0) = true := decide_eq_true c7
        clear c7
        simp only [Option.some.injEq, Prod.mk.injEq] at H
        obtain ⟨rfl, rfl, rfl⟩ := H
        go_wp2
        repeat (go_quiet (fail); try go_wp2)
        go_ret3
        exact ⟨_, _, by first | rfl | (simp [zak, zal] <;> rfl) | (simp [*, zak, zal] <;> rfl), by first | exact Kd.R_nil _ _ _ _ _ | exact Kd.N_nil _ _ _ _ _ | exact Kd.V_nil _ _ _ _ _ | exact Kd.Q_nil _ _ _ _ _ | exact Kd.S_nil _ _ _ _ _, by first | exact Kd.R_nil _ _ _ _ _ | exact Kd.N_nil _ _ _ _ _ | exact Kd.V_nil _ _ _ _ _ | exact Kd.Q_nil _ _ _ _ _ | exact Kd.S_nil _ _ _ _ _, by repeat (first | (with_reducible first | exact HB.out | apply zab | apply zaa | apply zac) | exact HB.out)⟩
       ·rw [if_neg c7] at H
        have c7b0 : decide ((wrap64 (x7_1 - 1)) < 0) = false := decide_eq_false c7
        clear c7
        obtain ⟨ji8, hji8⟩ : ∃ j_ : Int, (wrap64 (x7_1 - 1)) = j_ := ⟨_, rfl⟩
        replace H : (if 0 ≤ (ji8) then (if (ji8) < (x5_1.length : Int) then (if (ji8) < (x6_1.length : Int) then (if t364 = 2 then (if (wrap64 ((ji8) - (rd x5_1 (ji8)))) < 0 then (some (([] : List Int), ([] : List Int), false)) else (if 0 ≤ (wrap64 ((ji8) - (rd x5_1 (ji8)))) then (if (wrap64 ((ji8) - (rd x5_1 (ji8)))) < (x5_1.length : Int) then (if (wrap64 ((ji8) - (rd x5_1 (ji8)))) < (x6_1.length : Int) then (zay.j1 k1 l0 x5_1 x6_1 x7_1 (wrap64 ((ji8) - (rd x5_1 (ji8)))) ji8 (wrap64 ((wrap64 (1 + (rd x5_1 (ji8)))) + (rd x5_1 (wrap64 ((ji8) - (rd x5_1 (ji8))))))) (mx (wrap64 (1 + (rd x6_1 (ji8)))) (wrap64 (1 + (rd x6_1 (wrap64 ((ji8) - (rd x5_1 (ji8))))))))) else (none)) else (none)) else (none))) else (zay.j1 k1 l0 x5_1 x6_1 x7_1 ji8 0 (wrap64 (1 + (rd x5_1 (ji8)))) (wrap64 (1 + (rd x6_1 (ji8)))))) else (none)) else (none)) else (none)) = some (r1, r2, r3) := by first | (rw [hji8] at H; exact H) | (simp only [hji8] at H ⊢; exact H)
        (try rw [hji8] at c7b0)
        have hji8w : (IntKind.i64.wrap (x7_1 - 1)) = ji8 := (i64_w _).trans hji8
        by_cases c9 : 0 ≤ (ji8)
        ·rw [if_pos c9] at H
         have c9b0 : decide (0 ≤ (ji8)) = true := decide_eq_true c9
         clear c9
         by_cases c10 : (ji8) < (x5_1.length : Int)
         ·rw [if_pos c10] at H
          have c10b0 : decide ((ji8) < (x5_1.length : Int)) = true := decide_eq_true c10
          clear c10
          by_cases c11 : (ji8) < (x6_1.length : Int)
          ·rw [if_pos c11] at H
           have c11b0 : decide ((ji8) < (x6_1.length : Int)) = true := decide_eq_true c11
           clear c11
           by_cases c12 : t364 = 2
           ·rw [if_pos c12] at H
            have c12b0 : (t364 == 2) = true := beq_iff_eq.mpr c12
            have c12b1 : (t364 != 2) = false := bne_eq_false_iff_eq.mpr c12
            clear c12
            by_cases c13 : (wrap64 ((ji8) - (rd x5_1 (ji8)))) < 0
            ·rw [if_pos c13] at H
             have c13b0 : decide ((wrap64 ((ji8) - (rd x5_1 (ji8)))) < 0) = true := decide_eq_true c13
             clear c13
             simp only [Option.some.injEq, Prod.mk.injEq] at H
             obtain ⟨rfl, rfl, rfl⟩ := H
             obtain ⟨Ao14, co14, eo14⟩ := Kd.zbm HO_5.out
             subst eo14
             have p365 : 0 ≤ ((ji8) : Int) := of_decide_eq_true (by first | (with_reducible assumption) | assumption)
             have q365 : (ji8) < (x5_1.length : Int) := of_decide_eq_true (by first | (with_reducible assumption) | assumption)
             obtain ⟨ad365, e365, hx365_0⟩ := Kd.zd0 (Kd.za3 HO_5.out).2.2 (ji8) p365 q365
             cases e365
             replace p365 := eq_true p365
             replace q365 := eq_true q365
             have p366 : 0 ≤ ((ji8) : Int) := of_decide_eq_true (by first | (with_reducible assumption) | assumption)
             have q366 : (ji8) < (x5_1.length : Int) := of_decide_eq_true (by first | (with_reducible assumption) | assumption)
             obtain ⟨ad366, e366, hx366_0⟩ := Kd.zd0 (Kd.za3 HO_5.out).2.2 (ji8) p366 q366
             obtain rfl : ad365 = ad366 := (by injection e366)
             replace p366 := eq_true p366
             replace q366 := eq_true q366
             obtain ⟨Ao15, co15, eo15⟩ := Kd.zbm HO_6.out
             subst eo15
             have p367 : 0 ≤ ((ji8) : Int) := of_decide_eq_true (by first | (with_reducible assumption) | assumption)
             have q367 : (ji8) < (x6_1.length : Int) := of_decide_eq_true (by first | (with_reducible assumption) | assumption)
             obtain ⟨ad367, e367, hx367_0⟩ := Kd.zd0 (Kd.za3 HO_6.out).2.2 (ji8) p367 q367
             cases e367
             replace p367 := eq_true p367
             replace q367 := eq_true q367
             go_wp2
             repeat (go_quiet (fail); try go_wp2)
             go_ret3
             exact ⟨_, _, by first | rfl | (simp [zak, zal] <;> rfl) | (simp only [← hji8]; first | rfl | (simp [zak, zal] <;> rfl)) | (simp [*, zak, zal] <;> rfl), by first | exact Kd.R_nil _ _ _ _ _ | exact Kd.N_nil _ _ _ _ _ | exact Kd.V_nil _ _ _ _ _ | exact Kd.Q_nil _ _ _ _ _ | exact Kd.S_nil _ _ _ _ _, by first | exact Kd.R_nil _ _ _ _ _ | exact Kd.N_nil _ _ _ _ _ | exact Kd.V_nil _ _ _ _ _ | exact Kd.Q_nil _ _ _ _ _ | exact Kd.S_nil _ _ _ _ _, by repeat (first | (with_reducible first | exact HB.out | apply zab | apply zaa | apply zac) | exact HB.out)⟩
            ·rw [if_neg c13] at H
             have c13b0 : decide ((wrap64 ((ji8) - (rd x5_1 (ji8)))) < 0) = false := decide_eq_false c13
             clear c13
             obtain ⟨ji16, hji16⟩ : ∃ j_ : Int, (wrap64 ((ji8) - (rd x5_1 (ji8)))) = j_ := ⟨_, rfl⟩
             replace H : (if 0 ≤ (ji16) then (if (ji16) < (x5_1.length : Int) then (if (ji16) < (x6_1.length : Int) then (zay.j1 k1 l0 x5_1 x6_1 x7_1 ji16 ji8 (wrap64 ((wrap64 (1 + (rd x5_1 (ji8)))) + (rd x5_1 (ji16)))) (mx (wrap64 (1 + (rd x6_1 (ji8)))) (wrap64 (1 + (rd x6_1 (ji16)))))) else (none)) else (none)) else (none)) = some (r1, r2, r3) := by first | (rw [hji16] at H; exact H) | (simp only [hji16] at H ⊢; exact H)
             (try rw [hji16] at c13b0)
             have hji16w : (IntKind.i64.wrap ((ji8) - (rd x5_1 (ji8)))) = ji16 := (i64_w _).trans hji16
             by_cases c17 : 0 ≤ (ji16)
             ·rw [if_pos c17] at H
              have c17b0 : decide (0 ≤ (ji16)) = true := decide_eq_true c17
              clear c17
              by_cases c18 : (ji16) < (x5_1.length : Int)
              ·rw [if_pos c18] at H
               have c18b0 : decide ((ji16) < (x5_1.length : Int)) = true := decide_eq_true c18
               clear c18
               by_cases c19 : (ji16) < (x6_1.length : Int)
               ·rw [if_pos c19] at H
                have c19b0 : decide ((ji16) < (x6_1.length : Int)) = true := decide_eq_true c19
                clear c19
                obtain ⟨ji20, hji20⟩ : ∃ j_ : Int, (mx (wrap64 (1 + (rd x6_1 (ji8)))) (wrap64 (1 + (rd x6_1 (ji16))))) = j_ := ⟨_, rfl⟩
                replace H : (zay.j1 k1 l0 x5_1 x6_1 x7_1 ji16 ji8 (wrap64 ((wrap64 (1 + (rd x5_1 (ji8)))) + (rd x5_1 (ji16)))) ji20) = some (r1, r2, r3) := by first | (rw [hji20] at H; exact H) | (simp only [hji20] at H ⊢; exact H)
                have hji20_ : (if (wrap64 (1 + (rd x6_1 (ji8)))) < (wrap64 (1 + (rd x6_1 (ji16)))) then (wrap64 (1 + (rd x6_1 (ji16)))) else (wrap64 (1 + (rd x6_1 (ji8))))) = ji20 := hji20
                have H' := zad.mk H
                clear H
                obtain ⟨Ao21, co21, eo21⟩ := Kd.zbm HO_5.out
                subst eo21
                have p365 : 0 ≤ ((ji8) : Int) := of_decide_eq_true (by first | (with_reducible assumption) | assumption)
                have q365 : (ji8) < (x5_1.length : Int) := of_decide_eq_true (by first | (with_reducible assumption) | assumption)
                obtain ⟨ad365, e365, hx365_0⟩ := Kd.zd0 (Kd.za3 HO_5.out).2.2 (ji8) p365 q365
                cases e365
                replace p365 := eq_true p365
                replace q365 := eq_true q365
                have p366 : 0 ≤ ((ji8) : Int) := of_decide_eq_true (by first | (with_reducible assumption) | assumption)
                have q366 : (ji8) < (x5_1.length : Int) := of_decide_eq_true (by first | (with_reducible assumption) | assumption)
                obtain ⟨ad366, e366, hx366_0⟩ := Kd.zd0 (Kd.za3 HO_5.out).2.2 (ji8) p366 q366
                obtain rfl : ad365 = ad366 := (by injection e366)
                replace p366 := eq_true p366
                replace q366 := eq_true q366
                obtain ⟨Ao22, co22, eo22⟩ := Kd.zbm HO_6.out
                subst eo22
                have p367 : 0 ≤ ((ji8) : Int) := of_decide_eq_true (by first | (with_reducible assumption) | assumption)
                have q367 : (ji8) < (x6_1.length : Int) := of_decide_eq_true (by first | (with_reducible assumption) | assumption)
                obtain ⟨ad367, e367, hx367_0⟩ := Kd.zd0 (Kd.za3 HO_6.out).2.2 (ji8) p367 q367
                cases e367
                replace p367 := eq_true p367
                replace q367 := eq_true q367
                have p368 : 0 ≤ ((ji16) : Int) := of_decide_eq_true (by first | (with_reducible assumption) | assumption)
                have q368 : (ji16) < (x5_1.length : Int) := of_decide_eq_true (by first | (with_reducible assumption) | assumption)
                obtain ⟨ad368, e368, hx368_0⟩ := Kd.zd0 (Kd.za3 HO_5.out).2.2 (ji16) p368 q368
                obtain rfl : ad365 = ad368 := (by injection e368)
                replace p368 := eq_true p368
                replace q368 := eq_true q368
                have p369 : 0 ≤ ((ji16) : Int) := of_decide_eq_true (by first | (with_reducible assumption) | assumption)
                have q369 : (ji16) < (x6_1.length : Int) := of_decide_eq_true (by first | (with_reducible assumption) | assumption)
                obtain ⟨ad369, e369, hx369_0⟩ := Kd.zd0 (Kd.za3 HO_6.out).2.2 (ji16) p369 q369
                obtain rfl : ad367 = ad369 := (by injection e369)
                replace p369 := eq_true p369
                replace q369 := eq_true q369
                go_wp2
                repeat (go_quiet (fail); try go_wp2)
                go_meet
                case rel => exact ⟨_, (ji16), (ji8), (wrap64 ((wrap64 (1 + (rd x5_1 (ji8)))) + (rd x5_1 (ji16)))), (ji20), (by first | rfl | (simp; done) | (simp only [← hji16] <;> (first | rfl | simp)) | (simp [*]; done)), (by first | rfl | (simp; done) | (simp only [← hji8] <;> (first | rfl | simp)) | (simp [*]; done)), (by first | rfl | (simp; done) | (simp only [← hji8, ← hji16] <;> (first | rfl | simp)) | (simp [*]; done)), (by first | rfl | (simp; done) | (simp only [← hji20] <;> (first | rfl | simp)) | (simp [*]; done)), H', ⟨by have := HK1.out; first | omega | exact Nat.le_refl _⟩, ⟨by (with_reducible repeat (first | apply Kd.zan | apply Kd.zaq | apply Kd.zaw)); exact HO_5.out⟩, ⟨by (with_reducible repeat (first | apply Kd.zan | apply Kd.zaq | apply Kd.zaw)); exact HO_6.out⟩, ⟨by repeat (first | (with_reducible first | exact HB.out | apply zab | apply zaa | apply zac) | exact HB.out)⟩⟩
               ·rw [if_neg c19] at H
                exact absurd H (by simp)
              ·rw [if_neg c18] at H
               exact absurd H (by simp)
             ·rw [if_neg c17] at H
              exact absurd H (by simp)
           ·rw [if_neg c12] at H
            have c12b0 : (t364 == 2) = false := beq_eq_false_iff_ne.mpr c12
            have c12b1 : (t364 != 2) = true := bne_iff_ne.mpr c12
            have H' := zad.mk H
            clear H
            obtain ⟨Ao23, co23, eo23⟩ := Kd.zbm HO_5.out
            subst eo23
            have p365 : 0 ≤ ((ji8) : Int) := of_decide_eq_true (by first | (with_reducible assumption) | assumption)
            have q365 : (ji8) < (x5_1.length : Int) := of_decide_eq_true (by first | (with_reducible assumption) | assumption)
            obtain ⟨ad365, e365, hx365_0⟩ := Kd.zd0 (Kd.za3 HO_5.out).2.2 (ji8) p365 q365
            cases e365
            replace p365 := eq_true p365
            replace q365 := eq_true q365
            have p366 : 0 ≤ ((ji8) : Int) := of_decide_eq_true (by first | (with_reducible assumption) | assumption)
            have q366 : (ji8) < (x5_1.length : Int) := of_decide_eq_true (by first | (with_reducible assumption) | assumption)
            obtain ⟨ad366, e366, hx366_0⟩ := Kd.zd0 (Kd.za3 HO_5.out).2.2 (ji8) p366 q366
            obtain rfl : ad365 = ad366 := (by injection e366)
            replace p366 := eq_true p366
            replace q366 := eq_true q366
            obtain ⟨Ao24, co24, eo24⟩ := Kd.zbm HO_6.out
            subst eo24
            have p367 : 0 ≤ ((ji8) : Int) := of_decide_eq_true (by first | (with_reducible assumption) | assumption)
            have q367 : (ji8) < (x6_1.length : Int) := of_decide_eq_true (by first | (with_reducible assumption) | assumption)
            obtain ⟨ad367, e367, hx367_0⟩ := Kd.zd0 (Kd.za3 HO_6.out).2.2 (ji8) p367 q367
            cases e367
            replace p367 := eq_true p367
            replace q367 := eq_true q367
            go_wp2
            repeat (go_quiet (fail); try go_wp2)
            go_meet
            case rel => exact ⟨_, (ji8), (0), (wrap64 (1 + (rd x5_1 (ji8)))), (wrap64 (1 + (rd x6_1 (ji8)))), (by first | rfl | (simp; done) | (simp only [← hji8] <;> (first | rfl | simp)) | (simp [*]; done)), (by first | rfl | (simp; done) | (simp [*]; done)), (by first | rfl | (simp; done) | (simp only [← hji8] <;> (first | rfl | simp)) | (simp [*]; done)), (by first | rfl | (simp; done) | (simp only [← hji8] <;> (first | rfl | simp)) | (simp [*]; done)), H', ⟨by have := HK1.out; first | omega | exact Nat.le_refl _⟩, ⟨by (with_reducible repeat (first | apply Kd.zan | apply Kd.zaq | apply Kd.zaw)); exact HO_5.out⟩, ⟨by (with_reducible repeat (first | apply Kd.zan | apply Kd.zaq | apply Kd.zaw)); exact HO_6.out⟩, ⟨by repeat (first | (with_reducible first | exact HB.out | apply zab | apply zaa | apply zac) | exact HB.out)⟩⟩
          ·rw [if_neg c11] at H
           exact absurd H (by simp)
         ·rw [if_neg c10] at H
          exact absurd H (by simp)
        ·rw [if_neg c9] at H
         exact absurd H (by simp)
      ·rw [if_neg c6] at H
       have c6b0 : decide (0 < t364) = false := decide_eq_false c6
       clear c6
       (first | rw [c6b0] | (simp only [i64_w, i32_w]; rw [c6b0]) | skip)
       have H' := zad.mk H
       clear H
       go_wp2
       repeat (go_quiet (fail); try go_wp2)
       go_meet
       case rel => exact ⟨_, (0), (0), (1), (1), (by first | rfl | (simp; done) | (simp [*]; done)), (by first | rfl | (simp; done) | (simp [*]; done)), (by first | rfl | (simp; done) | (simp [*]; done)), (by first | rfl | (simp; done) | (simp [*]; done)), H', ⟨by have := HK1.out; first | omega | exact Nat.le_refl _⟩, ⟨by (with_reducible repeat (first | apply Kd.zan | apply Kd.zaq | apply Kd.zaw)); exact HO_5.out⟩, ⟨by (with_reducible repeat (first | apply Kd.zan | apply Kd.zaq | apply Kd.zaw)); exact HO_6.out⟩, ⟨by repeat (first | (with_reducible first | exact HB.out | apply zab | apply zaa | apply zac) | exact HB.out)⟩⟩
     case rest =>
      clear HC5
      try clear c1
      try clear c2
      try clear c2b0
      try clear p2
      try clear c3
      try clear c3b0
      try clear p3
      try clear q3
      try clear hx3
      try clear c6
      try clear c6b0
      try clear p6
      try clear c7
      try clear c7b0
      try clear c9
      try clear c9b0
      try clear c10
      try clear c10b0
      try clear c11
      try clear c11b0
      try clear c12
      try clear c12b0
      try clear c12b1
      try clear c13
      try clear c13b0
      try clear c17
      try clear c17b0
      try clear c18
      try clear c18b0
      try clear c19
      try clear c19b0
      try clear hx363_0
      try clear hx363_1
      try clear hx363_2
      try clear hx363_3
      try clear hx363_4
      try clear hx365_0
      try clear hx366_0
      try clear hx367_0
      try clear hx368_0
      try clear hx369_0
      try clear p363
      try clear p365
      try clear p366
      try clear p367
      try clear p368
      try clear p369
      try clear q363
      try clear q365
      try clear q366
      try clear q367
      try clear q368
      try clear q369
      obtain ⟨kq, x8_4, x9_4, x10_4, x11_4, rfl, rfl, rfl, rfl, HA, HJ4, HO_5, HO_6, HB⟩ := hcut
      cases kq with
      | zero => exact absurd HA.out (by simp [zay.j1])
      | succ kj4 =>
       have H := HA.out
       clear HA
       simp only [zay.j1] at H
       by_cases c25 : 0 ≤ x7_1
       ·rw [if_pos c25] at H
        have c25b0 : decide (0 ≤ x7_1) = true := decide_eq_true c25
        clear c25
        by_cases c26 : x7_1 < (l0.length : Int)
        ·rw [if_pos c26] at H
         have c26b0 : decide (x7_1 < (l0.length : Int)) = true := decide_eq_true c26
         clear c26
         replace H := Option.bind_eq_some_iff.mp H
         obtain ⟨t371, A270, H⟩ := H
         replace H : (if t371 = true then (if x5_1.length < 17592186044416 then (if x6_1.length < 17592186044416 then (zay.l0 kj4 l0 (x5_1 ++ [x10_4]) (x6_1 ++ [x11_4]) (wrap64 (x7_1 + 1))) else (none)) else (none)) else (some (([] : List Int), ([] : List Int), false))) = some (r1, r2, r3) := H
         have A27 := zad.mk A270
         clear A270
         by_cases c28 : t371 = true
         ·subst c28
          have H1 : (if x5_1.length < 17592186044416 then (if x6_1.length < 17592186044416 then (zay.l0 kj4 l0 (x5_1 ++ [x10_4]) (x6_1 ++ [x11_4]) (wrap64 (x7_1 + 1))) else (none)) else (none)) = some (r1, r2, r3) := by rw [if_pos rfl] at H; exact H
          clear H
          have H := H1
          clear H1
          by_cases c29 : x5_1.length < 17592186044416
          ·rw [if_pos c29] at H
           have LMc29 := zad.mk c29
           clear c29
           obtain ⟨y372, hy372⟩ : ∃ y_ : List Int, y_ = (x5_1 ++ [x10_4]) := ⟨_, rfl⟩
           replace H : (if x6_1.length < 17592186044416 then (zay.l0 kj4 l0 y372 (x6_1 ++ [x11_4]) (wrap64 (x7_1 + 1))) else (none)) = some (r1, r2, r3) := by first | (rw [hy372]; with_reducible exact H) | (have H2_ := (Option.bind_some _ _).symm.trans H; rw [hy372]; with_reducible exact H2_) | (have H2_ := (Option.bind_some _ _).symm.trans H; with_reducible exact H2_) | with_reducible exact H | (rw [hy372]; exact H) | exact H
           have Ny372 := zad.mk hy372
           clear hy372
           by_cases c30 : x6_1.length < 17592186044416
           ·rw [if_pos c30] at H
            have LMc30 := zad.mk c30
            clear c30
            obtain ⟨y375, hy375⟩ : ∃ y_ : List Int, y_ = (x6_1 ++ [x11_4]) := ⟨_, rfl⟩
            replace H : (zay.l0 kj4 l0 y372 y375 (wrap64 (x7_1 + 1))) = some (r1, r2, r3) := by first | (rw [hy375]; with_reducible exact H) | (have H2_ := (Option.bind_some _ _).symm.trans H; rw [hy375]; with_reducible exact H2_) | (have H2_ := (Option.bind_some _ _).symm.trans H; with_reducible exact H2_) | with_reducible exact H | (rw [hy375]; exact H) | exact H
            have Ny375 := zad.mk hy375
            clear hy375
            have H' := zad.mk H
            clear H
            have p370 : 0 ≤ (x7_1 : Int) := of_decide_eq_true (by first | (with_reducible assumption) | assumption)
            have q370 : x7_1 < (l0.length : Int) := of_decide_eq_true (by first | (with_reducible assumption) | assumption)
            obtain ⟨ad370, e370, hx370_0, hx370_1, hx370_2, hx370_3, hx370_4⟩ := zds HR0.out x7_1 p370 q370
            obtain rfl : ad363 = ad370 := (by injection e370)
            replace hx370_0 := (HB.out.cell (World.block_lt_of_cell? w _ hx370_0)).trans hx370_0
            replace hx370_1 := (HB.out.cell (World.block_lt_of_cell? w _ hx370_1)).trans hx370_1
            replace hx370_2 := (HB.out.cell (World.block_lt_of_cell? w _ hx370_2)).trans hx370_2
            replace hx370_3 := (HB.out.cell (World.block_lt_of_cell? w _ hx370_3)).trans hx370_3
            replace hx370_4 := (HB.out.cell (World.block_lt_of_cell? w _ hx370_4)).trans hx370_4
            replace p370 := eq_true p370
            replace q370 := eq_true q370
            go_wp2_with (first | (go_at_call 55; (with_reducible refine (zbt.calls ((za0 l0 x7_1).f0) ((za0 l0 x7_1).f1) ((za0 l0 x7_1).f2) ((za0 l0 x7_1).f3) ((za0 l0 x7_1).f4) x8_4 x9_4 true _ A27.out).mono ?_); rintro e w31 ⟨rfl, hb⟩; have n0_ := zad.mk (Kd.zbk (by (with_reducible repeat (first | apply Kd.zan | apply Kd.zaq | apply Kd.zaw)); exact HO_5.out) hb); have n1_ := zad.mk (Kd.zbk (by (with_reducible repeat (first | apply Kd.zan | apply Kd.zaq | apply Kd.zaw)); exact HO_6.out) hb); have n2_ := zad.mk (zah (by repeat (first | (with_reducible first | exact HB.out | apply zab | apply zaa | apply zac) | exact HB.out)) hb); clear HO_5; clear HO_6; clear HB; have HO_5 := n0_; have HO_6 := n1_; have HB := n2_; clear n0_ n1_ n2_; (try clear hb); (try clear hb2); (try clear hk); (try clear hi)) | ((with_reducible refine zbb (b := .append) (xs := #[.tmp 78, .tmp 80]) rfl ?_); (try (refine zbo (by rfl) ?_; dsimp only)); at_builtin; refine Kd.zb6 (Kd.int .i64) (w0 := w) w.heap.size rfl (.tmp 78) (.tmp 80) 24 3 (.int .i64 0) 8 rfl Tryz.underlying24 info3 rfl (by decide) (by omega) u5 x5_1 x10_4 [.int .i64 x10_4] (fun k_ => some k_ ≠ (u6 : Value).ownBlock) (fun _ => False) rfl rfl ?aP (fun _ hk => hk.elim) ?aF ?aO ?aB ?aS ?aL ?_; (case aP => exact rfl); (case aB => exact (by repeat (first | (with_reducible first | exact HB.out | apply zab | apply zaa | apply zac) | exact HB.out))); (case aF => exact (fun k_ hk => Kd.fresh' (Kd.R_lt (by (with_reducible repeat (first | apply Kd.zan | apply Kd.zaq | apply Kd.zaw)); exact HO_6.out)) k_ hk)); (case aO => exact (by (with_reducible repeat (first | apply Kd.zan | apply Kd.zaq | apply Kd.zaw)); exact HO_5.out)); (case aS => exact (zao (by repeat (first | (with_reducible first | exact HB.out | apply zab | apply zaa | apply zac) | exact HB.out)))); (case aL => have := LMc29.out; omega); intro v373 w32 ho hb hg hat; rw [← Ny372.out] at ho; have n0_ := zad.mk (Kd.zb8 (ok := (fun _ => True)) (by (with_reducible repeat (first | apply Kd.zan | apply Kd.zaq | apply Kd.zaw)); exact Kd.zbr HO_6.out (fun _ hk => ⟨trivial, hk⟩)) hg hat); have n1_ := zad.mk (hb); have n2_ := zad.mk (ho); clear HO_6; clear HB; clear HO_5; have HO_6 := n0_; have HB := n1_; have HO374 := n2_; clear n0_ n1_ n2_; clear ho hb hg hat) | ((with_reducible refine zbb (b := .append) (xs := #[.tmp 82, .tmp 84]) rfl ?_); (try (refine zbo (by rfl) ?_; dsimp only)); at_builtin; refine Kd.zb6 (Kd.int .i64) (w0 := w) w.heap.size rfl (.tmp 82) (.tmp 84) 24 3 (.int .i64 0) 8 rfl Tryz.underlying24 info3 rfl (by decide) (by omega) u6 x6_1 x11_4 [.int .i64 x11_4] (fun k_ => some k_ ≠ (v373 : Value).ownBlock) (fun _ => False) rfl rfl ?aP (fun _ hk => hk.elim) ?aF ?aO ?aB ?aS ?aL ?_; (case aP => exact rfl); (case aB => exact (by repeat (first | (with_reducible first | exact HB.out | apply zab | apply zaa | apply zac) | exact HB.out))); (case aF => exact (fun k_ hk => Kd.fresh' (Kd.R_lt (by (with_reducible repeat (first | apply Kd.zan | apply Kd.zaq | apply Kd.zaw)); exact HO374.out)) k_ hk)); (case aO => exact (by (with_reducible repeat (first | apply Kd.zan | apply Kd.zaq | apply Kd.zaw)); exact Kd.zbr HO_6.out (fun _ hk => hk.2))); (case aS => exact (zao (by repeat (first | (with_reducible first | exact HB.out | apply zab | apply zaa | apply zac) | exact HB.out)))); (case aL => have := LMc30.out; omega); intro v376 w33 ho hb hg hat; rw [← Ny375.out] at ho; have n0_ := zad.mk (Kd.zb8 (ok := (fun _ => True)) (by (with_reducible repeat (first | apply Kd.zan | apply Kd.zaq | apply Kd.zaw)); exact Kd.zbr HO374.out (fun _ hk => ⟨trivial, hk⟩)) hg hat); have n1_ := zad.mk (hb); have n2_ := zad.mk (ho); clear HO374; clear HB; clear HO_6; have HO374 := n0_; have HB := n1_; have HO377 := n2_; clear n0_ n1_ n2_; clear ho hb hg hat))
            repeat (go_quiet (first | (go_at_call 55; (with_reducible refine (zbt.calls ((za0 l0 x7_1).f0) ((za0 l0 x7_1).f1) ((za0 l0 x7_1).f2) ((za0 l0 x7_1).f3) ((za0 l0 x7_1).f4) x8_4 x9_4 true _ A27.out).mono ?_); rintro e w31 ⟨rfl, hb⟩; have n0_ := zad.mk (Kd.zbk (by (with_reducible repeat (first | apply Kd.zan | apply Kd.zaq | apply Kd.zaw)); exact HO_5.out) hb); have n1_ := zad.mk (Kd.zbk (by (with_reducible repeat (first | apply Kd.zan | apply Kd.zaq | apply Kd.zaw)); exact HO_6.out) hb); have n2_ := zad.mk (zah (by repeat (first | (with_reducible first | exact HB.out | apply zab | apply zaa | apply zac) | exact HB.out)) hb); clear HO_5; clear HO_6; clear HB; have HO_5 := n0_; have HO_6 := n1_; have HB := n2_; clear n0_ n1_ n2_; (try clear hb); (try clear hb2); (try clear hk); (try clear hi)) | ((with_reducible refine zbb (b := .append) (xs := #[.tmp 78, .tmp 80]) rfl ?_); (try (refine zbo (by rfl) ?_; dsimp only)); at_builtin; refine Kd.zb6 (Kd.int .i64) (w0 := w) w.heap.size rfl (.tmp 78) (.tmp 80) 24 3 (.int .i64 0) 8 rfl Tryz.underlying24 info3 rfl (by decide) (by omega) u5 x5_1 x10_4 [.int .i64 x10_4] (fun k_ => some k_ ≠ (u6 : Value).ownBlock) (fun _ => False) rfl rfl ?aP (fun _ hk => hk.elim) ?aF ?aO ?aB ?aS ?aL ?_; (case aP => exact rfl); (case aB => exact (by repeat (first | (with_reducible first | exact HB.out | apply zab | apply zaa | apply zac) | exact HB.out))); (case aF => exact (fun k_ hk => Kd.fresh' (Kd.R_lt (by (with_reducible repeat (first | apply Kd.zan | apply Kd.zaq | apply Kd.zaw)); exact HO_6.out)) k_ hk)); (case aO => exact (by (with_reducible repeat (first | apply Kd.zan | apply Kd.zaq | apply Kd.zaw)); exact HO_5.out)); (case aS => exact (zao (by repeat (first | (with_reducible first | exact HB.out | apply zab | apply zaa | apply zac) | exact HB.out)))); (case aL => have := LMc29.out; omega); intro v373 w32 ho hb hg hat; rw [← Ny372.out] at ho; have n0_ := zad.mk (Kd.zb8 (ok := (fun _ => True)) (by (with_reducible repeat (first | apply Kd.zan | apply Kd.zaq | apply Kd.zaw)); exact Kd.zbr HO_6.out (fun _ hk => ⟨trivial, hk⟩)) hg hat); have n1_ := zad.mk (hb); have n2_ := zad.mk (ho); clear HO_6; clear HB; clear HO_5; have HO_6 := n0_; have HB := n1_; have HO374 := n2_; clear n0_ n1_ n2_; clear ho hb hg hat) | ((with_reducible refine zbb (b := .append) (xs := #[.tmp 82, .tmp 84]) rfl ?_); (try (refine zbo (by rfl) ?_; dsimp only)); at_builtin; refine Kd.zb6 (Kd.int .i64) (w0 := w) w.heap.size rfl (.tmp 82) (.tmp 84) 24 3 (.int .i64 0) 8 rfl Tryz.underlying24 info3 rfl (by decide) (by omega) u6 x6_1 x11_4 [.int .i64 x11_4] (fun k_ => some k_ ≠ (v373 : Value).ownBlock) (fun _ => False) rfl rfl ?aP (fun _ hk => hk.elim) ?aF ?aO ?aB ?aS ?aL ?_; (case aP => exact rfl); (case aB => exact (by repeat (first | (with_reducible first | exact HB.out | apply zab | apply zaa | apply zac) | exact HB.out))); (case aF => exact (fun k_ hk => Kd.fresh' (Kd.R_lt (by (with_reducible repeat (first | apply Kd.zan | apply Kd.zaq | apply Kd.zaw)); exact HO374.out)) k_ hk)); (case aO => exact (by (with_reducible repeat (first | apply Kd.zan | apply Kd.zaq | apply Kd.zaw)); exact Kd.zbr HO_6.out (fun _ hk => hk.2))); (case aS => exact (zao (by repeat (first | (with_reducible first | exact HB.out | apply zab | apply zaa | apply zac) | exact HB.out)))); (case aL => have := LMc30.out; omega); intro v376 w33 ho hb hg hat; rw [← Ny375.out] at ho; have n0_ := zad.mk (Kd.zb8 (ok := (fun _ => True)) (by (with_reducible repeat (first | apply Kd.zan | apply Kd.zaq | apply Kd.zaw)); exact Kd.zbr HO374.out (fun _ hk => ⟨trivial, hk⟩)) hg hat); have n1_ := zad.mk (hb); have n2_ := zad.mk (ho); clear HO374; clear HB; clear HO_6; have HO374 := n0_; have HB := n1_; have HO377 := n2_; clear n0_ n1_ n2_; clear ho hb hg hat)); try go_wp2_with (first | (go_at_call 55; (with_reducible refine (zbt.calls ((za0 l0 x7_1).f0) ((za0 l0 x7_1).f1) ((za0 l0 x7_1).f2) ((za0 l0 x7_1).f3) ((za0 l0 x7_1).f4) x8_4 x9_4 true _ A27.out).mono ?_); rintro e w31 ⟨rfl, hb⟩; have n0_ := zad.mk (Kd.zbk (by (with_reducible repeat (first | apply Kd.zan | apply Kd.zaq | apply Kd.zaw)); exact HO_5.out) hb); have n1_ := zad.mk (Kd.zbk (by (with_reducible repeat (first | apply Kd.zan | apply Kd.zaq | apply Kd.zaw)); exact HO_6.out) hb); have n2_ := zad.mk (zah (by repeat (first | (with_reducible first | exact HB.out | apply zab | apply zaa | apply zac) | exact HB.out)) hb); clear HO_5; clear HO_6; clear HB; have HO_5 := n0_; have HO_6 := n1_; have HB := n2_; clear n0_ n1_ n2_; (try clear hb); (try clear hb2); (try clear hk); (try clear hi)) | ((with_reducible refine zbb (b := .append) (xs := #[.tmp 78, .tmp 80]) rfl ?_); (try (refine zbo (by rfl) ?_; dsimp only)); at_builtin; refine Kd.zb6 (Kd.int .i64) (w0 := w) w.heap.size rfl (.tmp 78) (.tmp 80) 24 3 (.int .i64 0) 8 rfl Tryz.underlying24 info3 rfl (by decide) (by omega) u5 x5_1 x10_4 [.int .i64 x10_4] (fun k_ => some k_ ≠ (u6 : Value).ownBlock) (fun _ => False) rfl rfl ?aP (fun _ hk => hk.elim) ?aF ?aO ?aB ?aS ?aL ?_; (case aP => exact rfl); (case aB => exact (by repeat (first | (with_reducible first | exact HB.out | apply zab | apply zaa | apply zac) | exact HB.out))); (case aF => exact (fun k_ hk => Kd.fresh' (Kd.R_lt (by (with_reducible repeat (first | apply Kd.zan | apply Kd.zaq | apply Kd.zaw)); exact HO_6.out)) k_ hk)); (case aO => exact (by (with_reducible repeat (first | apply Kd.zan | apply Kd.zaq | apply Kd.zaw)); exact HO_5.out)); (case aS => exact (zao (by repeat (first | (with_reducible first | exact HB.out | apply zab | apply zaa | apply zac) | exact HB.out)))); (case aL => have := LMc29.out; omega); intro v373 w32 ho hb hg hat; rw [← Ny372.out] at ho; have n0_ := zad.mk (Kd.zb8 (ok := (fun _ => True)) (by (with_reducible repeat (first | apply Kd.zan | apply Kd.zaq | apply Kd.zaw)); exact Kd.zbr HO_6.out (fun _ hk => ⟨trivial, hk⟩)) hg hat); have n1_ := zad.mk (hb); have n2_ := zad.mk (ho); clear HO_6; clear HB; clear HO_5; have HO_6 := n0_; have HB := n1_; have HO374 := n2_; clear n0_ n1_ n2_; clear ho hb hg hat) | ((with_reducible refine zbb (b := .append) (xs := #[.tmp 82, .tmp 84]) rfl ?_); (try (refine zbo (by rfl) ?_; dsimp only)); at_builtin; refine Kd.zb6 (Kd.int .i64) (w0 := w) w.heap.size rfl (.tmp 82) (.tmp 84) 24 3 (.int .i64 0) 8 rfl Tryz.underlying24 info3 rfl (by decide) (by omega) u6 x6_1 x11_4 [.int .i64 x11_4] (fun k_ => some k_ ≠ (v373 : Value).ownBlock) (fun _ => False) rfl rfl ?aP (fun _ hk => hk.elim) ?aF ?aO ?aB ?aS ?aL ?_; (case aP => exact rfl); (case aB => exact (by repeat (first | (with_reducible first | exact HB.out | apply zab | apply zaa | apply zac) | exact HB.out))); (case aF => exact (fun k_ hk => Kd.fresh' (Kd.R_lt (by (with_reducible repeat (first | apply Kd.zan | apply Kd.zaq | apply Kd.zaw)); exact HO374.out)) k_ hk)); (case aO => exact (by (with_reducible repeat (first | apply Kd.zan | apply Kd.zaq | apply Kd.zaw)); exact Kd.zbr HO_6.out (fun _ hk => hk.2))); (case aS => exact (zao (by repeat (first | (with_reducible first | exact HB.out | apply zab | apply zaa | apply zac) | exact HB.out)))); (case aL => have := LMc30.out; omega); intro v376 w33 ho hb hg hat; rw [← Ny375.out] at ho; have n0_ := zad.mk (Kd.zb8 (ok := (fun _ => True)) (by (with_reducible repeat (first | apply Kd.zan | apply Kd.zaq | apply Kd.zaw)); exact Kd.zbr HO374.out (fun _ hk => ⟨trivial, hk⟩)) hg hat); have n1_ := zad.mk (hb); have n2_ := zad.mk (ho); clear HO374; clear HB; clear HO_6; have HO374 := n0_; have HB := n1_; have HO377 := n2_; clear n0_ n1_ n2_; clear ho hb hg hat)))
            go_roundg kj4
            case measure => have := HK1.out; have := HJ4.out; omega
            case rel => exact ⟨(y372), (y375), (wrap64 (x7_1 + 1)), (by first | rfl | (simp; done) | (simp [*]; done)), H', ⟨by have := HK1.out; have := HJ4.out; omega⟩, ⟨by (with_reducible repeat (first | apply Kd.zan | apply Kd.zaq | apply Kd.zaw)); exact Kd.zbr HO374.out (fun _ hk => hk.2)⟩, ⟨by (with_reducible repeat (first | apply Kd.zan | apply Kd.zaq | apply Kd.zaw)); exact HO377.out⟩, ⟨by repeat (first | (with_reducible first | exact HB.out | apply zab | apply zaa | apply zac) | exact HB.out)⟩⟩
           ·rw [if_neg c30] at H
            exact absurd H (by simp)
          ·rw [if_neg c29] at H
           exact absurd H (by simp)
         ·replace c28 := Bool.eq_false_iff.mpr c28
          subst c28
          have H1 : (some (([] : List Int), ([] : List Int), false)) = some (r1, r2, r3) := by rw [if_neg (show ¬ (false = true) by decide)] at H; exact H
          clear H
          have H := H1
          clear H1
          simp only [Option.some.injEq, Prod.mk.injEq] at H
          obtain ⟨rfl, rfl, rfl⟩ := H
          have p370 : 0 ≤ (x7_1 : Int) := of_decide_eq_true (by first | (with_reducible assumption) | assumption)
          have q370 : x7_1 < (l0.length : Int) := of_decide_eq_true (by first | (with_reducible assumption) | assumption)
          obtain ⟨ad370, e370, hx370_0, hx370_1, hx370_2, hx370_3, hx370_4⟩ := zds HR0.out x7_1 p370 q370
          obtain rfl : ad363 = ad370 := (by injection e370)
          replace hx370_0 := (HB.out.cell (World.block_lt_of_cell? w _ hx370_0)).trans hx370_0
          replace hx370_1 := (HB.out.cell (World.block_lt_of_cell? w _ hx370_1)).trans hx370_1
          replace hx370_2 := (HB.out.cell (World.block_lt_of_cell? w _ hx370_2)).trans hx370_2
          replace hx370_3 := (HB.out.cell (World.block_lt_of_cell? w _ hx370_3)).trans hx370_3
          replace hx370_4 := (HB.out.cell (World.block_lt_of_cell? w _ hx370_4)).trans hx370_4
          replace p370 := eq_true p370
          replace q370 := eq_true q370
          go_wp2_with (first | (go_at_call 55; (with_reducible refine (zbt.calls ((za0 l0 x7_1).f0) ((za0 l0 x7_1).f1) ((za0 l0 x7_1).f2) ((za0 l0 x7_1).f3) ((za0 l0 x7_1).f4) x8_4 x9_4 false _ A27.out).mono ?_); rintro e w34 ⟨rfl, hb⟩; have n0_ := zad.mk (Kd.zbk (by (with_reducible repeat (first | apply Kd.zan | apply Kd.zaq | apply Kd.zaw)); exact HO_5.out) hb); have n1_ := zad.mk (Kd.zbk (by (with_reducible repeat (first | apply Kd.zan | apply Kd.zaq | apply Kd.zaw)); exact HO_6.out) hb); have n2_ := zad.mk (zah (by repeat (first | (with_reducible first | exact HB.out | apply zab | apply zaa | apply zac) | exact HB.out)) hb); clear HO_5; clear HO_6; clear HB; have HO_5 := n0_; have HO_6 := n1_; have HB := n2_; clear n0_ n1_ n2_; (try clear hb); (try clear hb2); (try clear hk); (try clear hi)))
          repeat (go_quiet (first | (go_at_call 55; (with_reducible refine (zbt.calls ((za0 l0 x7_1).f0) ((za0 l0 x7_1).f1) ((za0 l0 x7_1).f2) ((za0 l0 x7_1).f3) ((za0 l0 x7_1).f4) x8_4 x9_4 false _ A27.out).mono ?_); rintro e w34 ⟨rfl, hb⟩; have n0_ := zad.mk (Kd.zbk (by (with_reducible repeat (first | apply Kd.zan | apply Kd.zaq | apply Kd.zaw)); exact HO_5.out) hb); have n1_ := zad.mk (Kd.zbk (by (with_reducible repeat (first | apply Kd.zan | apply Kd.zaq | apply Kd.zaw)); exact HO_6.out) hb); have n2_ := zad.mk (zah (by repeat (first | (with_reducible first | exact HB.out | apply zab | apply zaa | apply zac) | exact HB.out)) hb); clear HO_5; clear HO_6; clear HB; have HO_5 := n0_; have HO_6 := n1_; have HB := n2_; clear n0_ n1_ n2_; (try clear hb); (try clear hb2); (try clear hk); (try clear hi))); try go_wp2_with (first | (go_at_call 55; (with_reducible refine (zbt.calls ((za0 l0 x7_1).f0) ((za0 l0 x7_1).f1) ((za0 l0 x7_1).f2) ((za0 l0 x7_1).f3) ((za0 l0 x7_1).f4) x8_4 x9_4 false _ A27.out).mono ?_); rintro e w34 ⟨rfl, hb⟩; have n0_ := zad.mk (Kd.zbk (by (with_reducible repeat (first | apply Kd.zan | apply Kd.zaq | apply Kd.zaw)); exact HO_5.out) hb); have n1_ := zad.mk (Kd.zbk (by (with_reducible repeat (first | apply Kd.zan | apply Kd.zaq | apply Kd.zaw)); exact HO_6.out) hb); have n2_ := zad.mk (zah (by repeat (first | (with_reducible first | exact HB.out | apply zab | apply zaa | apply zac) | exact HB.out)) hb); clear HO_5; clear HO_6; clear HB; have HO_5 := n0_; have HO_6 := n1_; have HB := n2_; clear n0_ n1_ n2_; (try clear hb); (try clear hb2); (try clear hk); (try clear hi))))
          go_ret3
          exact ⟨_, _, by first | rfl | (simp [zak, zal] <;> rfl) | (simp [*, zak, zal] <;> rfl), by first | exact Kd.R_nil _ _ _ _ _ | exact Kd.N_nil _ _ _ _ _ | exact Kd.V_nil _ _ _ _ _ | exact Kd.Q_nil _ _ _ _ _ | exact Kd.S_nil _ _ _ _ _, by first | exact Kd.R_nil _ _ _ _ _ | exact Kd.N_nil _ _ _ _ _ | exact Kd.V_nil _ _ _ _ _ | exact Kd.Q_nil _ _ _ _ _ | exact Kd.S_nil _ _ _ _ _, by repeat (first | (with_reducible first | exact HB.out | apply zab | apply zaa | apply zac) | exact HB.out)⟩
        ·rw [if_neg c26] at H
         exact absurd H (by simp)
       ·rw [if_neg c25] at H
        exact absurd H (by simp)
    ·rw [if_neg c3] at H
     exact absurd H (by simp)
   ·rw [if_neg c2] at H
    have c2b0 : decide (x7_1 < (l0.length : Int)) = false := decide_eq_false c2
    clear c2
    by_cases c35 : (l0.length : Int) > 0
    ·rw [if_pos c35] at H
     have c35b0 : decide (0 < (l0.length : Int)) = true := decide_eq_true c35
     have c35b1 : decide (0 < l0.length) = true := decide_eq_true (by omega)
     clear c35
     obtain ⟨ji36, hji36⟩ : ∃ j_ : Int, (wrap64 ((l0.length : Int) - 1)) = j_ := ⟨_, rfl⟩
     replace H : (if 0 ≤ (ji36) then (if (ji36) < (x5_1.length : Int) then (some (x5_1, x6_1, ((rd x5_1 (ji36)) == (l0.length : Int)))) else (none)) else (none)) = some (r1, r2, r3) := by first | (rw [hji36] at H; exact H) | (simp only [hji36] at H ⊢; exact H)
     have hji36w : (IntKind.i64.wrap ((l0.length : Int) - 1)) = ji36 := (i64_w _).trans hji36
     by_cases c37 : 0 ≤ (ji36)
     ·rw [if_pos c37] at H
      have c37b0 : decide (0 ≤ (ji36)) = true := decide_eq_true c37
      clear c37
      by_cases c38 : (ji36) < (x5_1.length : Int)
      ·rw [if_pos c38] at H
       have c38b0 : decide ((ji36) < (x5_1.length : Int)) = true := decide_eq_true c38
       clear c38
       simp only [Option.some.injEq, Prod.mk.injEq] at H
       obtain ⟨rfl, rfl, rfl⟩ := H
       obtain ⟨Ao39, co39, eo39⟩ := Kd.zbm HO_5.out
       subst eo39
       have p362 : 0 ≤ ((ji36) : Int) := of_decide_eq_true (by first | (with_reducible assumption) | assumption)
       have q362 : (ji36) < (x5_1.length : Int) := of_decide_eq_true (by first | (with_reducible assumption) | assumption)
       obtain ⟨ad362, e362, hx362_0⟩ := Kd.zd0 (Kd.za3 HO_5.out).2.2 (ji36) p362 q362
       cases e362
       replace p362 := eq_true p362
       replace q362 := eq_true q362
       go_wp2
       repeat (go_quiet (fail); try go_wp2)
       go_ret3
       exact ⟨_, _, by first | rfl | (simp [zak, zal] <;> rfl) | (simp only [← hji36]; first | rfl | (simp [zak, zal] <;> rfl)) | (simp [*, zak, zal] <;> rfl), by (with_reducible repeat (first | apply Kd.zan | apply Kd.zaq | apply Kd.zaw)); exact HO_5.out, by (with_reducible repeat (first | apply Kd.zan | apply Kd.zaq | apply Kd.zaw)); exact HO_6.out, by repeat (first | (with_reducible first | exact HB.out | apply zab | apply zaa | apply zac) | exact HB.out)⟩
      ·rw [if_neg c38] at H
       exact absurd H (by simp)
     ·rw [if_neg c37] at H
      exact absurd H (by simp)
    ·rw [if_neg c35] at H
     have c35b0 : decide (0 < (l0.length : Int)) = false := decide_eq_false c35
     have c35b1 : decide (0 < l0.length) = false := decide_eq_false (by omega)
     clear c35
     simp only [Option.some.injEq, Prod.mk.injEq] at H
     obtain ⟨rfl, rfl, rfl⟩ := H
     go_wp2
     repeat (go_quiet (fail); try go_wp2)
     go_ret3
     exact ⟨_, _, by first | rfl | (simp [zak, zal] <;> rfl) | (simp [*, zak, zal] <;> rfl), by (with_reducible repeat (first | apply Kd.zan | apply Kd.zaq | apply Kd.zaw)); exact HO_5.out, by (with_reducible repeat (first | apply Kd.zan | apply Kd.zaq | apply Kd.zaw)); exact HO_6.out, by repeat (first | (with_reducible first | exact HB.out | apply zab | apply zaa | apply zac) | exact HB.out)⟩
def zbx.f (k : Nat) (l0 : List (S43)) : Option (Int) := if (l0.length : Int) > 60 then (some 4) else ((zay.f k l0).bind fun bt378 => (if bt378.2.2 = true then (if 0 ≤ (wrap64 ((l0.length : Int) - 1)) then (if (wrap64 ((l0.length : Int) - 1)) < (bt378.2.1.length : Int) then (if (rd bt378.2.1 (wrap64 ((l0.length : Int) - 1))) > 20 then (some 34) else (some 0)) else (none)) else (none)) else (some 8)))
set_option maxHeartbeats 8000000 in
set_option maxRecDepth 100000 in
theorem zbx.calls (k : Nat) (A0 : Option Addr) (c0 : Nat) (l0 : List (S43)) (r : Int) (w : World) (hr0 : Kd.C k43 w A0 l0.length l0) (hc0 : l0.length ≤ c0) (h : zbx.f k l0 = some r) :
    Calls Tryz.prog 18 #[.slice A0 l0.length c0] w fun e w' => e = .returned (.int .i64 r) ∧ Below w.heap.size w w' := by
  have HR0 := zad.mk hr0
  have HC0 := zad.mk hc0
  clear hr0 hc0
  have HB := zad.mk (Below.refl w.heap.size w)
  have H : (if (l0.length : Int) > 60 then (some 4) else ((zay.f k l0).bind fun bt378 => (if bt378.2.2 = true then (if 0 ≤ (wrap64 ((l0.length : Int) - 1)) then (if (wrap64 ((l0.length : Int) - 1)) < (bt378.2.1.length : Int) then (if (rd bt378.2.1 (wrap64 ((l0.length : Int) - 1))) > 20 then (some 34) else (some 0)) else (none)) else (none)) else (some 8)))) = some r := h
  clear h
  by_cases c2 : (l0.length : Int) > 60
  · rw [if_pos c2] at H
    have c2b0 : decide (60 < (l0.length : Int)) = true := decide_eq_true c2
    have c2b1 : decide (60 < l0.length) = true := decide_eq_true (by omega)
    clear c2
    obtain rfl := Option.some.inj H
    go_enter Tryz.func18, Tryz.ntmps18
    go_wp2
    go_ret
    exact ⟨by first | rfl | (simp [zak, zal] <;> rfl) | (simp [*, zak, zal] <;> rfl), by repeat (first | (with_reducible first | exact HB.out | apply zab | apply zaa | apply zac) | exact HB.out)⟩
  · rw [if_neg c2] at H
    have c2b0 : decide (60 < (l0.length : Int)) = false := decide_eq_false c2
    have c2b1 : decide (60 < l0.length) = false := decide_eq_false (by omega)
    clear c2
    replace H := Option.bind_eq_some_iff.mp H
    obtain ⟨⟨t378, t379, t380⟩, A30, H⟩ := H
    replace H : (if t380 = true then (if 0 ≤ (wrap64 ((l0.length : Int) - 1)) then (if (wrap64 ((l0.length : Int) - 1)) < (t379.length : Int) then (if (rd t379 (wrap64 ((l0.length : Int) - 1))) > 20 then (some 34) else (some 0)) else (none)) else (none)) else (some 8)) = some r := H
    have A3 := zad.mk A30
    clear A30
    by_cases c4 : t380 = true
    · subst c4
      have H1 : (if 0 ≤ (wrap64 ((l0.length : Int) - 1)) then (if (wrap64 ((l0.length : Int) - 1)) < (t379.length : Int) then (if (rd t379 (wrap64 ((l0.length : Int) - 1))) > 20 then (some 34) else (some 0)) else (none)) else (none)) = some r := by rw [if_pos rfl] at H; exact H
      clear H
      have H := H1
      clear H1
      obtain ⟨ji5, hji5⟩ : ∃ j_ : Int, (wrap64 ((l0.length : Int) - 1)) = j_ := ⟨_, rfl⟩
      replace H : (if 0 ≤ (ji5) then (if (ji5) < (t379.length : Int) then (if (rd t379 (ji5)) > 20 then (some 34) else (some 0)) else (none)) else (none)) = some r := by first | (rw [hji5] at H; exact H) | (simp only [hji5] at H ⊢; exact H)
      (try rw [hji5] at A3)
      have hji5w : (IntKind.i64.wrap ((l0.length : Int) - 1)) = ji5 := (i64_w _).trans hji5
      by_cases c6 : 0 ≤ (ji5)
      · rw [if_pos c6] at H
        have c6b0 : decide (0 ≤ (ji5)) = true := decide_eq_true c6
        clear c6
        by_cases c7 : (ji5) < (t379.length : Int)
        · rw [if_pos c7] at H
          have c7b0 : decide ((ji5) < (t379.length : Int)) = true := decide_eq_true c7
          clear c7
          by_cases c8 : (rd t379 (ji5)) > 20
          · rw [if_pos c8] at H
            have c8b0 : decide (20 < (rd t379 (ji5))) = true := decide_eq_true c8
            clear c8
            obtain rfl := Option.some.inj H
            go_enter Tryz.func18, Tryz.ntmps18
            go_wp2_with (first | ((with_reducible refine zav (f := 33) rfl ?_); refine zbl (some 11) rfl rfl Tryz.func33 (by kernel_rfl) rfl #[.slice A0 l0.length c0] rfl (by (try simp only [List.map_toArray, List.map_cons, List.map_nil]); first | done | rfl | (simp only [List.length_drop, List.length_take]; rfl)) ?_; (with_reducible refine (zay.calls k _ _ l0 t378 t379 true _ ?side1 ?side2 A3.out).mono ?_); (case side1 => repeat (first | exact HR0.out | (with_reducible refine Kd.zbu ?_ _) | (with_reducible refine Kd.zbv ?_ _) | (with_reducible refine Kd.zb4 ?_))); (case side2 => exact HC0.out); rintro e w9 ⟨v381, v383, rfl, ho0, ho1, hb⟩; refine ⟨_, rfl, ?_⟩; have n0_ := zad.mk (Kd.zbq ho0 (zao (by repeat (first | (with_reducible first | exact HB.out | apply zab | apply zaa | apply zac) | exact HB.out)))); have n1_ := zad.mk (Kd.zbq ho1 (zao (by repeat (first | (with_reducible first | exact HB.out | apply zab | apply zaa | apply zac) | exact HB.out)))); have n2_ := zad.mk (zah (by repeat (first | (with_reducible first | exact HB.out | apply zab | apply zaa | apply zac) | exact HB.out)) hb); clear HB; have HO382 := n0_; have HO384 := n1_; have HB := n2_; clear n0_ n1_ n2_; (try clear hb); (try clear hb2); (try clear hk); (try clear hi); (try clear ho0); (try clear ho1); obtain ⟨Ao10, co10, eo10⟩ := Kd.zbm HO384.out; subst eo10; have p385 : 0 ≤ ((ji5) : Int) := of_decide_eq_true (by first | (with_reducible assumption) | assumption); have q385 : (ji5) < (t379.length : Int) := of_decide_eq_true (by first | (with_reducible assumption) | assumption); obtain ⟨ad385, e385, hx385_0⟩ := Kd.zd0 (Kd.za3 HO384.out).2.2 (ji5) p385 q385; cases e385; replace p385 := eq_true p385; replace q385 := eq_true q385))
            go_ret
            exact ⟨by first | rfl | (simp [zak, zal] <;> rfl) | (simp only [← hji5]; first | rfl | (simp [zak, zal] <;> rfl)) | (simp [*, zak, zal] <;> rfl), by repeat (first | (with_reducible first | exact HB.out | apply zab | apply zaa | apply zac) | exact HB.out)⟩
          · rw [if_neg c8] at H
            have c8b0 : decide (20 < (rd t379 (ji5))) = false := decide_eq_false c8
            clear c8
            obtain rfl := Option.some.inj H
            go_enter Tryz.func18, Tryz.ntmps18
            go_wp2_with (first | ((with_reducible refine zav (f := 33) rfl ?_); refine zbl (some 11) rfl rfl Tryz.func33 (by kernel_rfl) rfl #[.slice A0 l0.length c0] rfl (by (try simp only [List.map_toArray, List.map_cons, List.map_nil]); first | done | rfl | (simp only [List.length_drop, List.length_take]; rfl)) ?_; (with_reducible refine (zay.calls k _ _ l0 t378 t379 true _ ?side1 ?side2 A3.out).mono ?_); (case side1 => repeat (first | exact HR0.out | (with_reducible refine Kd.zbu ?_ _) | (with_reducible refine Kd.zbv ?_ _) | (with_reducible refine Kd.zb4 ?_))); (case side2 => exact HC0.out); rintro e w11 ⟨v381, v383, rfl, ho0, ho1, hb⟩; refine ⟨_, rfl, ?_⟩; have n0_ := zad.mk (Kd.zbq ho0 (zao (by repeat (first | (with_reducible first | exact HB.out | apply zab | apply zaa | apply zac) | exact HB.out)))); have n1_ := zad.mk (Kd.zbq ho1 (zao (by repeat (first | (with_reducible first | exact HB.out | apply zab | apply zaa | apply zac) | exact HB.out)))); have n2_ := zad.mk (zah (by repeat (first | (with_reducible first | exact HB.out | apply zab | apply zaa | apply zac) | exact HB.out)) hb); clear HB; have HO382 := n0_; have HO384 := n1_; have HB := n2_; clear n0_ n1_ n2_; (try clear hb); (try clear hb2); (try clear hk); (try clear hi); (try clear ho0); (try clear ho1); obtain ⟨Ao12, co12, eo12⟩ := Kd.zbm HO384.out; subst eo12; have p385 : 0 ≤ ((ji5) : Int) := of_decide_eq_true (by first | (with_reducible assumption) | assumption); have q385 : (ji5) < (t379.length : Int) := of_decide_eq_true (by first | (with_reducible assumption) | assumption); obtain ⟨ad385, e385, hx385_0⟩ := Kd.zd0 (Kd.za3 HO384.out).2.2 (ji5) p385 q385; cases e385; replace p385 := eq_true p385; replace q385 := eq_true q385))
            go_ret
            exact ⟨by first | rfl | (simp [zak, zal] <;> rfl) | (simp only [← hji5]; first | rfl | (simp [zak, zal] <;> rfl)) | (simp [*, zak, zal] <;> rfl), by repeat (first | (with_reducible first | exact HB.out | apply zab | apply zaa | apply zac) | exact HB.out)⟩
        · rw [if_neg c7] at H
          exact absurd H (by simp)
      · rw [if_neg c6] at H
        exact absurd H (by simp)
    · replace c4 := Bool.eq_false_iff.mpr c4
      subst c4
      have H1 : (some 8) = some r := by rw [if_neg (show ¬ (false = true) by decide)] at H; exact H
      clear H
      have H := H1
      clear H1
      obtain rfl := Option.some.inj H
      go_enter Tryz.func18, Tryz.ntmps18
      go_wp2_with (first | ((with_reducible refine zav (f := 33) rfl ?_); refine zbl (some 11) rfl rfl Tryz.func33 (by kernel_rfl) rfl #[.slice A0 l0.length c0] rfl (by (try simp only [List.map_toArray, List.map_cons, List.map_nil]); first | done | rfl | (simp only [List.length_drop, List.length_take]; rfl)) ?_; (with_reducible refine (zay.calls k _ _ l0 t378 t379 false _ ?side1 ?side2 A3.out).mono ?_); (case side1 => repeat (first | exact HR0.out | (with_reducible refine Kd.zbu ?_ _) | (with_reducible refine Kd.zbv ?_ _) | (with_reducible refine Kd.zb4 ?_))); (case side2 => exact HC0.out); rintro e w13 ⟨v381, v383, rfl, ho0, ho1, hb⟩; refine ⟨_, rfl, ?_⟩; have n0_ := zad.mk (Kd.zbq ho0 (zao (by repeat (first | (with_reducible first | exact HB.out | apply zab | apply zaa | apply zac) | exact HB.out)))); have n1_ := zad.mk (Kd.zbq ho1 (zao (by repeat (first | (with_reducible first | exact HB.out | apply zab | apply zaa | apply zac) | exact HB.out)))); have n2_ := zad.mk (zah (by repeat (first | (with_reducible first | exact HB.out | apply zab | apply zaa | apply zac) | exact HB.out)) hb); clear HB; have HO382 := n0_; have HO384 := n1_; have HB := n2_; clear n0_ n1_ n2_; (try clear hb); (try clear hb2); (try clear hk); (try clear hi); (try clear ho0); (try clear ho1)))
      go_ret
      exact ⟨by first | rfl | (simp [zak, zal] <;> rfl) | (simp [*, zak, zal] <;> rfl), by repeat (first | (with_reducible first | exact HB.out | apply zab | apply zaa | apply zac) | exact HB.out)⟩
def eqN (x y : S43) : Bool := x.f0 == y.f0 && (x.f1 == y.f1 && (x.f2 == y.f2 && x.f3 == y.f3))
def eqL : List (S43) → List (S43) → Bool
  | [], [] => true
  | x :: xs, y :: ys => eqN x y && eqL xs ys
  | _, _ => false
theorem eqL_len : ∀ (xs ys : List (S43)), xs.length ≠ ys.length → eqL xs ys = false
  | [], [], h => absurd rfl h
  | [], _ :: _, _ => rfl
  | _ :: _, [], _ => rfl
  | x :: xs, y :: ys, h => by simp only [eqL]; rw [eqL_len xs ys (by simpa using h), Bool.and_false]
theorem eql_nd (x y : S43) (W : World) : (binOp .eql 43 (.agg #[.int .u8 x.f0, .int .i64 x.f1, .int .i64 x.f2, .int .i64 x.f3, .int .i64 y.f4]) (.agg #[.int .u8 y.f0, .int .i64 y.f1, .int .i64 y.f2, .int .i64 y.f3, .int .i64 y.f4])).run Tryz.prog W = .ok (.bool (eqN x y)) W := by
  have he := eqA_nd 9998 W x.f0 y.f0 x.f1 y.f1 x.f2 y.f2 x.f3 y.f3 y.f4 y.f4
  rw [show (x.f0 == y.f0 && (x.f1 == y.f1 && (x.f2 == y.f2 && (x.f3 == y.f3 && (y.f4 == y.f4))))) = eqN x y by unfold eqN; rw [beq_self_eq_true, Bool.and_true]] at he
  simp only [binOp]
  simp only [Op.equal, Op.maxDepth]
  simp [he]
set_option maxRecDepth 100000 in
set_option maxHeartbeats 8000000 in
theorem same_fn (x y : S43) (w : World) : Calls Tryz.prog 35 #[.agg #[.int .u8 x.f0, .int .i64 x.f1, .int .i64 x.f2, .int .i64 x.f3, .int .i64 x.f4], .agg #[.int .u8 y.f0, .int .i64 y.f1, .int .i64 y.f2, .int .i64 y.f3, .int .i64 y.f4]] w fun e w' => e = .returned (.bool (eqN x y)) ∧ Below w.heap.size w w' := by
  have he := eql_nd x y
  go_enter Tryz.func35, Tryz.ntmps35
  go_wp2
  go_ret
  exact ⟨rfl, by repeat (first | exact Below.refl _ _ | apply zab)⟩
set_option maxRecDepth 100000 in
set_option maxHeartbeats 8000000 in
theorem equal_fn (A0 : Option Addr) (c0 : Nat) (l0 : List (S43)) (A1 : Option Addr) (c1 : Nat) (l1 : List (S43)) (w : World) (hr0 : Kd.C k43 w A0 l0.length l0) (hr1 : Kd.C k43 w A1 l1.length l1) :
    Calls Tryz.prog 34 #[.slice A0 l0.length c0, .slice A1 l1.length c1, .func (.func 35) #[] #[]] w fun e w' => e = .returned (.bool (eqL l0 l1)) ∧ Below w.heap.size w w' := by
  by_cases hl : l0.length = l1.length
  · have hln := hr0.2.1
    have HR0 := Lib.hid hr0
    have HR1 := Lib.hid hr1
    have HL := Lib.hid hl
    have HLN := Lib.hid hln
    have d0 : ((l0.length : Int) != (l1.length : Int)) = false := by rw [hl]; exact bne_self_eq_false _
    have d1 : (l0.length != l1.length) = false := by rw [hl]; exact bne_self_eq_false _
    clear hr0 hr1 hl hln
    go_enter Tryz.func34, Tryz.ntmps34
    go_wp2
    clear d0 d1
    go_loopg [17] l0.length (fun kq v17 W' => ∃ i : Nat, v17 = .int .i64 (i : Int) ∧ zad (i + kq = l0.length) ∧ zad (eqL (l0.drop i) (l1.drop i) = eqL l0 l1) ∧ zad (Below w.heap.size w W'))
    case atStart => exact ⟨0, rfl, ⟨by omega⟩, ⟨rfl⟩, ⟨Below.refl _ _⟩⟩
    case round =>
      obtain ⟨i, rfl, HQ, HP, HW⟩ := hrel
      by_cases hi : i < l0.length
      · have hi1 : i < l1.length := by have := HL.out; omega
        have hp := HP.out
        rw [List.drop_eq_getElem_cons hi, List.drop_eq_getElem_cons hi1] at hp
        simp only [eqL] at hp
        obtain ⟨ad0, e0, a0, a1, a2, a3, a4⟩ := zds HR0.out (i : Int) (by omega) (by omega)
        obtain ⟨ad1, e1, b0, b1, b2, b3, b4⟩ := zds HR1.out (i : Int) (by omega) (by omega)
        subst e0; subst e1
        rw [Int.toNat_natCast] at a0 a1 a2 a3 a4 b0 b1 b2 b3 b4
        have f0 : za0 l0 (i : Int) = l0[i] := by unfold za0; rw [Int.toNat_natCast, List.getD_eq_getElem?_getD, List.getElem?_eq_getElem hi]; rfl
        have f1 : za0 l1 (i : Int) = l1[i] := by unfold za0; rw [Int.toNat_natCast, List.getD_eq_getElem?_getD, List.getElem?_eq_getElem hi1]; rfl
        rw [f0] at a0 a1 a2 a3 a4
        rw [f1] at b0 b1 b2 b3 b4
        clear f0 f1
        generalize l0[i] = x at hp a0 a1 a2 a3 a4
        generalize l1[i] = y at hp b0 b1 b2 b3 b4
        have up : ∀ {p : Addr} {v : Value}, w.cell? p = some v → wr.cell? p = some v := fun h => (HW.out.cell (World.block_lt_of_cell? w _ h)).trans h
        have a0 := up a0; have a1 := up a1; have a2 := up a2; have a3 := up a3; have a4 := up a4
        have up2 : ∀ {p : Addr} {v : Value}, w.cell? p = some v → (wr.alloc (.cells #[.int .u8 x.f0, .int .i64 x.f1, .int .i64 x.f2, .int .i64 x.f3, .int .i64 x.f4] 43)).cell? p = some v := fun h => ((zab HW.out _).cell (World.block_lt_of_cell? w _ h)).trans h
        have b0 := up2 b0; have b1 := up2 b1; have b2 := up2 b2; have b3 := up2 b3; have b4 := up2 b4
        have hlti : decide ((i : Int) < (l0.length : Int)) = true := decide_eq_true (by omega)
        have hltj : decide (i < l0.length) = true := decide_eq_true hi
        have hltn : (i : Int) < (l0.length : Int) := by omega
        have hltm : (i : Int) < (l1.length : Int) := by omega
        have hwi : wrap64 ((i : Int) + 1) = (i : Int) + 1 := by have := HLN.out; apply IntWalk.wrap64_in; omega
        have HS := Lib.hid (fun (W : World) => same_fn x y W)
        have HI := Lib.hid hi
        cases hxy : eqN x y with
        | true =>
          rw [hxy, Bool.true_and] at hp
          have HP2 := Lib.hid hp
          have HXY := Lib.hid hxy
          clear hp hxy up up2 hi hi1 HP
          go_wp2_with (first | (go_at_call 35; refine (HS.out _).mono ?_; rw [HXY.out]; rintro e w1 ⟨rfl, hb⟩; have HB := Lib.hid hb; clear hb))
          go_roundg (l0.length - (i + 1))
          case measure => have := HQ.out; have := HI.out; omega
          case rel => exact ⟨i + 1, by go_num, ⟨by have := HQ.out; have := HI.out; omega⟩, ⟨HP2.out⟩, ⟨zah (zab (zab HW.out _) _) HB.out⟩⟩
        | false =>
          rw [hxy, Bool.false_and] at hp
          have HP2 := Lib.hid hp
          have HXY := Lib.hid hxy
          clear hp hxy up up2 hi hi1 HP
          go_wp2_with (first | (go_at_call 35; refine (HS.out _).mono ?_; rw [HXY.out]; rintro e w1 ⟨rfl, hb⟩; have HB := Lib.hid hb; clear hb))
          go_ret
          exact ⟨congrArg (fun b => Ending.returned (Value.bool b)) HP2.out, zah (zab (zab HW.out _) _) HB.out⟩
      · have hin : i = l0.length := by have := HQ.out; omega
        have hp := HP.out
        subst hin
        rw [List.drop_length, show l1.drop l0.length = [] by rw [HL.out]; exact List.drop_length] at hp
        have HP2 := Lib.hid hp
        have hlti : decide ((l0.length : Int) < (l0.length : Int)) = false := decide_eq_false (by omega)
        clear hp hi HP
        go_wp2
        go_ret
        exact ⟨congrArg (fun b => Ending.returned (Value.bool b)) HP2.out, HW.out⟩
  · have d0 : ((l0.length : Int) != (l1.length : Int)) = true := bne_iff_ne.2 (by omega)
    have d1 : (l0.length != l1.length) = true := bne_iff_ne.2 hl
    have HE := Lib.hid (eqL_len l0 l1 hl)
    clear hr0 hr1 hl
    go_enter Tryz.func34, Tryz.ntmps34
    go_wp2
    go_ret
    exact ⟨congrArg (fun b => Ending.returned (Value.bool b)) HE.out.symm, Below.refl _ _⟩
def zcm.f (l0 : List (S43)) (l1 : List (S43)) : Option (Bool × Int) := (zbp.f l0).bind fun e => if e = 0 then (zbp.f l1).bind fun e2 => if e2 = 0 then some (eqL l0 l1, 0) else some (false, e2) else some (false, e)
set_option maxRecDepth 100000 in
set_option maxHeartbeats 8000000 in
theorem zcm.calls (A0 : Option Addr) (c0 : Nat) (l0 : List (S43)) (A1 : Option Addr) (c1 : Nat) (l1 : List (S43)) (r1 : Bool) (r2 : Int) (w : World) (hr0 : Kd.C k43 w A0 l0.length l0) (hc0 : l0.length ≤ c0) (hr1 : Kd.C k43 w A1 l1.length l1) (hc1 : l1.length ≤ c1) (h : zcm.f l0 l1 = some (r1, r2)) :
    Calls Tryz.prog 19 #[.slice A0 l0.length c0, .slice A1 l1.length c1] w fun e w' => e = .returned (.tuple #[.bool r1, .int .i64 r2]) ∧ Below w.heap.size w w' := by
  unfold zcm.f at h
  cases hk : zbp.f l0 with
  | none => rw [hk] at h; cases h
  | some e =>
    rw [hk] at h
    simp only [Option.bind_some] at h
    have HR0 := Lib.hid hr0
    have HR1 := Lib.hid hr1
    have HC0 := Lib.hid hc0
    have HC1 := Lib.hid hc1
    have HK := Lib.hid hk
    clear hr0 hr1 hc0 hc1 hk
    by_cases c1_ : e = 0
    · subst c1_
      rw [if_pos rfl] at h
      cases hk2 : zbp.f l1 with
      | none => rw [hk2] at h; cases h
      | some e2 =>
        rw [hk2] at h
        simp only [Option.bind_some] at h
        have HK2 := Lib.hid hk2
        clear hk2
        by_cases c2_ : e2 = 0
        · subst c2_
          rw [if_pos rfl] at h
          injection h with h; injection h with h1 h2; subst h1; subst h2
          go_enter Tryz.func19, Tryz.ntmps19
          go_wp2_with (first
            | (go_at_call 15; (fail_if_success (have := HB1)); refine (zbp.calls A0 c0 l0 0 _ HR0.out HC0.out HK.out).mono ?_; rintro e w1 ⟨rfl, hb⟩; have HB1 := Lib.hid hb; clear hb)
            | (go_at_call 15; refine (zbp.calls A1 c1 l1 0 _ (Kd.zb7 HR1.out HB1.out) HC1.out HK2.out).mono ?_; rintro e w2 ⟨rfl, hb⟩; have HB2 := Lib.hid (zah HB1.out hb); clear hb)
            | (go_at_call 34; refine (equal_fn A0 c0 l0 A1 c1 l1 _ (Kd.zb7 HR0.out HB2.out) (Kd.zb7 HR1.out HB2.out)).mono ?_; rintro e w3 ⟨rfl, hb⟩; have HB3 := Lib.hid (zah HB2.out hb); clear hb))
          go_ret2
          exact ⟨rfl, HB3.out⟩
        · rw [if_neg c2_] at h
          injection h with h; injection h with h1 h2; subst h1; subst h2
          have d2 : (e2 != 0) = true := bne_iff_ne.2 c2_
          clear c2_
          go_enter Tryz.func19, Tryz.ntmps19
          go_wp2_with (first
            | (go_at_call 15; (fail_if_success (have := HB1)); refine (zbp.calls A0 c0 l0 0 _ HR0.out HC0.out HK.out).mono ?_; rintro e w1 ⟨rfl, hb⟩; have HB1 := Lib.hid hb; clear hb)
            | (go_at_call 15; refine (zbp.calls A1 c1 l1 _ _ (Kd.zb7 HR1.out HB1.out) HC1.out HK2.out).mono ?_; rintro e w2 ⟨rfl, hb⟩; have HB2 := Lib.hid (zah HB1.out hb); clear hb))
          go_ret2
          exact ⟨rfl, HB2.out⟩
    · rw [if_neg c1_] at h
      injection h with h; injection h with h1 h2; subst h1; subst h2
      have d2 : (e != 0) = true := bne_iff_ne.2 c1_
      clear c1_
      go_enter Tryz.func19, Tryz.ntmps19
      go_wp2_with (first
        | (go_at_call 15; refine (zbp.calls A0 c0 l0 _ _ HR0.out HC0.out HK.out).mono ?_; rintro e w1 ⟨rfl, hb⟩; have HB1 := Lib.hid hb; clear hb))
      go_ret2
      exact ⟨rfl, HB1.out⟩
end Go.Proofs.YtgmmngipnjmkfaaGreatDoor.Q
end
section
namespace Go.Proofs.YtgmmngipnjmkfaaGreatDoor.Pure
open Go.RowKit Go.Proofs.YtgmmngipnjmkfaaGreatDoorW.PrintWords Go.Proofs.YtgmmngipnjmkfaaGreatDoorW.PrintLast Go.Proofs.YtgmmngipnjmkfaaGreatDoorW.PrintMore Go.Proofs.YtgmmngipnjmkfaaGreatDoor.Q Go.Proofs.YtgmmngipnjmkfaaGreatDoor.Hand
structure Pre (l : List Nd) (ts : List Tr) : Prop where
  wf : ∀ t ∈ ts, t.WF
  seg : ∀ j (h : j < ts.length), ts[j].size ≤ j + 1 ∧ (l.take (j + 1)).drop (j + 1 - ts[j].size) = ts[j].flat (j + 1 - ts[j].size)
def szs (ts : List Tr) : List Int := ts.map fun t => (t.size : Int)
def dps (ts : List Tr) : List Int := ts.map fun t => (t.depth : Int)
theorem szs_len (ts : List Tr) : (szs ts).length = ts.length := by unfold szs; simp
theorem dps_len (ts : List Tr) : (dps ts).length = ts.length := by unfold dps; simp
theorem rd_szs (ts : List Tr) (j : Nat) (h : j < ts.length) : rd (szs ts) (j : Int) = (ts[j].size : Int) := by
  unfold rd szs; rw [Int.toNat_natCast, List.getD_eq_getElem?_getD, List.getElem?_map, List.getElem?_eq_getElem h]; rfl
theorem rd_dps (ts : List Tr) (j : Nat) (h : j < ts.length) : rd (dps ts) (j : Int) = (ts[j].depth : Int) := by
  unfold rd dps; rw [Int.toNat_natCast, List.getD_eq_getElem?_getD, List.getElem?_map, List.getElem?_eq_getElem h]; rfl
theorem depth_size (t : Tr) : t.depth ≤ t.size := by
  induction t with
  | leaf => exact Nat.le_refl _
  | un k p a ih => simp only [Tr.depth, Tr.size]; omega
  | bin k p a b iha ihb => simp only [Tr.depth, Tr.size]; omega
theorem Pre.push {l : List Nd} {ts : List Tr} {t : Tr} (h : Pre l ts) (hw : t.WF) (hs : t.size ≤ ts.length + 1) (hf : (l.take (ts.length + 1)).drop (ts.length + 1 - t.size) = t.flat (ts.length + 1 - t.size)) : Pre l (ts ++ [t]) := by
  refine ⟨fun u hu => ?_, fun j hj => ?_⟩
  · rcases List.mem_append.1 hu with hu | hu
    · exact h.wf u hu
    · rw [List.mem_singleton.1 hu]; exact hw
  · rcases Nat.lt_or_ge j ts.length with hlt | hge
    · rw [List.getElem_append_left hlt]; exact h.seg j hlt
    · have hj' : j = ts.length := by rw [List.length_append] at hj; simp at hj; omega
      subst hj'
      have e : (ts ++ [t])[ts.length]'hj = t := by simp
      rw [e]; exact ⟨hs, hf⟩
theorem zec {l : List Nd} {n : Nat} (h : n < l.length) (m : Nat) (hm : m ≤ n) : (l.take (n + 1)).drop m = (l.take n).drop m ++ [l[n]] := by
  rw [List.take_add_one, List.drop_append_of_le_length (by rw [List.length_take]; omega), List.getElem?_eq_getElem h]; rfl
theorem right_iff (x : Nd) (a b : Int) : zbt.f x.f0 x.f1 x.f2 x.f3 x.f4 a b = some (decide (1 ≤ x.f0 ∧ x.f0 ≤ 19 ∧ 0 ≤ x.f1 ∧ (x.f1 = 0 ∨ x.f0 = 1) ∧ 0 ≤ x.f4 ∧ x.f4 ≤ 400 ∧ x.f2 = a ∧ x.f3 = b)) := by
  unfold zbt.f
  repeat' split
  all_goals first
    | (rw [decide_eq_false]; rintro ⟨h1, h2, h3, h4, h5, h6, h7, h8⟩; omega)
    | (congr 1; by_cases hb : x.f3 = b
       · rw [decide_eq_true (by refine ⟨?_, ?_, ?_, ?_, ?_, ?_, ?_, hb⟩ <;> first | omega | assumption)]; exact beq_iff_eq.2 hb
       · rw [decide_eq_false (by rintro ⟨_, _, _, _, _, _, _, h8⟩; exact hb h8)]; exact beq_eq_false_iff_ne.2 hb)
def okN (x : Nd) (a b : Int) : Prop := 1 ≤ x.f0 ∧ x.f0 ≤ 19 ∧ 0 ≤ x.f1 ∧ (x.f1 = 0 ∨ x.f0 = 1) ∧ 0 ≤ x.f4 ∧ x.f4 ≤ 400 ∧ x.f2 = a ∧ x.f3 = b
instance (x : Nd) (a b : Int) : Decidable (okN x a b) := by unfold okN; infer_instance
theorem right_ok (x : Nd) (a b : Int) : zbt.f x.f0 x.f1 x.f2 x.f3 x.f4 a b = some (decide (okN x a b)) := by
  refine (right_iff x a b).trans (congrArg some ?_)
  by_cases h : okN x a b
  · rw [decide_eq_true h]; exact decide_eq_true h
  · rw [decide_eq_false h]; exact decide_eq_false h
theorem rdT_nat (l : List Nd) (n : Nat) (h : n < l.length) : za0 l (n : Int) = l[n] := by
  unfold za0; rw [Int.toNat_natCast, List.getD_eq_getElem?_getD, List.getElem?_eq_getElem h]; rfl
theorem w64 {x : Int} (h0 : -1000000 ≤ x) (h1 : x ≤ 1000000) : wrap64 x = x := by apply IntWalk.wrap64_in; omega
theorem sizes_j1 (l : List Nd) (hl : l.length ≤ 60) (ts : List Tr) (k : Nat) (a b sz dp : Int) (hn : ts.length < l.length) :
    zay.j1 (k + 1) l (szs ts) (dps ts) (ts.length : Int) a b sz dp = if okN l[ts.length] a b then zay.l0 k l (szs ts ++ [sz]) (dps ts ++ [dp]) ((ts.length + 1 : Nat) : Int) else some ([], [], false) := by
  simp only [zay.j1]
  rw [if_pos (by omega), if_pos (by omega), rdT_nat l ts.length hn, right_ok]
  simp only [Option.bind_some]
  rw [szs_len, dps_len]
  by_cases h : okN l[ts.length] a b
  · rw [if_pos h, if_pos (decide_eq_true h), if_pos (by omega), if_pos (by omega), w64 (by omega) (by omega)]; rfl
  · rw [if_neg h, if_neg (by rw [decide_eq_false h]; decide)]
def EndsAs (l : List Nd) (r : Option (List Int × List Int × Bool)) : Prop := ∃ a b c, r = some (a, b, c) ∧ (c = true → ∃ ts, Pre l ts ∧ ts.length = l.length ∧ a = szs ts ∧ b = dps ts ∧ ∃ h : 0 < ts.length, ts[ts.length - 1].size = l.length)
theorem ends_no (l : List Nd) : EndsAs l (some ([], [], false)) := ⟨_, _, _, rfl, fun h => by cases h⟩
theorem sizes_l0 (l : List Nd) (hl : l.length ≤ 60) (hf : ∀ x ∈ l, fits64 x) : ∀ (d : Nat) (ts : List Tr) (k : Nat), l.length - ts.length = d → ts.length ≤ l.length → Pre l ts → 2 * d + 2 ≤ k → EndsAs l (zay.l0 k l (szs ts) (dps ts) (ts.length : Int)) := by
  intro d
  induction d with
  | zero =>
    intro ts k hd hle hp hk
    obtain ⟨k, rfl⟩ : ∃ m, k = m + 1 := ⟨k - 1, by omega⟩
    have hlen : ts.length = l.length := by omega
    simp only [zay.l0]
    rw [if_neg (by omega)]
    by_cases h0 : 0 < l.length
    · rw [if_pos (by omega), w64 (by omega) (by omega), szs_len, if_pos (by omega), if_pos (by omega), show ((l.length : Int) - 1) = ((ts.length - 1 : Nat) : Int) by omega, rd_szs ts _ (by omega)]
      exact ⟨_, _, _, rfl, fun h => ⟨ts, hp, hlen, rfl, rfl, by omega, by have := beq_iff_eq.1 h; omega⟩⟩
    · rw [if_neg (by omega)]; exact ⟨_, _, _, rfl, fun h => by cases h⟩
  | succ d ih =>
    intro ts k hd hle hp hk
    obtain ⟨k, rfl⟩ : ∃ m, k = m + 1 + 1 := ⟨k - 2, by omega⟩
    have hn : ts.length < l.length := by omega
    have hfx : fits64 l[ts.length] := hf _ (List.getElem_mem hn)
    have go : ∀ (t : Tr), t.WF → t.size ≤ ts.length + 1 → (l.take (ts.length + 1)).drop (ts.length + 1 - t.size) = t.flat (ts.length + 1 - t.size) → EndsAs l (zay.l0 k l (szs ts ++ [(t.size : Int)]) (dps ts ++ [(t.depth : Int)]) ((ts.length + 1 : Nat) : Int)) := by
      intro t hw hs hfl
      have := ih (ts ++ [t]) k (by rw [List.length_append]; simp; omega) (by rw [List.length_append]; simp; omega) (hp.push hw hs hfl) (by omega)
      rw [List.length_append] at this
      simpa [szs, dps] using this
    have hx : za0 l (ts.length : Int) = l[ts.length] := rdT_nat l _ hn
    simp only [zay.l0]
    rw [if_pos (by omega), if_pos (by omega), hx]
    by_cases hk4 : l[ts.length].f0 ≤ 4
    · rw [show zbi.f l[ts.length].f0 = some 0 by unfold zbi.f; rw [if_pos hk4]]
      simp only [Option.bind_some]
      rw [if_neg (by decide), sizes_j1 l hl ts k 0 0 1 1 hn]
      by_cases ho : okN l[ts.length] 0 0
      · rw [if_pos ho]
        obtain ⟨h1, h2, h3, h4, h5, h6, h7, h8⟩ := ho
        refine go (.leaf l[ts.length].f0 l[ts.length].f1 l[ts.length].f4) ⟨h1, hk4, h3, hfx, h4, h5, h6⟩ (by simp [Tr.size]) ?_
        show (l.take (ts.length + 1)).drop (ts.length + 1 - 1) = _
        rw [Nat.add_sub_cancel, zec hn _ (Nat.le_refl _), show (l.take ts.length).drop ts.length = [] by rw [List.drop_of_length_le (by rw [List.length_take]; omega)]]
        simp only [List.nil_append, Tr.flat]
        congr 1
        rw [show l[ts.length] = (⟨l[ts.length].f0, l[ts.length].f1, l[ts.length].f2, l[ts.length].f3, l[ts.length].f4⟩ : Nd) from rfl, h7, h8]
      · rw [if_neg ho]; exact ends_no l
    by_cases h0 : ts.length = 0
    · have hw1 : wrap64 ((ts.length : Int) - 1) = -1 := by rw [h0]; exact w64 (by decide) (by decide)
      by_cases hk6 : l[ts.length].f0 ≤ 6
      · rw [show zbi.f l[ts.length].f0 = some 1 by unfold zbi.f; rw [if_neg hk4, if_pos hk6]]
        simp only [Option.bind_some]
        rw [if_pos (by decide), hw1, if_pos (by decide)]; exact ends_no l
      · rw [show zbi.f l[ts.length].f0 = some 2 by unfold zbi.f; rw [if_neg hk4, if_neg hk6]]
        simp only [Option.bind_some]
        rw [if_pos (by decide), hw1, if_pos (by decide)]; exact ends_no l
    have hj : ts.length - 1 < ts.length := by omega
    have hw1 : wrap64 ((ts.length : Int) - 1) = ((ts.length - 1 : Nat) : Int) := by rw [w64 (by omega) (by omega)]; omega
    obtain ⟨B, hB⟩ : ∃ B, B = ts[ts.length - 1] := ⟨_, rfl⟩
    have hBs := hp.seg (ts.length - 1) hj
    rw [← hB, show ts.length - 1 + 1 = ts.length by omega] at hBs
    have hBw : B.WF := by rw [hB]; exact hp.wf _ (List.getElem_mem hj)
    have hBd := depth_size B
    have hBp := B.size_pos
    have e5 : rd (szs ts) ((ts.length - 1 : Nat) : Int) = (B.size : Int) := by rw [rd_szs ts _ hj, ← hB]
    have e6 : rd (dps ts) ((ts.length - 1 : Nat) : Int) = (B.depth : Int) := by rw [rd_dps ts _ hj, ← hB]
    by_cases hk6 : l[ts.length].f0 ≤ 6
    · rw [show zbi.f l[ts.length].f0 = some 1 by unfold zbi.f; rw [if_neg hk4, if_pos hk6]]
      simp only [Option.bind_some]
      rw [if_pos (by decide), hw1, if_neg (by omega), if_pos (by omega), szs_len, dps_len, if_pos (by omega), if_pos (by omega), if_neg (by decide), e5, e6, w64 (x := 1 + (B.size : Int)) (by omega) (by omega), w64 (x := 1 + (B.depth : Int)) (by omega) (by omega), sizes_j1 l hl ts k _ 0 _ _ hn]
      by_cases ho : okN l[ts.length] ((ts.length - 1 : Nat) : Int) 0
      · rw [if_pos ho]
        obtain ⟨h1, h2, h3, h4, h5, h6, h7, h8⟩ := ho
        have := go (.un l[ts.length].f0 l[ts.length].f4 B) ⟨by omega, h5, h6, hBw⟩ (by simp only [Tr.size]; omega) (by
          simp only [Tr.size]
          rw [show ts.length + 1 - (B.size + 1) = ts.length - B.size by omega, zec hn _ (by omega), hBs.2]
          simp only [Tr.flat]
          congr 2
          rw [show l[ts.length] = (⟨l[ts.length].f0, l[ts.length].f1, l[ts.length].f2, l[ts.length].f3, l[ts.length].f4⟩ : Nd) from rfl, h7, h8, show l[ts.length].f1 = 0 by omega]
          congr 1
          omega)
        simp only [Tr.size, Tr.depth] at this
        rw [show (1 + (B.size : Int)) = ((B.size + 1 : Nat) : Int) by omega, show (1 + (B.depth : Int)) = ((B.depth + 1 : Nat) : Int) by omega]
        exact this
      · rw [if_neg ho]; exact ends_no l
    · rw [show zbi.f l[ts.length].f0 = some 2 by unfold zbi.f; rw [if_neg hk4, if_neg hk6]]
      simp only [Option.bind_some]
      rw [if_pos (by decide), hw1, if_neg (by omega), if_pos (by omega), szs_len, dps_len, if_pos (by omega), if_pos (by omega), if_pos trivial, e5, e6]
      by_cases hneg : ((ts.length - 1 : Nat) : Int) - (B.size : Int) < 0
      · rw [w64 (x := ((ts.length - 1 : Nat) : Int) - (B.size : Int)) (by omega) (by omega), if_pos hneg]; exact ends_no l
      · have hwl : wrap64 (((ts.length - 1 : Nat) : Int) - (B.size : Int)) = ((ts.length - 1 - B.size : Nat) : Int) := by rw [w64 (by omega) (by omega)]; omega
        have hja : ts.length - 1 - B.size < ts.length := by omega
        obtain ⟨A, hA⟩ : ∃ A, A = ts[ts.length - 1 - B.size] := ⟨_, rfl⟩
        have hAs := hp.seg (ts.length - 1 - B.size) hja
        rw [← hA, show ts.length - 1 - B.size + 1 = ts.length - B.size by omega] at hAs
        have hAw : A.WF := by rw [hA]; exact hp.wf _ (List.getElem_mem hja)
        have hAd := depth_size A
        have f5 : rd (szs ts) ((ts.length - 1 - B.size : Nat) : Int) = (A.size : Int) := by rw [rd_szs ts _ hja, ← hA]
        have f6 : rd (dps ts) ((ts.length - 1 - B.size : Nat) : Int) = (A.depth : Int) := by rw [rd_dps ts _ hja, ← hA]
        rw [hwl, if_neg (by omega), if_pos (by omega), if_pos (by omega), if_pos (by omega), f5, f6, w64 (x := 1 + (B.size : Int)) (by omega) (by omega), w64 (x := 1 + (B.depth : Int)) (by omega) (by omega), w64 (x := 1 + (A.depth : Int)) (by omega) (by omega), w64 (x := 1 + (B.size : Int) + (A.size : Int)) (by omega) (by omega), sizes_j1 l hl ts k _ _ _ _ hn]
        by_cases ho : okN l[ts.length] ((ts.length - 1 - B.size : Nat) : Int) ((ts.length - 1 : Nat) : Int)
        · rw [if_pos ho]
          obtain ⟨h1, h2, h3, h4, h5, h6, h7, h8⟩ := ho
          have := go (.bin l[ts.length].f0 l[ts.length].f4 A B) ⟨by omega, h2, h5, h6, hAw, hBw⟩ (by simp only [Tr.size]; omega) (by
            simp only [Tr.size]
            rw [show ts.length + 1 - (A.size + B.size + 1) = ts.length - B.size - A.size by omega, zec hn _ (by omega)]
            have hsp : (l.take ts.length).drop (ts.length - B.size - A.size) = (l.take (ts.length - B.size)).drop (ts.length - B.size - A.size) ++ (l.take ts.length).drop (ts.length - B.size) := by
              have e := List.take_append_drop (ts.length - B.size) (l.take ts.length)
              rw [List.take_take, Nat.min_eq_left (by omega)] at e
              conv => lhs; rw [← e]
              rw [List.drop_append_of_le_length (by rw [List.length_take]; omega)]
            rw [hsp, hAs.2, hBs.2]
            simp only [Tr.flat, List.append_assoc]
            rw [show ts.length - B.size - A.size + A.size = ts.length - B.size by omega]
            congr 3
            rw [show l[ts.length] = (⟨l[ts.length].f0, l[ts.length].f1, l[ts.length].f2, l[ts.length].f3, l[ts.length].f4⟩ : Nd) from rfl, h7, h8, show l[ts.length].f1 = 0 by omega]
            congr 1 <;> omega)
          simp only [Tr.size, Tr.depth] at this
          rw [show (1 + (B.size : Int) + (A.size : Int)) = ((A.size + B.size + 1 : Nat) : Int) by omega, show mx (1 + (B.depth : Int)) (1 + (A.depth : Int)) = ((max A.depth B.depth + 1 : Nat) : Int) by unfold mx; split <;> omega]
          exact this
        · rw [if_neg ho]; exact ends_no l
theorem check_ref (l : List Nd) (hf : ∀ x ∈ l, fits64 x) (k : Nat) (hk : 200 ≤ k) : ∃ c, zbx.f k l = some c ∧ (c = 0 → ∃ t : Tr, t.ok ∧ l = t.flat 0) := by
  unfold zbx.f
  by_cases hl : l.length ≤ 60
  · rw [if_neg (by omega)]
    obtain ⟨a, b, c, hr, hc⟩ := sizes_l0 l hl hf l.length [] k rfl (Nat.zero_le _) ⟨fun t ht => absurd ht List.not_mem_nil, fun j hj => absurd hj (Nat.not_lt_zero j)⟩ (by omega)
    have hr' : zay.f k l = some (a, b, c) := hr
    rw [hr']
    simp only [Option.bind_some]
    by_cases hct : c = true
    · obtain ⟨ts, hp, hlen, ha, hb, h0, hsz⟩ := hc hct
      subst hb
      have hj : ts.length - 1 < ts.length := by omega
      rw [if_pos hct, w64 (by omega) (by omega), if_pos (by omega), dps_len, if_pos (by omega), show ((l.length : Int) - 1) = ((ts.length - 1 : Nat) : Int) by omega, rd_dps ts _ hj]
      by_cases hd : (ts[ts.length - 1].depth : Int) > 20
      · rw [if_pos hd]; exact ⟨_, rfl, fun h => by cases h⟩
      · rw [if_neg hd]
        refine ⟨0, rfl, fun _ => ⟨ts[ts.length - 1], ⟨hp.wf _ (List.getElem_mem hj), by omega, by omega⟩, ?_⟩⟩
        have := (hp.seg (ts.length - 1) hj).2
        rw [hsz, show ts.length - 1 + 1 = l.length by omega, Nat.sub_self, List.take_length] at this
        exact this
    · rw [if_neg hct]; exact ⟨_, rfl, fun h => by cases h⟩
  · rw [if_pos (by omega)]; exact ⟨_, rfl, fun h => by cases h⟩
end Go.Proofs.YtgmmngipnjmkfaaGreatDoor.Pure
end
section
namespace Go.Proofs.YtgmmngipnjmkfaaGreatDoor.PureL
open Go.RowKit Go.Proofs.YtgmmngipnjmkfaaGreatDoor.Hand Go.Proofs.YtgmmngipnjmkfaaGreatDoor.Q Go.Proofs.YtgmmngipnjmkfaaGreatDoorW.PrintWords Go.Proofs.YtgmmngipnjmkfaaGreatDoorW.PrintLast Go.Proofs.YtgmmngipnjmkfaaGreatDoorW.PrintMore
theorem mono_le {α : Type} {f : Nat → Option α} (h : ∀ k, LeO (f k) (f (k + 1))) {a b : Nat} (hab : a ≤ b) {r : α} (ha : f a = some r) : f b = some r := by
  obtain ⟨d, rfl⟩ := Nat.exists_eq_add_of_le hab
  clear hab
  induction d with
  | zero => exact ha
  | succ d ih => exact h _ _ ih
theorem alive_500 : zaz.f 500 = some true := by kernel_rfl
theorem alive_any (k : Nat) (hk : 500 ≤ k) : zaz.f k = some true := mono_le zaz.mono hk alive_500
end Go.Proofs.YtgmmngipnjmkfaaGreatDoor.PureL
end
section
namespace Go.Proofs.YtgmmngipnjmkfaaGreatDoor.PureL
set_option linter.unusedVariables false
open Go.RowKit Go.Proofs.YtgmmngipnjmkfaaGreatDoor.Hand Go.Proofs.YtgmmngipnjmkfaaGreatDoor.Q Go.Proofs.YtgmmngipnjmkfaaGreatDoorW.PrintWords Go.Proofs.YtgmmngipnjmkfaaGreatDoorW.PrintLast Go.Proofs.YtgmmngipnjmkfaaGreatDoorW.PrintMore
open Go.Proofs.YtgmmngipnjmkfaaGreatDoor.Pure (Tr tbytes tk pt Nd Sim chk)
theorem eqL_app : ∀ (a b c d : List Nd), a.length = b.length → eqL (a ++ c) (b ++ d) = (eqL a b && eqL c d)
  | [], [], c, d, _ => by simp [eqL]
  | [], _ :: _, _, _, h => by cases h
  | _ :: _, [], _, _, h => by cases h
  | x :: xs, y :: ys, c, d, h => by
    show (eqN x y && eqL (xs ++ c) (ys ++ d)) = ((eqN x y && eqL xs ys) && eqL c d)
    rw [eqL_app xs ys c d (by simpa using h), Bool.and_assoc]
theorem eqN_refl (k n a b p q : Int) : eqL [(⟨k, n, a, b, p⟩ : Nd)] [⟨k, n, a, b, q⟩] = true := by simp [eqL, eqN]
theorem sim_eqL : ∀ {t t' : Tr}, Sim t t' → ∀ o, eqL (t.flat o) (t'.flat o) = true
  | .leaf .., .leaf .., h, o => by obtain ⟨rfl, rfl⟩ := h; exact eqN_refl ..
  | .un k p a, .un k' p' a', h, o => by
    obtain ⟨rfl, hs⟩ := h
    simp only [Tr.flat]
    rw [eqL_app _ _ _ _ (by rw [Tr.zcb, Tr.zcb, hs.size]), sim_eqL hs o, hs.size, Bool.true_and]
    exact eqN_refl ..
  | .bin k p a b, .bin k' p' a' b', h, o => by
    obtain ⟨rfl, hs, ht⟩ := h
    simp only [Tr.flat]
    rw [hs.size, ht.size, eqL_app _ _ _ _ (by rw [Tr.zcb, Tr.zcb, hs.size]), sim_eqL hs o, eqL_app _ _ _ _ (by rw [Tr.zcb, Tr.zcb, ht.size]), sim_eqL ht, Bool.true_and, Bool.true_and]
    exact eqN_refl ..
  | .leaf .., .un .., h, _ => h.elim
  | .leaf .., .bin .., h, _ => h.elim
  | .un .., .leaf .., h, _ => h.elim
  | .un .., .bin .., h, _ => h.elim
  | .bin .., .leaf .., h, _ => h.elim
  | .bin .., .un .., h, _ => h.elim
theorem ck_ok {t : Tr} (h : t.ok) : zbp.f (t.flat 0) = some 0 := by rw [ck_eq, Pure.chk_ok h]
theorem nsame_f {t t' : Tr} (h : t.ok) (h' : t'.ok) (hs : Sim t t') : zcm.f (t.flat 0) (t'.flat 0) = some (true, 0) := by
  unfold zcm.f
  rw [ck_ok h, ck_ok h']
  simp only [Option.bind_some]
  rw [if_pos trivial, if_pos trivial, sim_eqL hs 0]
theorem flat_f1 : ∀ (t : Tr), t.WF → ∀ (o : Nat), ∀ x ∈ t.flat o, x.f1 ≤ 9223372036854775807
  | .leaf k n p, h, o, x, hx => by
    obtain ⟨_, _, _, h4, _⟩ := h
    simp only [Tr.flat, List.mem_singleton] at hx
    subst hx; exact h4
  | .un k p a, h, o, x, hx => by
    simp only [Tr.flat, List.mem_append, List.mem_singleton] at hx
    rcases hx with hx | rfl
    · exact flat_f1 a h.2.2.2 o x hx
    · show (0 : Int) ≤ _; decide
  | .bin k p a b, h, o, x, hx => by
    simp only [Tr.flat, List.mem_append, List.mem_singleton] at hx
    rcases hx with hx | hx | rfl
    · exact flat_f1 a h.2.2.2.2.1 o x hx
    · exact flat_f1 b h.2.2.2.2.2 _ x hx
    · show (0 : Int) ≤ _; decide
theorem text_tree {t : Tr} (h : t.ok) : zcl.f (t.flat 0) = some (ba (tbytes t false), 0) := by
  have hz := h.2.1
  have hp := t.size_pos
  unfold zcl.f
  rw [ck_ok h]
  simp only [Option.bind_some]
  rw [if_pos trivial, t.zcb, zco (by omega) (by omega)]
  unfold zc8.f
  rw [if_pos ⟨Pure.chk_ok h, List.all_eq_true.2 fun x hx => decide_eq_true (flat_f1 t h.1 0 x hx), by rw [t.zcb]⟩]
  have e := Pure.zeh t h.1 61 _ 0 false (by have := h.2.2; omega) (Pure.lies_root t)
  rw [Nat.zero_add] at e
  rw [e]; rfl
theorem plT_wf {L : List Tk} (hL : Good L) : ∀ (t : Tr), t.WF → ∀ a, (plT L t a).WF := by
  have hP : ∀ i, 0 ≤ Pure.posAt (CL L) i ∧ Pure.posAt (CL L) i ≤ 400 := fun i => by
    unfold Pure.posAt CL
    rw [List.getElem?_map]
    cases hi : L[i]? with
    | none => exact ⟨Int.le_refl _, by show (0 : Int) ≤ 400; decide⟩
    | some x =>
      obtain ⟨_, h2, h3, _⟩ := hL.tok x (List.mem_of_getElem? hi)
      show 0 ≤ (cT x).p ∧ (cT x).p ≤ 400
      rw [cT_p]; exact ⟨h2, h3⟩
  intro t
  induction t with
  | leaf k n p => intro h a; obtain ⟨h1, h2, h3, h4, h5, _⟩ := h; exact ⟨h1, h2, h3, h4, h5, (hP _).1, (hP _).2⟩
  | un k p x ih => intro h a; exact ⟨h.1, (hP _).1, (hP _).2, ih h.2.2.2 _⟩
  | bin k p x y ihx ihy => intro h a; exact ⟨h.1, h.2.1, (hP _).1, (hP _).2, ihx h.2.2.2.2.1 _, ihy h.2.2.2.2.2 _⟩
theorem plT_ok {L : List Tk} (hL : Good L) {t : Tr} (h : t.ok) (a : Nat) : (plT L t a).ok := ⟨plT_wf hL t h.1 a, by rw [(plT_sim L t a).size]; exact h.2.1, by rw [(plT_sim L t a).depth]; exact h.2.2⟩
end Go.Proofs.YtgmmngipnjmkfaaGreatDoor.PureL
end
section
namespace Go.Proofs.YtgmmngipnjmkfaaGreatDoor.Q
open Go.Proofs.YtgmmngipnjmkfaaGreatDoor.Hand
open Go.RowKit Go.Proofs.YtgmmngipnjmkfaaGreatDoorW.PrintWords Go.Proofs.YtgmmngipnjmkfaaGreatDoorW.PrintLast Go.Proofs.YtgmmngipnjmkfaaGreatDoorW.PrintMore
attribute [local go_sem] zcy zcz zdb zdc zcp zcq zc0 zc1
set_option linter.unusedVariables false
set_option linter.unusedSimpArgs false
theorem eqA43 (d : Nat) (w : World) (x0 y0 : Int) (x1 y1 : Int) (x2 y2 : Int) (x3 y3 : Int) (x4 y4 : Int) :
    (Op.equalIn (d + 2) 43 (.agg #[.int .u8 x0, .int .i64 x1, .int .i64 x2, .int .i64 x3, .int .i64 x4]) (.agg #[.int .u8 y0, .int .i64 y1, .int .i64 y2, .int .i64 y3, .int .i64 y4])).run Tryz.prog w = .ok (x0 == y0 && (x1 == y1 && (x2 == y2 && (x3 == y3 && (x4 == y4))))) w := by
  refine eqA_of Tryz.underlying43 (by kernel_rfl) ?_
  refine zeb (by rfl) (by go_simp; rfl) (by go_simp; rfl) (by go_simp) ?_
  refine zeb (by rfl) (by go_simp; rfl) (by go_simp; rfl) (by go_simp) ?_
  refine zeb (by rfl) (by go_simp; rfl) (by go_simp; rfl) (by go_simp) ?_
  refine zeb (by rfl) (by go_simp; rfl) (by go_simp; rfl) (by go_simp) ?_
  exact eqf_last (by rfl) (by go_simp; rfl) (by go_simp; rfl) (by go_simp)
end Go.Proofs.YtgmmngipnjmkfaaGreatDoor.Q
end
section
namespace Go.Proofs.YtgmmngipnjmkfaaGreatDoor.Q
open Go.Proofs.YtgmmngipnjmkfaaGreatDoor.Hand
open Go.RowKit Go.Proofs.YtgmmngipnjmkfaaGreatDoorW.PrintWords Go.Proofs.YtgmmngipnjmkfaaGreatDoorW.PrintLast Go.Proofs.YtgmmngipnjmkfaaGreatDoorW.PrintMore
attribute [local go_sem] zcy zcz zdb zdc zcp zcq zc0 zc1
set_option linter.unusedVariables false
set_option linter.unusedSimpArgs false
attribute [local go_sem high] eqA43
def za7.l0 : Nat → List (S43) → List (S43) → Int → Option (Bool)
  | 0, _, _, _ => none
  | k + 1, x0, x1, x5 => if x5 < (x0.length : Int) then (if 0 ≤ x5 then (if x5 < (x1.length : Int) then (if (!(((za0 x0 x5).f0) == ((za0 x1 x5).f0)) || (!(((za0 x0 x5).f1) == ((za0 x1 x5).f1)) || (!(((za0 x0 x5).f2) == ((za0 x1 x5).f2)) || (!(((za0 x0 x5).f3) == ((za0 x1 x5).f3)) || (!(((za0 x0 x5).f4) == ((za0 x1 x5).f4))))))) = true then (some false) else (za7.l0 k x0 x1 (wrap64 (x5 + 1)))) else (none)) else (none)) else (some true)
def za7.f (k : Nat) (l0 : List (S43)) (l1 : List (S43)) : Option (Bool) := if (l0.length : Int) = (l1.length : Int) then (za7.l0 k l0 l1 0) else (some false)
set_option maxHeartbeats 8000000 in
set_option maxRecDepth 100000 in
theorem za7.calls (k : Nat) (A0 : Option Addr) (c0 : Nat) (l0 : List (S43)) (A1 : Option Addr) (c1 : Nat) (l1 : List (S43)) (r : Bool) (w : World) (hr0 : Kd.C k43 w A0 l0.length l0) (hc0 : l0.length ≤ c0) (hr1 : Kd.C k43 w A1 l1.length l1) (hc1 : l1.length ≤ c1) (h : za7.f k l0 l1 = some r) :
 Calls Tryz.prog 20 #[.slice A0 l0.length c0, .slice A1 l1.length c1] w fun e w' => e = .returned (.bool r) ∧ Drawn0 w w' := by
 have hu43 := Tryz.underlying43
 have HR0 := zad.mk hr0
 have HC0 := zad.mk hc0
 clear hr0 hc0
 have HR1 := zad.mk hr1
 have HC1 := zad.mk hc1
 clear hr1 hc1
 have H : (if (l0.length : Int) = (l1.length : Int) then (za7.l0 k l0 l1 0) else (some false)) = some r := h
 clear h
 by_cases c3 : (l0.length : Int) = (l1.length : Int)
 ·rw [if_pos c3] at H
  have c3b0 : ((l0.length : Int) == (l1.length : Int)) = true := beq_iff_eq.mpr c3
  have c3b1 : ((l0.length : Int) != (l1.length : Int)) = false := bne_eq_false_iff_eq.mpr c3
  have c3b2 : (l0.length == l1.length) = true := by first | simpa using c3 | (simp at c3 ⊢; omega)
  clear c3
  have H' := zad.mk H
  clear H
  go_enter Tryz.func20, Tryz.ntmps20
  go_wp2
  repeat (go_quiet (fail); try go_wp2)
  go_loopg [5] k (fun kq v5 w' => ∃ (x5_1 : Int), v5 = .int .i64 x5_1 ∧ zad (za7.l0 kq l0 l1 x5_1 = some r) ∧ zad (kq ≤ k) ∧ Drawn0 w w')
  case atStart => exact ⟨(0), (by first | rfl | (simp; done) | (simp [*]; done)), H', ⟨Nat.le_refl _⟩, by repeat (first | exact Drawn0.refl _ | apply Drawn0.step)⟩
  case round =>
   clear H'
   try clear c1
   try clear c2
   try clear p2
   try clear c3
   try clear c3b0
   try clear c3b1
   try clear c3b2
   obtain ⟨x5_1, rfl, HA, HK1, ⟨m1, rfl⟩⟩ := hrel
   cases gk with
   | zero => exact absurd HA.out (by simp [za7.l0])
   | succ k1 =>
    have H := HA.out
    clear HA
    simp only [za7.l0] at H
    by_cases c4 : x5_1 < (l0.length : Int)
    ·rw [if_pos c4] at H
     have c4b0 : decide (x5_1 < (l0.length : Int)) = true := decide_eq_true c4
     clear c4
     by_cases c5 : 0 ≤ x5_1
     ·rw [if_pos c5] at H
      have c5b0 : decide (0 ≤ x5_1) = true := decide_eq_true c5
      clear c5
      by_cases c6 : x5_1 < (l1.length : Int)
      ·rw [if_pos c6] at H
       have c6b0 : decide (x5_1 < (l1.length : Int)) = true := decide_eq_true c6
       clear c6
       by_cases c7 : (!(((za0 l0 x5_1).f0) == ((za0 l1 x5_1).f0)) || (!(((za0 l0 x5_1).f1) == ((za0 l1 x5_1).f1)) || (!(((za0 l0 x5_1).f2) == ((za0 l1 x5_1).f2)) || (!(((za0 l0 x5_1).f3) == ((za0 l1 x5_1).f3)) || (!(((za0 l0 x5_1).f4) == ((za0 l1 x5_1).f4))))))) = true
       ·rw [if_pos c7] at H
        have c7b0 : (!(((za0 l0 x5_1).f0) == ((za0 l1 x5_1).f0)) || (!(((za0 l0 x5_1).f1) == ((za0 l1 x5_1).f1)) || (!(((za0 l0 x5_1).f2) == ((za0 l1 x5_1).f2)) || (!(((za0 l0 x5_1).f3) == ((za0 l1 x5_1).f3)) || (!(((za0 l0 x5_1).f4) == ((za0 l1 x5_1).f4))))))) = true := c7
        clear c7
        obtain rfl := Option.some.inj H
        have p405 : 0 ≤ (x5_1 : Int) := of_decide_eq_true (by first | (with_reducible assumption) | assumption)
        have q405 : x5_1 < (l0.length : Int) := of_decide_eq_true (by first | (with_reducible assumption) | assumption)
        obtain ⟨ad405, e405, hx405_0, hx405_1, hx405_2, hx405_3, hx405_4⟩ := zds HR0.out x5_1 p405 q405
        cases e405
        replace p405 := eq_true p405
        replace q405 := eq_true q405
        have p406 : 0 ≤ (x5_1 : Int) := of_decide_eq_true (by first | (with_reducible assumption) | assumption)
        have q406 : x5_1 < (l1.length : Int) := of_decide_eq_true (by first | (with_reducible assumption) | assumption)
        obtain ⟨ad406, e406, hx406_0, hx406_1, hx406_2, hx406_3, hx406_4⟩ := zds HR1.out x5_1 p406 q406
        cases e406
        replace p406 := eq_true p406
        replace q406 := eq_true q406
        go_wp2
        repeat (go_quiet (fail); try go_wp2)
        go_ret
        exact ⟨by first | rfl | (simp; done) | (simp [*]; done), by repeat (first | exact Drawn0.refl _ | apply Drawn0.step)⟩
       ·rw [if_neg c7] at H
        have c7b0 : (!(((za0 l0 x5_1).f0) == ((za0 l1 x5_1).f0)) || (!(((za0 l0 x5_1).f1) == ((za0 l1 x5_1).f1)) || (!(((za0 l0 x5_1).f2) == ((za0 l1 x5_1).f2)) || (!(((za0 l0 x5_1).f3) == ((za0 l1 x5_1).f3)) || (!(((za0 l0 x5_1).f4) == ((za0 l1 x5_1).f4))))))) = false := by simpa using c7
        clear c7
        have H' := zad.mk H
        clear H
        have p405 : 0 ≤ (x5_1 : Int) := of_decide_eq_true (by first | (with_reducible assumption) | assumption)
        have q405 : x5_1 < (l0.length : Int) := of_decide_eq_true (by first | (with_reducible assumption) | assumption)
        obtain ⟨ad405, e405, hx405_0, hx405_1, hx405_2, hx405_3, hx405_4⟩ := zds HR0.out x5_1 p405 q405
        cases e405
        replace p405 := eq_true p405
        replace q405 := eq_true q405
        have p406 : 0 ≤ (x5_1 : Int) := of_decide_eq_true (by first | (with_reducible assumption) | assumption)
        have q406 : x5_1 < (l1.length : Int) := of_decide_eq_true (by first | (with_reducible assumption) | assumption)
        obtain ⟨ad406, e406, hx406_0, hx406_1, hx406_2, hx406_3, hx406_4⟩ := zds HR1.out x5_1 p406 q406
        cases e406
        replace p406 := eq_true p406
        replace q406 := eq_true q406
        go_wp2
        repeat (go_quiet (fail); try go_wp2)
        go_roundg k1
        case measure => have := HK1.out; omega
        case rel => exact ⟨(wrap64 (x5_1 + 1)), (by first | rfl | (simp; done) | (simp [*]; done)), H', ⟨by have := HK1.out; omega⟩, by repeat (first | exact Drawn0.refl _ | apply Drawn0.step)⟩
      ·rw [if_neg c6] at H
       exact absurd H (by simp)
     ·rw [if_neg c5] at H
      exact absurd H (by simp)
    ·rw [if_neg c4] at H
     have c4b0 : decide (x5_1 < (l0.length : Int)) = false := decide_eq_false c4
     clear c4
     obtain rfl := Option.some.inj H
     go_wp2
     repeat (go_quiet (fail); try go_wp2)
     go_ret
     exact ⟨by first | rfl | (simp; done) | (simp [*]; done), by repeat (first | exact Drawn0.refl _ | apply Drawn0.step)⟩
 ·rw [if_neg c3] at H
  have c3b0 : ((l0.length : Int) == (l1.length : Int)) = false := beq_eq_false_iff_ne.mpr c3
  have c3b1 : ((l0.length : Int) != (l1.length : Int)) = true := bne_iff_ne.mpr c3
  have c3b2 : (l0.length == l1.length) = false := by first | simpa using c3 | (simp at c3 ⊢; omega)
  obtain rfl := Option.some.inj H
  go_enter Tryz.func20, Tryz.ntmps20
  go_wp2
  repeat (go_quiet (fail); try go_wp2)
  go_ret
  exact ⟨by first | rfl | (simp; done) | (simp [*]; done), by repeat (first | exact Drawn0.refl _ | apply Drawn0.step)⟩
end Go.Proofs.YtgmmngipnjmkfaaGreatDoor.Q
end
section
namespace Go.Proofs.YtgmmngipnjmkfaaGreatDoor.PureL
set_option linter.unusedVariables false
open Go.RowKit Go.Proofs.YtgmmngipnjmkfaaGreatDoor.Hand Go.Proofs.YtgmmngipnjmkfaaGreatDoor.Q Go.Proofs.YtgmmngipnjmkfaaGreatDoorW.PrintWords Go.Proofs.YtgmmngipnjmkfaaGreatDoorW.PrintLast Go.Proofs.YtgmmngipnjmkfaaGreatDoorW.PrintMore
open Go.Proofs.YtgmmngipnjmkfaaGreatDoor.Pure (Nd)
theorem asked_l0 (L : List Tk) (hl : L.length ≤ 200) (hs : ∀ t ∈ L, t.f1.size ≤ 140737488351232) (at_ : Int) (d : Nat) : ∀ (k i : Nat), L.length - i = d → i ≤ L.length → 2 * d + 300000000000000 < k →
    ∃ c, zax.l0 k L at_ (i : Int) = some c ∧ (c = 0 → (∀ t ∈ L.drop i, chkT t = 0 ∧ 0 ≤ t.f2 ∧ t.f2 ≤ 400 ∧ t.f1.size ≤ 140737488351232) ∧ 0 ≤ at_ ∧ at_ ≤ (L.length : Int)) := by
  induction d with
  | zero =>
    intro k i hd hi hk
    obtain ⟨k, rfl⟩ : ∃ m, k = m + 1 := ⟨k - 1, by omega⟩
    simp only [zax.l0]
    rw [if_neg (by omega)]
    by_cases h1 : at_ < 0
    · rw [if_pos h1]; exact ⟨_, rfl, fun h => by cases h⟩
    · rw [if_neg h1]
      by_cases h2 : at_ > (L.length : Int)
      · rw [if_pos h2]; exact ⟨_, rfl, fun h => by cases h⟩
      · rw [if_neg h2]
        exact ⟨_, rfl, fun _ => ⟨fun t ht => (by rw [List.drop_of_length_le (by omega)] at ht; cases ht), by omega, by omega⟩⟩
  | succ d ih =>
    intro k i hd hi hk
    obtain ⟨k, rfl⟩ : ∃ m, k = m + 1 := ⟨k - 1, by omega⟩
    obtain ⟨k, rfl⟩ : ∃ m, k = m + 1 := ⟨k - 1, by omega⟩
    have hlt : i < L.length := by omega
    have hz := hs L[i] (List.getElem_mem hlt)
    have hv := valid_f (k + 1) L[i].f0 L[i].f1 L[i].f2 (by omega) hz
    have hw : wrap64 ((i : Int) + 1) = ((i + 1 : Nat) : Int) := by clear ih hv; unfold wrap64; omega
    have hj : ∀ b, zax.j1 (k + 1) L at_ (i : Int) b = if b = true then some 8 else zax.l0 k L at_ ((i + 1 : Nat) : Int) := fun b => by
      simp only [zax.j1]; rw [hw]
    simp only [zax.l0]
    rw [if_pos (by omega), if_pos (by omega), rd_get L i hlt, hv, Option.bind_some, hj, hj]
    by_cases c0 : chk L[i].f0 L[i].f1.data.toList = 0
    · rw [decide_eq_true c0, if_pos rfl]
      by_cases c1 : L[i].f2 < 0
      · rw [if_pos c1, if_pos rfl]; exact ⟨_, rfl, fun h => by cases h⟩
      · rw [if_neg c1]
        by_cases c2 : L[i].f2 > 400
        · rw [decide_eq_true c2, if_pos rfl]; exact ⟨_, rfl, fun h => by cases h⟩
        · rw [decide_eq_false c2, if_neg (by decide)]
          obtain ⟨c, hc, hf⟩ := ih k (i + 1) (by omega) (by omega) (by omega)
          refine ⟨c, hc, fun h => ⟨fun t ht => ?_, (hf h).2⟩⟩
          rw [List.drop_eq_getElem_cons hlt] at ht
          rcases List.mem_cons.1 ht with rfl | ht
          · exact ⟨c0, by omega, by omega, hz⟩
          · exact (hf h).1 t ht
    · rw [decide_eq_false c0, if_neg (by decide), if_pos rfl]; exact ⟨_, rfl, fun h => by cases h⟩
theorem asked_f (L : List Tk) (hs : ∀ t ∈ L, t.f1.size ≤ 140737488351232) (at_ : Int) (k : Nat) (hk : 300000000000401 ≤ k) :
    ∃ c, zax.f k L at_ = some c ∧ (c = 0 → Good L ∧ 0 ≤ at_ ∧ at_ ≤ (L.length : Int)) := by
  unfold zax.f
  by_cases h : (L.length : Int) > 200
  · rw [if_pos h]; exact ⟨_, rfl, fun h => by cases h⟩
  · rw [if_neg h]
    obtain ⟨c, hc, hf⟩ := asked_l0 L (by omega) hs at_ L.length k 0 (by omega) (by omega) (by omega)
    exact ⟨c, hc, fun h0 => ⟨⟨by omega, (hf h0).1⟩, (hf h0).2⟩⟩
theorem equal_l0 (l : List Nd) (hl : l.length ≤ 1000) (d : Nat) : ∀ (k i : Nat), l.length - i = d → i ≤ l.length → d < k → za7.l0 k l l (i : Int) = some true := by
  induction d with
  | zero =>
    intro k i hd hi hk
    obtain ⟨k, rfl⟩ : ∃ m, k = m + 1 := ⟨k - 1, by omega⟩
    simp only [za7.l0]; rw [if_neg (by omega)]
  | succ d ih =>
    intro k i hd hi hk
    obtain ⟨k, rfl⟩ : ∃ m, k = m + 1 := ⟨k - 1, by omega⟩
    have hih := ih k (i + 1) (by omega) (by omega) (by omega)
    have hw : wrap64 ((i : Int) + 1) = ((i + 1 : Nat) : Int) := by clear ih hih; unfold wrap64; omega
    simp only [za7.l0]
    rw [if_pos (by omega), if_pos (by omega), if_pos (by omega)]
    simp only [beq_self_eq_true, Bool.not_true, Bool.or_false]
    rw [if_neg (by decide), hw]
    exact hih
theorem equal_f (l : List Nd) (hl : l.length ≤ 1000) (k : Nat) (hk : 1001 ≤ k) : za7.f k l l = some true := by
  unfold za7.f
  rw [if_pos rfl]
  exact equal_l0 l hl l.length k 0 (by omega) (by omega) (by omega)
end Go.Proofs.YtgmmngipnjmkfaaGreatDoor.PureL
end
