/- Lemmas of the proof (cut to what it uses, by wip/trim.py). -/
import Derived.Lib.ItoaNum
import Derived.Deep.RegionHeld3
import Derived.Shelf.Strconv.Itoa4
import Derived.Test.YtgmmngipnjmkfaaGreatDoorProg
import Derived.Test.YtgmmngipnjmkfaaGreatDoorEb3
import Derived.Test.YtgmmngipnjmkfaaGreatDoorEb4
import Derived.Test.YtgmmngipnjmkfaaGreatDoorEb7
section
namespace Go.Proofs.YtgmmngipnjmkfaaGreatDoor.Q
open Go.Proofs.YtgmmngipnjmkfaaGreatDoor.Hand
open Go.RowKit Go.Proofs.YtgmmngipnjmkfaaGreatDoorW.PrintWords Go.Proofs.YtgmmngipnjmkfaaGreatDoorW.PrintLast Go.Proofs.YtgmmngipnjmkfaaGreatDoorW.PrintMore
attribute [local go_sem] max2_int min2_int max_two min_two max_three min_three max_four min_four
set_option linter.unusedVariables false
set_option linter.unusedSimpArgs false
def IsS64 (w0 W : World) (g : Nat) (f0 : List (S33)) (f1 : Int) (f2 : Int) : Prop := ∃ A0 c0, W.heap[g]? = some (.cells #[.slice A0 f0.length c0, .int .i64 f1, .int .i64 f2] 64 (0, 0)) ∧ w0.heap.size ≤ g ∧ Kd.C k33 w0 A0 f0.length f0
theorem IsS64.grown {w0 W : World} {g : Nat} {f0 : List (S33)} {f1 : Int} {f2 : Int} {W1 : World} {row : Option Nat} (h : IsS64 w0 W g f0 f1 f2) (hw : W.grownBy W1 row) (hne : some g ≠ row) : IsS64 w0 W1 g f0 f1 f2 := by
  obtain ⟨A0, c0, hb, hg, hr0⟩ := h
  exact ⟨A0, c0, blk_grown hb hw hne, hg, hr0⟩
theorem IsS64.kept {w0 W : World} {g : Nat} {f0 : List (S33)} {f1 : Int} {f2 : Int} {W1 : World} {S : Nat → Prop} (h : IsS64 w0 W g f0 f1 f2) (hk : Kept W W1 S) (hne : ¬ S g) : IsS64 w0 W1 g f0 f1 f2 := by
  obtain ⟨A0, c0, hb, hg, hr0⟩ := h
  exact ⟨A0, c0, blk_kept hb hk hne, hg, hr0⟩
theorem IsS64.below {w0 W : World} {g : Nat} {f0 : List (S33)} {f1 : Int} {f2 : Int} {W1 : World} (h : IsS64 w0 W g f0 f1 f2) (hw : Below W.heap.size W W1) : IsS64 w0 W1 g f0 f1 f2 := h.grown (grown_of_below hw none) (by simp)
theorem IsS64.alloc {w0 W : World} {g : Nat} {f0 : List (S33)} {f1 : Int} {f2 : Int} (h : IsS64 w0 W g f0 f1 f2) (o : Obj) : IsS64 w0 (W.alloc o) g f0 f1 f2 := h.below (below_alloc (Below.refl _ _) o)
theorem IsS64.drewN {w0 W : World} {g : Nat} {f0 : List (S33)} {f1 : Int} {f2 : Int} (h : IsS64 w0 W g f0 f1 f2) (m : Nat) : IsS64 w0 (W.drewN m) g f0 f1 f2 := h
theorem IsS64.drew {w0 W : World} {g : Nat} {f0 : List (S33)} {f1 : Int} {f2 : Int} (h : IsS64 w0 W g f0 f1 f2) : IsS64 w0 W.drew g f0 f1 f2 := h
theorem IsS64.at_ {w0 W : World} {g : Nat} {f0 : List (S33)} {f1 : Int} {f2 : Int} {w' : World} {m : Nat} (hq : W.drewN m = w') (h : IsS64 w0 W g f0 f1 f2) : IsS64 w0 w' g f0 f1 f2 := by subst hq; exact IsS64.drewN h m
theorem IsS64.apart {w0 W : World} {g : Nat} {f0 : List (S33)} {f1 : Int} {f2 : Int} {α : Type} {d : Kd α} {e : Nat} {base : Nat} {ok : Nat → Prop} {v : Value} {xs : List α} (h : IsS64 w0 W g f0 f1 f2) (ho : d.R e W base ok v xs) (ht : ∀ q, q ∈ e :: d.E → q ≠ 64) : d.R e W base (fun k => ok k ∧ k ≠ g) v xs := by
  obtain ⟨A0, c0, hb, hg, hr0⟩ := h
  exact Kd.R_types ho hb ht
theorem IsS64.own_ne {w0 W : World} {g : Nat} {f0 : List (S33)} {f1 : Int} {f2 : Int} {α : Type} {d : Kd α} {e : Nat} {base : Nat} {ok : Nat → Prop} {v : Value} {xs : List α} (h : IsS64 w0 W g f0 f1 f2) (ho : d.R e W base ok v xs) (ht : e ≠ 64) : some g ≠ v.ownBlock := by
  obtain ⟨A0, c0, hb, hg, hr0⟩ := h
  exact Kd.R_ne ho hb ht
theorem IsS64.lt {w0 W : World} {g : Nat} {f0 : List (S33)} {f1 : Int} {f2 : Int} (h : IsS64 w0 W g f0 f1 f2) : g < W.heap.size := by
  obtain ⟨A0, c0, hb, hg, hr0⟩ := h
  exact blk_lt hb
theorem IsS64.ge {w0 W : World} {g : Nat} {f0 : List (S33)} {f1 : Int} {f2 : Int} (h : IsS64 w0 W g f0 f1 f2) : w0.heap.size ≤ g := by
  obtain ⟨A0, c0, hb, hg, hr0⟩ := h
  exact hg
theorem cellS64_0 {W : World} {g : Nat} {A0 : Option Addr} {c0 : Nat} {f0 : List (S33)} {f1 : Int} {f2 : Int} (h : W.heap[g]? = some (.cells #[.slice A0 f0.length c0, .int .i64 f1, .int .i64 f2] 64 (0, 0))) : W.cell? ⟨g, 0, none⟩ = some (.slice A0 f0.length c0) := (blk_cell h 0).trans rfl
theorem cellS64_1 {W : World} {g : Nat} {A0 : Option Addr} {c0 : Nat} {f0 : List (S33)} {f1 : Int} {f2 : Int} (h : W.heap[g]? = some (.cells #[.slice A0 f0.length c0, .int .i64 f1, .int .i64 f2] 64 (0, 0))) : W.cell? ⟨g, 1, none⟩ = some (.int .i64 f1) := (blk_cell h 1).trans rfl
theorem IsS64.set_1 {w0 W : World} {g : Nat} {f0 : List (S33)} {f1 : Int} {f2 : Int} (h : IsS64 w0 W g f0 f1 f2) (x : Int) : IsS64 w0 (W.setCell ⟨g, 1, none⟩ (.int .i64 x)) g f0 x f2 := by
  obtain ⟨A0, c0, hb, hg, hr0⟩ := h
  exact ⟨A0, c0, by simpa using blk_set hb 1 (.int .i64 x), hg, hr0⟩
theorem cellS64_2 {W : World} {g : Nat} {A0 : Option Addr} {c0 : Nat} {f0 : List (S33)} {f1 : Int} {f2 : Int} (h : W.heap[g]? = some (.cells #[.slice A0 f0.length c0, .int .i64 f1, .int .i64 f2] 64 (0, 0))) : W.cell? ⟨g, 2, none⟩ = some (.int .i64 f2) := (blk_cell h 2).trans rfl
theorem IsS64.set_2 {w0 W : World} {g : Nat} {f0 : List (S33)} {f1 : Int} {f2 : Int} (h : IsS64 w0 W g f0 f1 f2) (x : Int) : IsS64 w0 (W.setCell ⟨g, 2, none⟩ (.int .i64 x)) g f0 f1 x := by
  obtain ⟨A0, c0, hb, hg, hr0⟩ := h
  exact ⟨A0, c0, by simpa using blk_set hb 2 (.int .i64 x), hg, hr0⟩
theorem IsS64.new (w0 W : World) (A0 : Option Addr) (c0 : Nat) (f0 : List (S33)) (f1 : Int) (f2 : Int) (hB : Below w0.heap.size w0 W) (hr0 : Kd.C k33 w0 A0 f0.length f0) : IsS64 w0 (W.alloc (.cells #[.slice A0 f0.length c0, .int .i64 f1, .int .i64 f2] 64)) W.heap.size f0 f1 f2 := ⟨A0, c0, by simpa using heap_alloc_new W _, hB.size, hr0⟩
def exprs_parser_make.f (k : Nat) (s0_0 : List (S33)) (s0_1 : Int) (s0_2 : Int) (a1 : Int) (a2 : Int) (a3 : Int) (l4 : List (List (S43))) : Option ((List (S43)) × Int × Int) := if s0_2 = 0 then (if 0 ≤ a3 then (if a3 < (s0_0.length : Int) then ((nodes_Node.f k a1 a2 ((rd_T33 s0_0 a3).f2) l4).bind fun bt166 => (if bt166.2 = 0 then (some (bt166.1, s0_1, s0_2)) else (some (bt166.1, a3, bt166.2)))) else (none)) else (none)) else (some (([] : List (S43)), s0_1, s0_2))
set_option maxHeartbeats 8000000 in
set_option maxRecDepth 100000 in
theorem exprs_parser_make.calls (k : Nat) (g : Nat) (s0_0 : List (S33)) (s0_1 : Int) (s0_2 : Int) (a1 : Int) (a2 : Int) (a3 : Int) (A4 : Option Addr) (c4 : Nat) (l4 : List (List (S43))) (r1 : List (S43)) (r2 : Int) (r3 : Int) (w0 w : World) (hI : IsS64 w0 w g s0_0 s0_1 s0_2) (hB : Below w0.heap.size w0 w) (hr4 : ∀ W_, KeepBut w W_ g none → Kd.C (Kd.slice 43 k43) W_ A4 l4.length l4) (hc4 : l4.length ≤ c4) (h : exprs_parser_make.f k s0_0 s0_1 s0_2 a1 a2 a3 l4 = some (r1, r2, r3)) :
    Calls Tryz.prog 48 #[.pointer (some ⟨g, 0, none⟩), .int .u8 a1, .int .i64 a2, .int .i64 a3, .slice A4 l4.length c4] w fun e w' => ∃ v0_ : Value, e = .returned (v0_) ∧ Kd.R k43 43 w' w.heap.size (fun _ => True) v0_ r1 ∧ IsS64 w0 w' g s0_0 r2 r3 ∧ Below w0.heap.size w0 w' ∧ KeepBut w w' g none := by
  have HR4 := Aside0.mk hr4
  have HC4 := Aside0.mk hc4
  clear hr4 hc4
  have HI0 := Aside0.mk hI
  have HK := Aside0.mk (KeepBut.refl w g none)
  have HL := Aside0.mk hB.size
  clear hI
  have HW0 := Aside0.mk hB.size
  have HB := Aside0.mk hB
  clear hB
  have H : (if s0_2 = 0 then (if 0 ≤ a3 then (if a3 < (s0_0.length : Int) then ((nodes_Node.f k a1 a2 ((rd_T33 s0_0 a3).f2) l4).bind fun bt166 => (if bt166.2 = 0 then (some (bt166.1, s0_1, s0_2)) else (some (bt166.1, a3, bt166.2)))) else (none)) else (none)) else (some (([] : List (S43)), s0_1, s0_2))) = some (r1, r2, r3) := h
  clear h
  by_cases c6 : s0_2 = 0
  · rw [if_pos c6] at H
    have c6b0 : (s0_2 == 0) = true := beq_iff_eq.mpr c6
    have c6b1 : (s0_2 != 0) = false := bne_eq_false_iff_eq.mpr c6
    clear c6
    by_cases c7 : 0 ≤ a3
    · rw [if_pos c7] at H
      have c7b0 : decide (0 ≤ a3) = true := decide_eq_true c7
      clear c7
      by_cases c8 : a3 < (s0_0.length : Int)
      · rw [if_pos c8] at H
        have c8b0 : decide (a3 < (s0_0.length : Int)) = true := decide_eq_true c8
        clear c8
        replace H := Option.bind_eq_some_iff.mp H
        obtain ⟨⟨t166, t167⟩, A90, H⟩ := H
        replace H : (if t167 = 0 then (some (t166, s0_1, s0_2)) else (some (t166, a3, t167))) = some (r1, r2, r3) := H
        have A9 := Aside0.mk A90
        clear A90
        by_cases c10 : t167 = 0
        · rw [if_pos c10] at H
          have c10b0 : (t167 == 0) = true := beq_iff_eq.mpr c10
          have c10b1 : (t167 != 0) = false := bne_eq_false_iff_eq.mpr c10
          clear c10
          simp only [Option.some.injEq, Prod.mk.injEq] at H
          obtain ⟨rfl, rfl, rfl⟩ := H
          obtain ⟨ASz11_0, cSz11_0, HGz11, hgz11, HSz11_0⟩ := HI0.out
          have hcz11_0 := cellS64_0 HGz11
          have hcz11_1 := cellS64_1 HGz11
          have hcz11_2 := cellS64_2 HGz11
          have hfz11_1 := blk_frozen HGz11 1
          have hfz11_2 := blk_frozen HGz11 2
          clear HGz11 hgz11
          have p165 : 0 ≤ (a3 : Int) := of_decide_eq_true (by first | (with_reducible assumption) | assumption)
          have q165 : a3 < (s0_0.length : Int) := of_decide_eq_true (by first | (with_reducible assumption) | assumption)
          obtain ⟨ad165, e165, hx165_0, hx165_1, hx165_2⟩ := at_T33 HSz11_0 a3 p165 q165
          cases e165
          replace hx165_0 := pw_cell_below HB.out hx165_0
          replace hx165_1 := pw_cell_below HB.out hx165_1
          replace hx165_2 := pw_cell_below HB.out hx165_2
          replace p165 := eq_true p165
          replace q165 := eq_true q165
          go_enter Tryz.func48, Tryz.ntmps48
          go_wp2_with (first | ((with_reducible refine gate_callee (f := 23) rfl ?_); refine goesL_ (some 30) rfl rfl Tryz.func23 (by kernel_rfl) rfl #[.int .u8 a1, .int .i64 a2, .int .i64 ((rd_T33 s0_0 a3).f2), .slice A4 l4.length c4] rfl (by (try simp only [List.map_toArray, List.map_cons, List.map_nil]); first | done | rfl | (simp only [List.length_drop, List.length_take]; rfl)) ?_; (with_reducible refine (nodes_Node.calls k a1 a2 ((rd_T33 s0_0 a3).f2) _ _ l4 t166 t167 _ ?side1 ?side2 A9.out).mono ?_); (case side1 => exact Kd.C_foot_now HR4.out (by repeat (first | (with_reducible first | exact HK.out | apply KeepBut.set_ | apply keep_drewN | apply keep_drew | apply keep_alloc) | exact HK.out))); (case side2 => exact HC4.out); rintro e w12 ⟨v168, rfl, ho0, hb⟩; refine ⟨_, rfl, ?_⟩; have n0_ := Aside0.mk (Kd.R_lower ho0 (keep_size (w := w) (g := g) (row := none) (by repeat (first | (with_reducible first | exact HK.out | apply KeepBut.set_ | apply keep_drewN | apply keep_drew | apply keep_alloc) | exact HK.out)))); have n1_ := Aside0.mk (IsS64.below (by repeat (first | (with_reducible first | exact HI0.out | apply IsS64.alloc | apply IsS64.drewN | apply IsS64.drew | apply IsS64.set_1 | apply IsS64.set_2) | exact HI0.out)) hb); have n2_ := Aside0.mk (KeepBut.trans (by repeat (first | (with_reducible first | exact HK.out | apply KeepBut.set_ | apply keep_drewN | apply keep_drew | apply keep_alloc) | exact HK.out)) (KeepBut.of_below hb g none) (.inl rfl)); have n3_ := Aside0.mk (below_step (by repeat (first | (with_reducible first | exact HB.out | apply below_alloc | apply pw_below_drewN | apply below_drew1 | refine below_set ?_ (IsS64.ge HI0.out)) | exact HB.out)) hb); clear HI0; clear HK; clear HB; have HO169 := n0_; have HI0 := n1_; have HK := n2_; have HB := n3_; clear n0_ n1_ n2_ n3_; (try clear hb); (try clear hb2); (try clear hk); (try clear hi); (try clear ho0)))
          go_ret
          exact ⟨_, by first | rfl | (simp [errW_none, errW_some] <;> rfl) | (simp [*, errW_none, errW_some] <;> rfl), by (with_reducible repeat (first | apply Kd.R_alloc | apply Kd.R_drewN | apply Kd.R_drew)); exact HO169.out, by repeat (first | (with_reducible first | exact HI0.out | apply IsS64.alloc | apply IsS64.drewN | apply IsS64.drew | apply IsS64.set_1 | apply IsS64.set_2) | exact HI0.out), by repeat (first | (with_reducible first | exact HB.out | apply below_alloc | apply pw_below_drewN | apply below_drew1 | refine below_set ?_ (IsS64.ge HI0.out)) | exact HB.out), by repeat (first | (with_reducible first | exact HK.out | apply KeepBut.set_ | apply keep_drewN | apply keep_drew | apply keep_alloc) | exact HK.out)⟩
        · rw [if_neg c10] at H
          have c10b0 : (t167 == 0) = false := beq_eq_false_iff_ne.mpr c10
          have c10b1 : (t167 != 0) = true := bne_iff_ne.mpr c10
          simp only [Option.some.injEq, Prod.mk.injEq] at H
          obtain ⟨rfl, rfl, rfl⟩ := H
          obtain ⟨ASz13_0, cSz13_0, HGz13, hgz13, HSz13_0⟩ := HI0.out
          have hcz13_0 := cellS64_0 HGz13
          have hcz13_1 := cellS64_1 HGz13
          have hcz13_2 := cellS64_2 HGz13
          have hfz13_1 := blk_frozen HGz13 1
          have hfz13_2 := blk_frozen HGz13 2
          clear HGz13 hgz13
          have p165 : 0 ≤ (a3 : Int) := of_decide_eq_true (by first | (with_reducible assumption) | assumption)
          have q165 : a3 < (s0_0.length : Int) := of_decide_eq_true (by first | (with_reducible assumption) | assumption)
          obtain ⟨ad165, e165, hx165_0, hx165_1, hx165_2⟩ := at_T33 HSz13_0 a3 p165 q165
          cases e165
          replace hx165_0 := pw_cell_below HB.out hx165_0
          replace hx165_1 := pw_cell_below HB.out hx165_1
          replace hx165_2 := pw_cell_below HB.out hx165_2
          replace p165 := eq_true p165
          replace q165 := eq_true q165
          go_enter Tryz.func48, Tryz.ntmps48
          go_wp2_with (first | ((with_reducible refine gate_callee (f := 23) rfl ?_); refine goesL_ (some 30) rfl rfl Tryz.func23 (by kernel_rfl) rfl #[.int .u8 a1, .int .i64 a2, .int .i64 ((rd_T33 s0_0 a3).f2), .slice A4 l4.length c4] rfl (by (try simp only [List.map_toArray, List.map_cons, List.map_nil]); first | done | rfl | (simp only [List.length_drop, List.length_take]; rfl)) ?_; (with_reducible refine (nodes_Node.calls k a1 a2 ((rd_T33 s0_0 a3).f2) _ _ l4 t166 t167 _ ?side1 ?side2 A9.out).mono ?_); (case side1 => exact Kd.C_foot_now HR4.out (by repeat (first | (with_reducible first | exact HK.out | apply KeepBut.set_ | apply keep_drewN | apply keep_drew | apply keep_alloc) | exact HK.out))); (case side2 => exact HC4.out); rintro e w14 ⟨v168, rfl, ho0, hb⟩; refine ⟨_, rfl, ?_⟩; have n0_ := Aside0.mk (Kd.R_lower ho0 (keep_size (w := w) (g := g) (row := none) (by repeat (first | (with_reducible first | exact HK.out | apply KeepBut.set_ | apply keep_drewN | apply keep_drew | apply keep_alloc) | exact HK.out)))); have n1_ := Aside0.mk (IsS64.below (by repeat (first | (with_reducible first | exact HI0.out | apply IsS64.alloc | apply IsS64.drewN | apply IsS64.drew | apply IsS64.set_1 | apply IsS64.set_2) | exact HI0.out)) hb); have n2_ := Aside0.mk (KeepBut.trans (by repeat (first | (with_reducible first | exact HK.out | apply KeepBut.set_ | apply keep_drewN | apply keep_drew | apply keep_alloc) | exact HK.out)) (KeepBut.of_below hb g none) (.inl rfl)); have n3_ := Aside0.mk (below_step (by repeat (first | (with_reducible first | exact HB.out | apply below_alloc | apply pw_below_drewN | apply below_drew1 | refine below_set ?_ (IsS64.ge HI0.out)) | exact HB.out)) hb); clear HI0; clear HK; clear HB; have HO169 := n0_; have HI0 := n1_; have HK := n2_; have HB := n3_; clear n0_ n1_ n2_ n3_; (try clear hb); (try clear hb2); (try clear hk); (try clear hi); (try clear ho0); obtain ⟨ASz15_0, cSz15_0, HGz15, hgz15, HSz15_0⟩ := HI0.out; have hcz15_0 := cellS64_0 HGz15; have hcz15_1 := cellS64_1 HGz15; have hcz15_2 := cellS64_2 HGz15; have hfz15_1 := blk_frozen HGz15 1; have hfz15_2 := blk_frozen HGz15 2; clear HGz15 hgz15))
          go_ret
          exact ⟨_, by first | rfl | (simp [errW_none, errW_some] <;> rfl) | (simp [*, errW_none, errW_some] <;> rfl), by (with_reducible repeat (first | apply Kd.R_alloc | apply Kd.R_drewN | apply Kd.R_drew)); exact Kd.R_mono (Kd.R_far (p := ⟨g, 2, none⟩) (Kd.R_far (p := ⟨g, 1, none⟩) (IsS64.apart HI0.out HO169.out (by decide)) (fun _ hk => hk.2) (.int .i64 a3)) (fun _ hk => hk.2) (.int .i64 t167)) (fun _ hk => trivial), by repeat (first | (with_reducible first | exact HI0.out | apply IsS64.alloc | apply IsS64.drewN | apply IsS64.drew | apply IsS64.set_1 | apply IsS64.set_2) | exact HI0.out), by repeat (first | (with_reducible first | exact HB.out | apply below_alloc | apply pw_below_drewN | apply below_drew1 | refine below_set ?_ (IsS64.ge HI0.out)) | exact HB.out), by repeat (first | (with_reducible first | exact HK.out | apply KeepBut.set_ | apply keep_drewN | apply keep_drew | apply keep_alloc) | exact HK.out)⟩
      · rw [if_neg c8] at H
        exact absurd H (by simp)
    · rw [if_neg c7] at H
      exact absurd H (by simp)
  · rw [if_neg c6] at H
    have c6b0 : (s0_2 == 0) = false := beq_eq_false_iff_ne.mpr c6
    have c6b1 : (s0_2 != 0) = true := bne_iff_ne.mpr c6
    simp only [Option.some.injEq, Prod.mk.injEq] at H
    obtain ⟨rfl, rfl, rfl⟩ := H
    obtain ⟨ASz16_0, cSz16_0, HGz16, hgz16, HSz16_0⟩ := HI0.out
    have hcz16_0 := cellS64_0 HGz16
    have hcz16_1 := cellS64_1 HGz16
    have hcz16_2 := cellS64_2 HGz16
    have hfz16_1 := blk_frozen HGz16 1
    have hfz16_2 := blk_frozen HGz16 2
    clear HGz16 hgz16
    go_enter Tryz.func48, Tryz.ntmps48
    go_wp2
    go_ret
    exact ⟨_, by first | rfl | (simp [errW_none, errW_some] <;> rfl) | (simp [*, errW_none, errW_some] <;> rfl), by first | exact Kd.R_nil _ _ _ _ _ | exact Kd.N_nil _ _ _ _ _ | exact Kd.V_nil _ _ _ _ _ | exact Kd.Q_nil _ _ _ _ _ | exact Kd.S_nil _ _ _ _ _, by repeat (first | (with_reducible first | exact HI0.out | apply IsS64.alloc | apply IsS64.drewN | apply IsS64.drew | apply IsS64.set_1 | apply IsS64.set_2) | exact HI0.out), by repeat (first | (with_reducible first | exact HB.out | apply below_alloc | apply pw_below_drewN | apply below_drew1 | refine below_set ?_ (IsS64.ge HI0.out)) | exact HB.out), by repeat (first | (with_reducible first | exact HK.out | apply KeepBut.set_ | apply keep_drewN | apply keep_drew | apply keep_alloc) | exact HK.out)⟩
def exprs_parser_is.f (s0_0 : List (S33)) (s0_1 : Int) (s0_2 : Int) (a1 : ByteArray) : Option (Bool × Int × Int) := if s0_1 < (s0_0.length : Int) then (if 0 ≤ s0_1 then (if ((rd_T33 s0_0 s0_1).f0) = 1 then (some (false, s0_1, s0_2)) else (some ((((rd_T33 s0_0 s0_1).f1).toList == a1.toList), s0_1, s0_2))) else (none)) else (some (false, s0_1, s0_2))
set_option maxHeartbeats 8000000 in
set_option maxRecDepth 100000 in
theorem exprs_parser_is.calls (g : Nat) (s0_0 : List (S33)) (s0_1 : Int) (s0_2 : Int) (a1 : ByteArray) (r1 : Bool) (r2 : Int) (r3 : Int) (w0 w : World) (hI : IsS64 w0 w g s0_0 s0_1 s0_2) (hB : Below w0.heap.size w0 w) (h : exprs_parser_is.f s0_0 s0_1 s0_2 a1 = some (r1, r2, r3)) :
    Calls Tryz.prog 86 #[.pointer (some ⟨g, 0, none⟩), .string a1] w fun e w' => e = .returned (.bool r1) ∧ IsS64 w0 w' g s0_0 r2 r3 ∧ Below w0.heap.size w0 w' ∧ KeepBut w w' g none := by
  have HI0 := Aside0.mk hI
  have HK := Aside0.mk (KeepBut.refl w g none)
  have HL := Aside0.mk hB.size
  clear hI
  have HW0 := Aside0.mk hB.size
  have HB := Aside0.mk hB
  clear hB
  have H : (if s0_1 < (s0_0.length : Int) then (if 0 ≤ s0_1 then (if ((rd_T33 s0_0 s0_1).f0) = 1 then (some (false, s0_1, s0_2)) else (some ((((rd_T33 s0_0 s0_1).f1).toList == a1.toList), s0_1, s0_2))) else (none)) else (some (false, s0_1, s0_2))) = some (r1, r2, r3) := h
  clear h
  by_cases c3 : s0_1 < (s0_0.length : Int)
  · rw [if_pos c3] at H
    have c3b0 : decide (s0_1 < (s0_0.length : Int)) = true := decide_eq_true c3
    clear c3
    by_cases c4 : 0 ≤ s0_1
    · rw [if_pos c4] at H
      have c4b0 : decide (0 ≤ s0_1) = true := decide_eq_true c4
      clear c4
      by_cases c5 : ((rd_T33 s0_0 s0_1).f0) = 1
      · rw [if_pos c5] at H
        have c5b0 : (((rd_T33 s0_0 s0_1).f0) == 1) = true := beq_iff_eq.mpr c5
        have c5b1 : (((rd_T33 s0_0 s0_1).f0) != 1) = false := bne_eq_false_iff_eq.mpr c5
        clear c5
        simp only [Option.some.injEq, Prod.mk.injEq] at H
        obtain ⟨rfl, rfl, rfl⟩ := H
        obtain ⟨ASz6_0, cSz6_0, HGz6, hgz6, HSz6_0⟩ := HI0.out
        have hcz6_0 := cellS64_0 HGz6
        have hcz6_1 := cellS64_1 HGz6
        have hcz6_2 := cellS64_2 HGz6
        have hfz6_1 := blk_frozen HGz6 1
        have hfz6_2 := blk_frozen HGz6 2
        clear HGz6 hgz6
        have p170 : 0 ≤ (s0_1 : Int) := of_decide_eq_true (by first | (with_reducible assumption) | assumption)
        have q170 : s0_1 < (s0_0.length : Int) := of_decide_eq_true (by first | (with_reducible assumption) | assumption)
        obtain ⟨ad170, e170, hx170_0, hx170_1, hx170_2⟩ := at_T33 HSz6_0 s0_1 p170 q170
        cases e170
        replace hx170_0 := pw_cell_below HB.out hx170_0
        replace hx170_1 := pw_cell_below HB.out hx170_1
        replace hx170_2 := pw_cell_below HB.out hx170_2
        replace p170 := eq_true p170
        replace q170 := eq_true q170
        go_enter Tryz.func86, Tryz.ntmps86
        go_wp2
        repeat (go_quiet (fail); try go_wp2)
        go_ret
        exact ⟨by first | rfl | (simp [errW_none, errW_some] <;> rfl) | (simp [*, errW_none, errW_some] <;> rfl), by repeat (first | (with_reducible first | exact HI0.out | apply IsS64.alloc | apply IsS64.drewN | apply IsS64.drew | apply IsS64.set_1 | apply IsS64.set_2) | exact HI0.out), by repeat (first | (with_reducible first | exact HB.out | apply below_alloc | apply pw_below_drewN | apply below_drew1 | refine below_set ?_ (IsS64.ge HI0.out)) | exact HB.out), by repeat (first | (with_reducible first | exact HK.out | apply KeepBut.set_ | apply keep_drewN | apply keep_drew | apply keep_alloc) | exact HK.out)⟩
      · rw [if_neg c5] at H
        have c5b0 : (((rd_T33 s0_0 s0_1).f0) == 1) = false := beq_eq_false_iff_ne.mpr c5
        have c5b1 : (((rd_T33 s0_0 s0_1).f0) != 1) = true := bne_iff_ne.mpr c5
        simp only [Option.some.injEq, Prod.mk.injEq] at H
        obtain ⟨rfl, rfl, rfl⟩ := H
        obtain ⟨ASz7_0, cSz7_0, HGz7, hgz7, HSz7_0⟩ := HI0.out
        have hcz7_0 := cellS64_0 HGz7
        have hcz7_1 := cellS64_1 HGz7
        have hcz7_2 := cellS64_2 HGz7
        have hfz7_1 := blk_frozen HGz7 1
        have hfz7_2 := blk_frozen HGz7 2
        clear HGz7 hgz7
        have p170 : 0 ≤ (s0_1 : Int) := of_decide_eq_true (by first | (with_reducible assumption) | assumption)
        have q170 : s0_1 < (s0_0.length : Int) := of_decide_eq_true (by first | (with_reducible assumption) | assumption)
        obtain ⟨ad170, e170, hx170_0, hx170_1, hx170_2⟩ := at_T33 HSz7_0 s0_1 p170 q170
        cases e170
        replace hx170_0 := pw_cell_below HB.out hx170_0
        replace hx170_1 := pw_cell_below HB.out hx170_1
        replace hx170_2 := pw_cell_below HB.out hx170_2
        replace p170 := eq_true p170
        replace q170 := eq_true q170
        have p171 : 0 ≤ (s0_1 : Int) := of_decide_eq_true (by first | (with_reducible assumption) | assumption)
        have q171 : s0_1 < (s0_0.length : Int) := of_decide_eq_true (by first | (with_reducible assumption) | assumption)
        obtain ⟨ad171, e171, hx171_0, hx171_1, hx171_2⟩ := at_T33 HSz7_0 s0_1 p171 q171
        obtain rfl : ad170 = ad171 := (by injection e171)
        replace hx171_0 := pw_cell_below HB.out hx171_0
        replace hx171_1 := pw_cell_below HB.out hx171_1
        replace hx171_2 := pw_cell_below HB.out hx171_2
        replace p171 := eq_true p171
        replace q171 := eq_true q171
        go_enter Tryz.func86, Tryz.ntmps86
        go_wp2
        repeat (go_quiet (fail); try go_wp2)
        go_ret
        exact ⟨by first | rfl | (simp [errW_none, errW_some] <;> rfl) | (simp [*, errW_none, errW_some] <;> rfl), by repeat (first | (with_reducible first | exact HI0.out | apply IsS64.alloc | apply IsS64.drewN | apply IsS64.drew | apply IsS64.set_1 | apply IsS64.set_2) | exact HI0.out), by repeat (first | (with_reducible first | exact HB.out | apply below_alloc | apply pw_below_drewN | apply below_drew1 | refine below_set ?_ (IsS64.ge HI0.out)) | exact HB.out), by repeat (first | (with_reducible first | exact HK.out | apply KeepBut.set_ | apply keep_drewN | apply keep_drew | apply keep_alloc) | exact HK.out)⟩
    · rw [if_neg c4] at H
      exact absurd H (by simp)
  · rw [if_neg c3] at H
    have c3b0 : decide (s0_1 < (s0_0.length : Int)) = false := decide_eq_false c3
    clear c3
    simp only [Option.some.injEq, Prod.mk.injEq] at H
    obtain ⟨rfl, rfl, rfl⟩ := H
    obtain ⟨ASz8_0, cSz8_0, HGz8, hgz8, HSz8_0⟩ := HI0.out
    have hcz8_0 := cellS64_0 HGz8
    have hcz8_1 := cellS64_1 HGz8
    have hcz8_2 := cellS64_2 HGz8
    have hfz8_1 := blk_frozen HGz8 1
    have hfz8_2 := blk_frozen HGz8 2
    clear HGz8 hgz8
    go_enter Tryz.func86, Tryz.ntmps86
    go_wp2
    repeat (go_quiet (fail); try go_wp2)
    go_ret
    exact ⟨by first | rfl | (simp [errW_none, errW_some] <;> rfl) | (simp [*, errW_none, errW_some] <;> rfl), by repeat (first | (with_reducible first | exact HI0.out | apply IsS64.alloc | apply IsS64.drewN | apply IsS64.drew | apply IsS64.set_1 | apply IsS64.set_2) | exact HI0.out), by repeat (first | (with_reducible first | exact HB.out | apply below_alloc | apply pw_below_drewN | apply below_drew1 | refine below_set ?_ (IsS64.ge HI0.out)) | exact HB.out), by repeat (first | (with_reducible first | exact HK.out | apply KeepBut.set_ | apply keep_drewN | apply keep_drew | apply keep_alloc) | exact HK.out)⟩
def slices_Index_string_string.l0 : Nat → List ByteArray → ByteArray → Int → Int → Option (Int)
  | 0, _, _, _, _ => none
  | k + 1, x0, x1, x7, x8 => if x8 < x7 then (if 0 ≤ x8 then (if x8 < (x0.length : Int) then (if x1.toList = (rdOf ByteArray.empty x0 x8).toList then (some x8) else (slices_Index_string_string.l0 k x0 x1 x7 (wrap64 (x8 + 1)))) else (none)) else (none)) else (some (-1))
def slices_Index_string_string.f (k : Nat) (l0 : List ByteArray) (a1 : ByteArray) : Option (Int) := slices_Index_string_string.l0 k l0 a1 (l0.length : Int) 0
set_option maxHeartbeats 8000000 in
set_option maxRecDepth 100000 in
theorem slices_Index_string_string.calls (k : Nat) (A0 : Option Addr) (c0 : Nat) (l0 : List ByteArray) (a1 : ByteArray) (r : Int) (w : World) (hr0 : Kd.C Kd.string w A0 l0.length l0) (hc0 : l0.length ≤ c0) (h : slices_Index_string_string.f k l0 a1 = some r) :
 Calls Tryz.prog 45 #[.slice A0 l0.length c0, .string a1] w fun e w' => e = .returned (.int .i64 r) ∧ Drawn0 w w' := by
 have HR0 := Aside0.mk hr0
 have HC0 := Aside0.mk hc0
 clear hr0 hc0
 have H : (slices_Index_string_string.l0 k l0 a1 (l0.length : Int) 0) = some r := h
 clear h
 have H' := Aside0.mk H
 clear H
 go_enter Tryz.func45, Tryz.ntmps45
 go_wp2
 go_loopg [8] k (fun kq v8 w' => ∃ (x8_1 : Int), v8 = .int .i64 x8_1 ∧ Aside0 (slices_Index_string_string.l0 kq l0 a1 (l0.length : Int) x8_1 = some r) ∧ Aside0 (kq ≤ k) ∧ Drawn0 w w')
 case atStart => exact ⟨(0), (by first | rfl | (simp; done) | (simp [*]; done)), H', ⟨Nat.le_refl _⟩, by repeat (first | exact Drawn0.refl _ | apply Drawn0.step)⟩
 case round =>
  clear H'
  try clear p2
  obtain ⟨x8_1, rfl, HA, HK1, ⟨m1, rfl⟩⟩ := hrel
  cases gk with
  | zero => exact absurd HA.out (by simp [slices_Index_string_string.l0])
  | succ k1 =>
   have H := HA.out
   clear HA
   simp only [slices_Index_string_string.l0] at H
   by_cases c3 : x8_1 < (l0.length : Int)
   ·rw [if_pos c3] at H
    have c3b0 : decide (x8_1 < (l0.length : Int)) = true := decide_eq_true c3
    clear c3
    by_cases c4 : 0 ≤ x8_1
    ·rw [if_pos c4] at H
     have c4b0 : decide (0 ≤ x8_1) = true := decide_eq_true c4
     clear c4
     by_cases c5 : x8_1 < (l0.length : Int)
     ·rw [if_pos c5] at H
      have c5b0 : decide (x8_1 < (l0.length : Int)) = true := decide_eq_true c5
      clear c5
      by_cases c6 : a1.toList = (rdOf ByteArray.empty l0 x8_1).toList
      ·rw [if_pos c6] at H
       have c6b0 : (a1.toList == (rdOf ByteArray.empty l0 x8_1).toList) = true := beq_iff_eq.mpr c6
       have c6b1 : (a1.toList != (rdOf ByteArray.empty l0 x8_1).toList) = false := bne_eq_false_iff_eq.mpr c6
       clear c6
       obtain rfl := Option.some.inj H
       have p172 : 0 ≤ (x8_1 : Int) := of_decide_eq_true (by first | (with_reducible assumption) | assumption)
       have q172 : x8_1 < (l0.length : Int) := of_decide_eq_true (by first | (with_reducible assumption) | assumption)
       obtain ⟨ad172, e172, hx172_0⟩ := Kd.at_string HR0.out x8_1 p172 q172
       cases e172
       replace p172 := eq_true p172
       replace q172 := eq_true q172
       go_wp2
       go_ret
       exact ⟨by first | rfl | (simp; done) | (simp [*]; done), by repeat (first | exact Drawn0.refl _ | apply Drawn0.step)⟩
      ·rw [if_neg c6] at H
       have c6b0 : (a1.toList == (rdOf ByteArray.empty l0 x8_1).toList) = false := beq_eq_false_iff_ne.mpr c6
       have c6b1 : (a1.toList != (rdOf ByteArray.empty l0 x8_1).toList) = true := bne_iff_ne.mpr c6
       have H' := Aside0.mk H
       clear H
       have p172 : 0 ≤ (x8_1 : Int) := of_decide_eq_true (by first | (with_reducible assumption) | assumption)
       have q172 : x8_1 < (l0.length : Int) := of_decide_eq_true (by first | (with_reducible assumption) | assumption)
       obtain ⟨ad172, e172, hx172_0⟩ := Kd.at_string HR0.out x8_1 p172 q172
       cases e172
       replace p172 := eq_true p172
       replace q172 := eq_true q172
       go_wp2
       go_roundg k1
       case measure => have := HK1.out; omega
       case rel => exact ⟨(wrap64 (x8_1 + 1)), (by first | rfl | (simp; done) | (simp [*]; done)), H', ⟨by have := HK1.out; omega⟩, by repeat (first | exact Drawn0.refl _ | apply Drawn0.step)⟩
     ·rw [if_neg c5] at H
      exact absurd H (by simp)
    ·rw [if_neg c4] at H
     exact absurd H (by simp)
   ·rw [if_neg c3] at H
    have c3b0 : decide (x8_1 < (l0.length : Int)) = false := decide_eq_false c3
    clear c3
    obtain rfl := Option.some.inj H
    go_wp2
    go_ret
    exact ⟨by first | rfl | (simp; done) | (simp [*]; done), by repeat (first | exact Drawn0.refl _ | apply Drawn0.step)⟩
def exprs_binds.f (a0 : Int) : Option (Int) := if a0 = 7 then (some 6) else (if a0 ≤ 9 then (some 5) else (if a0 ≤ 11 then (some 4) else (if a0 ≤ 17 then (some 3) else (if a0 = 18 then (some 2) else (some 1)))))
set_option maxHeartbeats 8000000 in
set_option maxRecDepth 100000 in
theorem exprs_binds.calls (a0 : Int) (r : Int) (w : World) (h : exprs_binds.f a0 = some r) :
    Calls Tryz.prog 47 #[.int .u8 a0] w fun e w' => e = .returned (.int .i64 r) ∧ Drawn0 w w' := by
  have H : (if a0 = 7 then (some 6) else (if a0 ≤ 9 then (some 5) else (if a0 ≤ 11 then (some 4) else (if a0 ≤ 17 then (some 3) else (if a0 = 18 then (some 2) else (some 1)))))) = some r := h
  clear h
  by_cases c2 : a0 = 7
  · rw [if_pos c2] at H
    have c2b0 : (a0 == 7) = true := beq_iff_eq.mpr c2
    have c2b1 : (a0 != 7) = false := bne_eq_false_iff_eq.mpr c2
    clear c2
    obtain rfl := Option.some.inj H
    go_enter Tryz.func47, Tryz.ntmps47
    go_wp2
    go_ret
    exact ⟨by first | rfl | (simp; done) | (simp [*]; done), by repeat (first | exact Drawn0.refl _ | apply Drawn0.step)⟩
  · rw [if_neg c2] at H
    have c2b0 : (a0 == 7) = false := beq_eq_false_iff_ne.mpr c2
    have c2b1 : (a0 != 7) = true := bne_iff_ne.mpr c2
    by_cases c3 : a0 ≤ 9
    · rw [if_pos c3] at H
      have c3b0 : decide (a0 ≤ 9) = true := decide_eq_true c3
      clear c3
      obtain rfl := Option.some.inj H
      go_enter Tryz.func47, Tryz.ntmps47
      go_wp2
      go_ret
      exact ⟨by first | rfl | (simp; done) | (simp [*]; done), by repeat (first | exact Drawn0.refl _ | apply Drawn0.step)⟩
    · rw [if_neg c3] at H
      have c3b0 : decide (a0 ≤ 9) = false := decide_eq_false c3
      clear c3
      by_cases c4 : a0 ≤ 11
      · rw [if_pos c4] at H
        have c4b0 : decide (a0 ≤ 11) = true := decide_eq_true c4
        clear c4
        obtain rfl := Option.some.inj H
        go_enter Tryz.func47, Tryz.ntmps47
        go_wp2
        go_ret
        exact ⟨by first | rfl | (simp; done) | (simp [*]; done), by repeat (first | exact Drawn0.refl _ | apply Drawn0.step)⟩
      · rw [if_neg c4] at H
        have c4b0 : decide (a0 ≤ 11) = false := decide_eq_false c4
        clear c4
        by_cases c5 : a0 ≤ 17
        · rw [if_pos c5] at H
          have c5b0 : decide (a0 ≤ 17) = true := decide_eq_true c5
          clear c5
          obtain rfl := Option.some.inj H
          go_enter Tryz.func47, Tryz.ntmps47
          go_wp2
          go_ret
          exact ⟨by first | rfl | (simp; done) | (simp [*]; done), by repeat (first | exact Drawn0.refl _ | apply Drawn0.step)⟩
        · rw [if_neg c5] at H
          have c5b0 : decide (a0 ≤ 17) = false := decide_eq_false c5
          clear c5
          by_cases c6 : a0 = 18
          · rw [if_pos c6] at H
            have c6b0 : (a0 == 18) = true := beq_iff_eq.mpr c6
            have c6b1 : (a0 != 18) = false := bne_eq_false_iff_eq.mpr c6
            clear c6
            obtain rfl := Option.some.inj H
            go_enter Tryz.func47, Tryz.ntmps47
            go_wp2
            go_ret
            exact ⟨by first | rfl | (simp; done) | (simp [*]; done), by repeat (first | exact Drawn0.refl _ | apply Drawn0.step)⟩
          · rw [if_neg c6] at H
            have c6b0 : (a0 == 18) = false := beq_eq_false_iff_ne.mpr c6
            have c6b1 : (a0 != 18) = true := bne_iff_ne.mpr c6
            obtain rfl := Option.some.inj H
            go_enter Tryz.func47, Tryz.ntmps47
            go_wp2
            go_ret
            exact ⟨by first | rfl | (simp; done) | (simp [*]; done), by repeat (first | exact Drawn0.refl _ | apply Drawn0.step)⟩
end Go.Proofs.YtgmmngipnjmkfaaGreatDoor.Q
end
section
namespace Go.Proofs.YtgmmngipnjmkfaaGreatDoor
open Go.Shelf
def Tryz.laysM173_ren : Go.Shelf.Ren := ⟨fun | 173 => 65 | 246 => 88 | 283 => 103 | 284 => 104 | 285 => 105 | 286 => 106 | 129 => 117 | 317 => 116 | 318 => 118 | 319 => 119 | 320 => 120 | 337 => 125 | 338 => 126 | n => n, fun | 2 => 2 | 3 => 3 | 9 => 9 | 4 => 4 | 171 => 154 | 0 => 0 | 53 => 139 | 37 => 109 | 5 => 5 | 173 => 157 | 212 => 180 | 51 => 146 | 20 => 20 | 213 => 181 | 46 => 142 | 232 => 191 | 233 => 192 | n => n, fun | 17 => 7 | 18 => 8 | 19 => 9 | n => n⟩
theorem Tryz.laysM173 : Go.Proofs.LaysM.n173 Tryz.prog Tryz.laysM173_ren := {
  mixed := by kernel_rfl
  f129 := Tryz.func117.trans (congrArg some (by kernel_rfl))
  f173 := Tryz.func65.trans (congrArg some (by kernel_rfl))
  f246 := Tryz.func88.trans (congrArg some (by kernel_rfl))
  f283 := Tryz.func103.trans (congrArg some (by kernel_rfl))
  f284 := Tryz.func104.trans (congrArg some (by kernel_rfl))
  f285 := Tryz.func105.trans (congrArg some (by kernel_rfl))
  f286 := Tryz.func106.trans (congrArg some (by kernel_rfl))
  f317 := Tryz.func116.trans (congrArg some (by kernel_rfl))
  f318 := Tryz.func118.trans (congrArg some (by kernel_rfl))
  f319 := Tryz.func119.trans (congrArg some (by kernel_rfl))
  f320 := Tryz.func120.trans (congrArg some (by kernel_rfl))
  f337 := Tryz.func125.trans (congrArg some (by kernel_rfl))
  f338 := Tryz.func126.trans (congrArg some (by kernel_rfl))
  t0 := Tryz.underlying0
  a0 := Tryz.isAgg0
  z0 := Tryz.sizeOf0
  v0 := Tryz.zeroValue0
  t2 := Tryz.underlying2
  a2 := Tryz.isAgg2
  z2 := Tryz.sizeOf2
  v2 := Tryz.zeroValue2
  t3 := Tryz.underlying3
  a3 := Tryz.isAgg3
  z3 := Tryz.sizeOf3
  v3 := Tryz.zeroValue3
  t4 := Tryz.underlying4
  a4 := Tryz.isAgg4
  z4 := Tryz.sizeOf4
  v4 := Tryz.zeroValue4
  t5 := Tryz.underlying5
  a5 := Tryz.isAgg5
  z5 := Tryz.sizeOf5
  v5 := Tryz.zeroValue5
  t9 := Tryz.underlying9
  a9 := Tryz.isAgg9
  z9 := Tryz.sizeOf9
  v9 := Tryz.zeroValue9
  t20 := Tryz.underlying20
  a20 := Tryz.isAgg20
  z20 := Tryz.sizeOf20
  v20 := Tryz.zeroValue20
  t37 := Tryz.underlying109
  a37 := Tryz.isAgg109
  z37 := Tryz.sizeOf109
  v37 := Tryz.zeroValue109
  t46 := Tryz.underlying142
  a46 := Tryz.isAgg142
  z46 := Tryz.sizeOf142
  v46 := Tryz.zeroValue142
  t51 := Tryz.underlying146
  a51 := Tryz.isAgg146
  z51 := Tryz.sizeOf146
  v51 := Tryz.zeroValue146
  t53 := Tryz.underlying139
  a53 := Tryz.isAgg139
  z53 := Tryz.sizeOf139
  v53 := Tryz.zeroValue139
  t171 := Tryz.underlying154
  a171 := Tryz.isAgg154
  z171 := Tryz.sizeOf154
  v171 := Tryz.zeroValue154
  t173 := Tryz.underlying157
  a173 := Tryz.isAgg157
  z173 := Tryz.sizeOf157
  v173 := Tryz.zeroValue157
  t212 := Tryz.underlying180
  a212 := Tryz.isAgg180
  z212 := Tryz.sizeOf180
  v212 := Tryz.zeroValue180
  t213 := Tryz.underlying181
  a213 := Tryz.isAgg181
  z213 := Tryz.sizeOf181
  t232 := Tryz.underlying191
  a232 := Tryz.isAgg191
  z232 := Tryz.sizeOf191
  v232 := Tryz.zeroValue191
  t233 := Tryz.underlying192
  a233 := Tryz.isAgg192
  z233 := Tryz.sizeOf192
  v233 := Tryz.zeroValue192
  g17 := by kernel_rfl
  g18 := by kernel_rfl
  g19 := by kernel_rfl
  i0 := by kernel_rfl
  i2 := by kernel_rfl
  i3 := by kernel_rfl
  i4 := by kernel_rfl
  i5 := by kernel_rfl
  i9 := by kernel_rfl
  i20 := by kernel_rfl
  i37 := by kernel_rfl
  i46 := by kernel_rfl
  i51 := by kernel_rfl
  i53 := by kernel_rfl
  i171 := by kernel_rfl
  i173 := by kernel_rfl
  i212 := by kernel_rfl
  i232 := by kernel_rfl
  i233 := by kernel_rfl
  m17 := by kernel_rfl
  m18 := by kernel_rfl
  m19 := by kernel_rfl }
open Go.RowKit Go.Sort Go.Lib in
theorem Tryz.strconv_FormatInt_10 (n : Int) (h0 : -9223372036854775808 ≤ n) (h1 : n ≤ 9223372036854775807) (w : World) (htab : Lib.TabIs Tryz.prog w "internal/strconv.uint64pow10" .u64 Lib.pow10Tab) :
    Calls Tryz.prog 65 #[.int .i64 n, .int .i64 10] w fun e w' => e = .returned (.string ⟨(Lib.itoa n).toArray⟩) ∧ ∃ k os, w' = grow (w.drewN k) os := Any.strconv_FormatInt_10 Tryz.laysM173 n h0 h1 w htab
end Go.Proofs.YtgmmngipnjmkfaaGreatDoor
end
section
namespace Go.Proofs.YtgmmngipnjmkfaaGreatDoor.Hand
open Go.RowKit Go.Sort Go.Lib
def fmtI (n : Int) : ByteArray := ⟨(Lib.itoa n).toArray⟩
theorem grow_below (w : World) (k : Nat) (os : Array Obj) : Below w.heap.size w (grow (w.drewN k) os) :=
  ⟨rfl, rfl, rfl, by simp [grow], fun i hi => by
    show (w.heap ++ os)[i]? = w.heap[i]?
    rw [Array.getElem?_append_left hi]⟩
theorem format_any (n : Int) (h0 : -9223372036854775808 ≤ n) (h1 : n ≤ 9223372036854775807) (w : World) (hT : Tabs w) :
    Calls Tryz.prog 65 #[.int .i64 n, .int .i64 10] w fun e w' => e = .returned (.string (fmtI n)) ∧ Below w.heap.size w w' :=
  (Tryz.strconv_FormatInt_10 n h0 h1 w hT.pow).mono fun _ _ ⟨he, k, os, hw⟩ => ⟨he, by rw [hw]; exact grow_below w k os⟩
end Go.Proofs.YtgmmngipnjmkfaaGreatDoor.Hand
end
section
namespace Go.Proofs.YtgmmngipnjmkfaaGreatDoor.Hand
set_option linter.unusedSimpArgs false
open Go.RowKit Go.Proofs.YtgmmngipnjmkfaaGreatDoorW.PrintWords Go.Proofs.YtgmmngipnjmkfaaGreatDoorW.PrintLast Go.Proofs.YtgmmngipnjmkfaaGreatDoorW.PrintMore Go.Proofs.YtgmmngipnjmkfaaGreatDoor.Q Go.Proofs.YtgmmngipnjmkfaaGreatDoor.Pure
def baT (l : List UInt8) : ByteArray := ⟨l.toArray⟩
theorem baT_size (l : List UInt8) : (baT l).size = l.length := by simp [baT, ByteArray.size]
theorem baT_append (a b : List UInt8) : baT a ++ baT b = baT (a ++ b) := by
  apply ByteArray.ext
  apply Array.ext'
  rw [ByteArray.data_append]
  simp [baT]
theorem intsText_any (n : Int) (h0 : -9223372036854775808 ≤ n) (h1 : n ≤ 9223372036854775807) (w : World) (hT : Tabs w) :
    Calls Tryz.prog 49 #[.int .i64 n] w fun e w' => e = .returned (.string (fmtI n)) ∧ Below w.heap.size w w' := by
  have HF := Lib.hid (format_any n h0 h1 w hT)
  go_enter Tryz.func49, Tryz.ntmps49
  go_wp2_with (first | (go_at_call 65; (with_reducible refine HF.out.mono ?_); rintro e w' ⟨rfl, hb⟩))
  go_ret
  exact ⟨rfl, hb⟩
theorem ret_str {a b : ByteArray} (h : a = b) : Ending.returned (.string a) = .returned (.string b) := by rw [h]
def signsV : Array Value := #[.string (baT [42]), .string (baT [43]), .string (baT [45]), .string (baT [60, 60]), .string (baT [62, 62]), .string (baT [60]), .string (baT [60, 61]), .string (baT [62]), .string (baT [62, 61]), .string (baT [61]), .string (baT [33, 61]), .string (baT [97, 110, 100]), .string (baT [111, 114])]
theorem signs_any (w : World) : Calls Tryz.prog 46 #[] w fun e w' => e = .returned (.slice (some ⟨w.heap.size, 0, none⟩) 13 13) ∧ w' = w.alloc (.cells signsV 9) := by
  go_enter Tryz.func46, Tryz.ntmps46
  go_wp2
  go_ret
  exact ⟨rfl, rfl⟩
theorem signs_cell (W : World) (j : Nat) (hj : j ≤ 12) : (W.alloc (.cells signsV 9)).cell? ⟨W.heap.size, j, none⟩ = some (.string (baT (opB (7 + (j : Int))))) := by
  rw [cell_of_row _ _ _ signsV 9 (0, 0) (heap_alloc_new W _)]
  rcases (show j = 0 ∨ j = 1 ∨ j = 2 ∨ j = 3 ∨ j = 4 ∨ j = 5 ∨ j = 6 ∨ j = 7 ∨ j = 8 ∨ j = 9 ∨ j = 10 ∨ j = 11 ∨ j = 12 by omega) with h | h | h | h | h | h | h | h | h | h | h | h | h <;> subst h <;> rfl
theorem cell_kept_below {W w1 : World} (hb : Below W.heap.size W w1) : ∀ b o, b < W.heap.size → w1.cell? ⟨b, o, none⟩ = W.cell? ⟨b, o, none⟩ := fun b o h => hb.cell (p := ⟨b, o, none⟩) h
theorem keep3 {W w1 : World} {a b c : Addr} {x y z : Value} (hb : Below W.heap.size W w1) (h : W.cell? a = some x ∧ W.cell? b = some y ∧ W.cell? c = some z) : w1.cell? a = some x ∧ w1.cell? b = some y ∧ w1.cell? c = some z :=
  ⟨pw_cell_below hb h.1, pw_cell_below hb h.2.1, pw_cell_below hb h.2.2⟩
theorem bin_text (a o b : List UInt8) : ((baT a ++ (⟨#[32]⟩ : ByteArray)) ++ baT o ++ (⟨#[32]⟩ : ByteArray)) ++ baT b = baT (a ++ ([32] ++ (o ++ ([32] ++ b)))) := by
  show ((baT a ++ baT [32]) ++ baT o ++ baT [32]) ++ baT b = _
  rw [baT_append, baT_append, baT_append, baT_append]
  simp
def textPost (t : Tr) (p : Bool) (w : World) (e : Ending) (w' : World) : Prop := e = .returned (.string (baT (tbytes t p))) ∧ Below w.heap.size w w'
set_option maxRecDepth 100000 in
set_option maxHeartbeats 8000000 in
theorem text_any : ∀ (t : Tr), t.WF → ∀ (A0 : Option Addr) (c0 : Nat) (l0 : List Nd) (o : Nat) (p : Bool) (w : World), t.size ≤ 1000 → Lies l0 o t → Kd.C k43 w A0 l0.length l0 → Tabs w →
    Calls Tryz.prog 30 #[.slice A0 l0.length c0, .int .i64 (((o + t.size : Nat) : Int) - 1), .bool p] w (textPost t p w)
  | .leaf kd n ps, hw, A0, c0, l0, o, p, w, hz, hl, hr0, hT => by
    obtain ⟨h1, h2, h3, h4, h5, h6, h7⟩ := hw
    have hlen := lies_len hl
    simp only [Tr.size] at hlen
    rw [show ((o + (Tr.leaf kd n ps).size : Nat) : Int) - 1 = (o : Int) by simp [Tr.size]]
    obtain ⟨ad, ead, hx0, hx1, hx2, hx3, hx4⟩ := at_T43 hr0 (o : Int) (by omega) (by omega)
    cases ead
    have hx : rd_T43 l0 (o : Int) = ⟨kd, n, 0, 0, ps⟩ := lies_leaf hl
    rw [hx, Int.toNat_natCast] at hx0 hx1 hx2 hx3 hx4
    have hlt : o < l0.length := by omega
    clear hx hl hlen hr0
    by_cases hk : kd = 1
    · subst hk
      have HF := Lib.hid (fun W hW => intsText_any n (by omega) h4 W hW)
      go_enter Tryz.func30, Tryz.ntmps30
      go_wp2_with (first | (go_at_call 49; (with_reducible refine (HF.out _ (Tabs.below hT (by repeat (first | exact Below.refl _ _ | apply below_alloc | apply pw_below_drewN)))).mono ?_); rintro e w' ⟨rfl, hb⟩))
      go_ret
      exact ⟨rfl, below_step (below_alloc (Below.refl _ _) _) hb⟩
    · have hn : n = 0 := by omega
      subst hn
      rcases (show kd = 2 ∨ kd = 3 ∨ kd = 4 by omega) with rfl | rfl | rfl
      all_goals
        go_enter Tryz.func30, Tryz.ntmps30
        go_wp2
        go_ret
        exact ⟨rfl, below_alloc (Below.refl _ _) _⟩
  | .un kd ps a, hw, A0, c0, l0, o, p, w, hz, hl, hr0, hT => by
    obtain ⟨h1, h2, h3, h4⟩ := hw
    have hlen := lies_len hl
    obtain ⟨hla, hx⟩ := lies_un hl
    have hsz := tbytes_len a h4 true
    simp only [Tr.size] at hlen hz
    rw [show ((o + (Tr.un kd ps a).size : Nat) : Int) - 1 = ((o + a.size : Nat) : Int) by simp only [Tr.size]; omega]
    obtain ⟨m, hm⟩ : ∃ m : Nat, m = o + a.size := ⟨_, rfl⟩
    have hIH := fun (W : World) (hB : Below w.heap.size w W) => text_any a h4 A0 c0 l0 o true W (by omega) hla (Kd.C_below hr0 hB) (hT.below hB)
    obtain ⟨ia, hia⟩ : ∃ ia : Int, ia = ((o + a.size : Nat) : Int) - 1 := ⟨_, rfl⟩
    rw [← hia, ← hm] at hx
    rw [← hia] at hIH
    rw [← hm]
    obtain ⟨ad, ead, hx0, hx1, hx2, hx3, hx4⟩ := at_T43 hr0 (m : Int) (by omega) (by omega)
    cases ead
    have hx' : rd_T43 l0 (m : Int) = ⟨kd, 0, ia, 0, ps⟩ := hx
    rw [hx', Int.toNat_natCast] at hx0 hx1 hx2 hx3 hx4
    have hlt : m < l0.length := by omega
    obtain ⟨s, hs⟩ : ∃ s, s = baT (tbytes a true) := ⟨_, rfl⟩
    have hss : s.size ≤ 20000 := by rw [hs, baT_size]; omega
    have HS := Lib.hid hs
    have HA := Lib.hid (fun (W : World) (hB : Below w.heap.size w W) => (hIH W hB).mono (fun e w' (h : textPost a true W e w') => (show e = .returned (.string s) ∧ Below W.heap.size W w' from ⟨by rw [hs]; exact h.1, h.2⟩)))
    clear hx hx' hl hla hlen hr0 hz hsz hIH hs hia hm
    have ho1 : (9223372036854775807 < 2 + s.size) = False := eq_false (by omega)
    have ho2 : (9223372036854775807 < 4 + s.size) = False := eq_false (by omega)
    have ho3 : (9223372036854775807 < 1 + (2 + s.size)) = False := eq_false (by omega)
    have ho4 : (9223372036854775807 < 1 + (4 + s.size)) = False := eq_false (by omega)
    have ho5 : (9223372036854775807 < 1 + (2 + s.size) + 1) = False := eq_false (by omega)
    have ho6 : (9223372036854775807 < 1 + (4 + s.size) + 1) = False := eq_false (by omega)
    rcases h1 with rfl | rfl
    · cases p
      all_goals
        go_enter Tryz.func30, Tryz.ntmps30
        go_wp2_with (first | (go_at_call 30; (with_reducible refine (HA.out _ (by repeat (first | exact Below.refl _ _ | apply below_alloc | apply pw_below_drewN))).mono ?_); rintro e w' ⟨rfl, hb⟩))
        go_ret
        refine ⟨ret_str ?_, below_step (below_alloc (Below.refl _ _) _) hb⟩
        rw [HS.out]
        first | exact (baT_append [45, 32] _).trans rfl | exact (congrArg (· ++ baT [41]) ((congrArg (baT [40] ++ ·) (baT_append [45, 32] _)).trans (baT_append [40] _))).trans ((baT_append _ [41]).trans rfl)
    · cases p
      all_goals
        go_enter Tryz.func30, Tryz.ntmps30
        go_wp2_with (first | (go_at_call 30; (with_reducible refine (HA.out _ (by repeat (first | exact Below.refl _ _ | apply below_alloc | apply pw_below_drewN))).mono ?_); rintro e w' ⟨rfl, hb⟩))
        go_ret
        refine ⟨ret_str ?_, below_step (below_alloc (Below.refl _ _) _) hb⟩
        rw [HS.out]
        first | exact (baT_append [110, 111, 116, 32] _).trans rfl | exact (congrArg (· ++ baT [41]) ((congrArg (baT [40] ++ ·) (baT_append [110, 111, 116, 32] _)).trans (baT_append [40] _))).trans ((baT_append _ [41]).trans rfl)
  | .bin kd ps a b, hw, A0, c0, l0, o, p, w, hz, hl, hr0, hT => by
    obtain ⟨h1, h2, h3, h4, h5, h6⟩ := hw
    have hlen := lies_len hl
    obtain ⟨hla, hlb, hx⟩ := lies_bin hl
    have hsza := tbytes_len a h5 true
    have hszb := tbytes_len b h6 true
    have hszo := opB_len kd
    simp only [Tr.size] at hlen hz
    rw [show ((o + (Tr.bin kd ps a b).size : Nat) : Int) - 1 = ((o + a.size + b.size : Nat) : Int) by simp only [Tr.size]; omega]
    obtain ⟨m, hm⟩ : ∃ m : Nat, m = o + a.size + b.size := ⟨_, rfl⟩
    have hIA := fun (W : World) (hB : Below w.heap.size w W) => text_any a h5 A0 c0 l0 o true W (by omega) hla (Kd.C_below hr0 hB) (hT.below hB)
    have hIB := fun (W : World) (hB : Below w.heap.size w W) => text_any b h6 A0 c0 l0 (o + a.size) true W (by omega) hlb (Kd.C_below hr0 hB) (hT.below hB)
    obtain ⟨ia, hia⟩ : ∃ ia : Int, ia = ((o + a.size : Nat) : Int) - 1 := ⟨_, rfl⟩
    obtain ⟨ib, hib⟩ : ∃ ib : Int, ib = ((o + a.size + b.size : Nat) : Int) - 1 := ⟨_, rfl⟩
    rw [← hia, ← hib, ← hm] at hx
    rw [← hia] at hIA
    rw [← hib] at hIB
    rw [← hm]
    obtain ⟨ad, ead, hx0, hx1, hx2, hx3, hx4⟩ := at_T43 hr0 (m : Int) (by omega) (by omega)
    cases ead
    have hx' : rd_T43 l0 (m : Int) = ⟨kd, 0, ia, ib, ps⟩ := hx
    rw [hx', Int.toNat_natCast] at hx0 hx1 hx2 hx3 hx4
    have hlt : m < l0.length := by omega
    obtain ⟨sa, hsa⟩ : ∃ s, s = baT (tbytes a true) := ⟨_, rfl⟩
    obtain ⟨sb, hsb⟩ : ∃ s, s = baT (tbytes b true) := ⟨_, rfl⟩
    obtain ⟨so, hso⟩ : ∃ s, s = baT (opB kd) := ⟨_, rfl⟩
    have hza : sa.size ≤ 20000 := by rw [hsa, baT_size]; omega
    have hzb : sb.size ≤ 20000 := by rw [hsb, baT_size]; omega
    have hzo : so.size ≤ 3 := by rw [hso, baT_size]; omega
    obtain ⟨j, hj⟩ : ∃ j : Nat, kd = 7 + (j : Int) := ⟨(kd - 7).toNat, by omega⟩
    have hj12 : j ≤ 12 := by omega
    have hSG := fun (W : World) => signs_cell W j hj12
    rw [← hj, ← hso] at hSG
    have HA := Lib.hid (fun (W : World) (hB : Below w.heap.size w W) => (hIA W hB).mono (fun e w' (h : textPost a true W e w') => (show e = .returned (.string sa) ∧ Below W.heap.size W w' from ⟨by rw [hsa]; exact h.1, h.2⟩)))
    have HB := Lib.hid (fun (W : World) (hB : Below w.heap.size w W) => (hIB W hB).mono (fun e w' (h : textPost b true W e w') => (show e = .returned (.string sb) ∧ Below W.heap.size W w' from ⟨by rw [hsb]; exact h.1, h.2⟩)))
    have HS := Lib.hid hso
    have HSa := Lib.hid hsa
    have HSb := Lib.hid hsb
    have hk1 : (kd == 1) = false := beq_eq_false_iff_ne.2 (by omega)
    have hk4 : decide (kd ≤ 4) = false := decide_eq_false (by omega)
    have hk5 : (kd == 5) = false := beq_eq_false_iff_ne.2 (by omega)
    have hk6 : (kd == 6) = false := beq_eq_false_iff_ne.2 (by omega)
    have hkw : IntKind.u8.wrap (kd - 7) = (j : Int) := by rw [hj]; show ((7 + (j : Int) - 7) % 256) = _; omega
    clear hx hx' hl hla hlb hlen hr0 hz hsza hszb hszo hIA hIB hsa hsb hso hia hib hm hj
    have hj0 : (0 : Int) ≤ (j : Int) := by omega
    have hj13 : (j : Int) < 13 := by omega
    have ho1 : (9223372036854775807 < sa.size + 1) = False := eq_false (by omega)
    have ho2 : (9223372036854775807 < sa.size + 1 + so.size) = False := eq_false (by omega)
    have ho3 : (9223372036854775807 < sa.size + 1 + so.size + 1) = False := eq_false (by omega)
    have ho4 : (9223372036854775807 < sa.size + 1 + so.size + 1 + sb.size) = False := eq_false (by omega)
    have ho5 : (9223372036854775807 < 1 + (sa.size + 1 + so.size + 1 + sb.size)) = False := eq_false (by omega)
    have ho6 : (9223372036854775807 < 1 + (sa.size + 1 + so.size + 1 + sb.size) + 1) = False := eq_false (by omega)
    go_enter Tryz.func30, Tryz.ntmps30
    go_wp2
    have hb1 : Below w.heap.size w (w.alloc (.cells #[.int .u8 kd, .int .i64 0, .int .i64 ia, .int .i64 ib, .int .i64 ps] 43)) := below_alloc (Below.refl _ _) _
    have hn1 : (w.alloc (.cells #[.int .u8 kd, .int .i64 0, .int .i64 ia, .int .i64 ib, .int .i64 ps] 43)).heap[w.heap.size]? = some (.cells #[.int .u8 kd, .int .i64 0, .int .i64 ia, .int .i64 ib, .int .i64 ps] 43 (0, 0)) := heap_alloc_new _ _
    generalize (w.alloc (.cells #[.int .u8 kd, .int .i64 0, .int .i64 ia, .int .i64 ib, .int .i64 ps] 43)) = w1 at hb1 hn1 ⊢
    have hc0 : w1.cell? ⟨w.heap.size, 0, none⟩ = some (.int .u8 kd) := (blk_cell hn1 0).trans rfl
    have hc2 : w1.cell? ⟨w.heap.size, 2, none⟩ = some (.int .i64 ia) := (blk_cell hn1 2).trans rfl
    have hc3 : w1.cell? ⟨w.heap.size, 3, none⟩ = some (.int .i64 ib) := (blk_cell hn1 3).trans rfl
    have H1 := Lib.hid hb1
    clear hn1 hb1
    refine wp_region_noPanic ?_
    refine wp_region_held_drew (S := (fun w' => w'.cell? ⟨w.heap.size, 0, none⟩ = some (.int .u8 kd) ∧ w'.cell? ⟨w.heap.size, 2, none⟩ = some (.int .i64 ia) ∧ w'.cell? ⟨w.heap.size, 3, none⟩ = some (.int .i64 ib))) (by kernel_rfl) ?_ (fun hHeld => ?_)
    · ((try dsimp only); (first | go_keep | exact keep3 hbb (by assumption) | exact keep3 hba ⟨hc0, hc2, hc3⟩))
    refine wpAnyH_take (i := 0) (oi := _) (v := ?_) rfl (by kernel_rfl) (by kernel_rfl) (by kernel_rfl) (fun _ _ _ h => h) (Or.inl ⟨by rfl, ?_⟩) (by assumption) ?_
    rotate_left 1
    · ((intro w hSw); (try dsimp only at hSw); go_simp; (try with_reducible rfl))
    try simp only [Act.put, List.setIfInBounds_toArray, List.set_cons_zero, List.set_cons_succ]
    refine wpAnyH_take (i := 1) (oi := _) (v := ?_) rfl (by kernel_rfl) (by kernel_rfl) (by kernel_rfl) (fun _ _ _ h => h) (Or.inl ⟨by rfl, ?_⟩) (by assumption) ?_
    rotate_left 1
    · ((intro w hSw); (try dsimp only at hSw); go_simp; (try with_reducible rfl))
    try simp only [Act.put, List.setIfInBounds_toArray, List.set_cons_zero, List.set_cons_succ]
    refine wpAnyH_take (i := 2) (oi := _) (v := ?_) rfl (by kernel_rfl) (by kernel_rfl) (by kernel_rfl) (fun _ _ _ h => h) (Or.inl ⟨by rfl, ?_⟩) (by assumption) ?_
    rotate_left 1
    · ((intro w hSw); (try dsimp only at hSw); go_simp; (try with_reducible rfl))
    try simp only [Act.put, List.setIfInBounds_toArray, List.set_cons_zero, List.set_cons_succ]
    refine wpAnyH_take (i := 6) (oi := _) (v := ?_) rfl (by kernel_rfl) (by kernel_rfl) (by kernel_rfl) (fun _ _ _ h => h) (Or.inl ⟨by rfl, ?_⟩) (by assumption) ?_
    rotate_left 1
    · ((intro w hSw); (try dsimp only at hSw); go_simp; (try with_reducible rfl))
    try simp only [Act.put, List.setIfInBounds_toArray, List.set_cons_zero, List.set_cons_succ]
    refine wpAnyH_take (i := 7) (oi := _) (v := ?_) rfl (by kernel_rfl) (by kernel_rfl) (by kernel_rfl) (fun _ _ _ h => h) (Or.inl ⟨by rfl, ?_⟩) (by assumption) ?_
    rotate_left 1
    · ((intro w hSw); (try dsimp only at hSw); go_simp; (try with_reducible rfl))
    try simp only [Act.put, List.setIfInBounds_toArray, List.set_cons_zero, List.set_cons_succ]
    refine wpAnyH_take (i := 8) (oi := _) (v := ?_) rfl (by kernel_rfl) (by kernel_rfl) (by kernel_rfl) (fun _ _ _ h => h) (Or.inl ⟨by rfl, ?_⟩) (by assumption) ?_
    rotate_left 1
    · ((intro w hSw); (try dsimp only at hSw); go_simp; (try with_reducible rfl))
    try simp only [Act.put, List.setIfInBounds_toArray, List.set_cons_zero, List.set_cons_succ]
    refine wpAnyH_take (i := 13) (oi := _) (v := ?_) rfl (by kernel_rfl) (by kernel_rfl) (by kernel_rfl) (fun _ _ _ h => h) (Or.inl ⟨by rfl, ?_⟩) (by assumption) ?_
    rotate_left 1
    · ((intro w hSw); (try dsimp only at hSw); go_simp; (try with_reducible rfl))
    try simp only [Act.put, List.setIfInBounds_toArray, List.set_cons_zero, List.set_cons_succ]
    refine wpAnyH_take (i := 14) (oi := _) (v := ?_) rfl (by kernel_rfl) (by kernel_rfl) (by kernel_rfl) (fun _ _ _ h => h) (Or.inl ⟨by rfl, ?_⟩) (by assumption) ?_
    rotate_left 1
    · ((intro w hSw); (try dsimp only at hSw); go_simp; (try with_reducible rfl))
    try simp only [Act.put, List.setIfInBounds_toArray, List.set_cons_zero, List.set_cons_succ]
    refine wpAnyH_take (i := 15) (oi := _) (v := ?_) rfl (by kernel_rfl) (by kernel_rfl) (by kernel_rfl) (fun _ _ _ h => h) (Or.inl ⟨by rfl, ?_⟩) (by assumption) ?_
    rotate_left 1
    · ((intro w hSw); (try dsimp only at hSw); go_simp; (try with_reducible rfl))
    try simp only [Act.put, List.setIfInBounds_toArray, List.set_cons_zero, List.set_cons_succ]
    refine wpAnyH_ready (rs := [3]) (by kernel_rfl) (by simp) ?_
    refine AllReadyH.cons (o := _) rfl (fun K hK => ?_) ?_
    · skip
      go_simp
      (go_at_call 30; (with_reducible refine (HA.out _ (by repeat (first | exact H1.out | apply below_drew1 | apply pw_below_drewN))).mono ?_); rintro e w2 ⟨rfl, hba⟩)
      try go_wp2_with fail
      refine hK.out _ _ ?_ (fun hHeld => ?_)
      · ((try dsimp only); (first | go_keep | exact keep3 hbb (by assumption) | exact keep3 hba ⟨hc0, hc2, hc3⟩))
      clear hK K
      try simp only [Act.put, List.setIfInBounds_toArray, List.set_cons_zero, List.set_cons_succ]
      refine wpAnyH_take (i := 4) (oi := _) (v := ?_) rfl (by kernel_rfl) (by kernel_rfl) (by kernel_rfl) (fun _ _ _ h => h) (Or.inl ⟨by rfl, ?_⟩) (by assumption) ?_
      rotate_left 1
      · ((intro w hSw); (try dsimp only at hSw); go_simp; (try with_reducible rfl))
      try simp only [Act.put, List.setIfInBounds_toArray, List.set_cons_zero, List.set_cons_succ]
      refine wpAnyH_ready (rs := [5]) (by kernel_rfl) (by simp) ?_
      refine AllReadyH.cons (o := _) rfl (fun K hK => ?_) ?_
      · skip
        go_simp
        (go_at_call 46; (with_reducible refine (signs_any _).mono ?_); rintro e w' ⟨rfl, rfl⟩)
        try go_wp2_with fail
        refine hK.out _ _ ?_ (fun hHeld => ?_)
        · ((try dsimp only); (first | go_keep | exact keep3 hbb (by assumption) | exact keep3 hba ⟨hc0, hc2, hc3⟩))
        clear hK K
        try simp only [Act.put, List.setIfInBounds_toArray, List.set_cons_zero, List.set_cons_succ]
        refine wpAnyH_take (i := 9) (oi := _) (v := ?_) rfl (by kernel_rfl) (by kernel_rfl) (by kernel_rfl) (fun _ _ _ h => h) (Or.inl ⟨by rfl, ?_⟩) (by assumption) ?_
        rotate_left 1
        · ((intro w hSw); (try dsimp only at hSw); go_simp; (try with_reducible rfl))
        try simp only [Act.put, List.setIfInBounds_toArray, List.set_cons_zero, List.set_cons_succ]
        refine wpAnyH_ready (rs := [10, 16]) (by kernel_rfl) (by simp) ?_
        refine AllReadyH.cons (o := _) rfl (fun K hK => ?_) ?_
        · skip
          go_simp
          refine hK.out _ _ ?_ (fun hHeld => ?_)
          · ((try dsimp only); (first | go_keep | exact keep3 hbb (by assumption) | exact keep3 hba ⟨hc0, hc2, hc3⟩))
          clear hK K
          try simp only [Act.put, List.setIfInBounds_toArray, List.set_cons_zero, List.set_cons_succ]
          refine wpAnyH_take (i := 11) (oi := _) (v := ?_) rfl (by kernel_rfl) (by kernel_rfl) (by kernel_rfl) (fun _ _ _ h => h) (Or.inl ⟨by rfl, ?_⟩) (by assumption) ?_
          rotate_left 1
          · ((intro w hSw); (try dsimp only at hSw); go_simp; (try with_reducible rfl))
          try simp only [Act.put, List.setIfInBounds_toArray, List.set_cons_zero, List.set_cons_succ]
          refine wpAnyH_take (i := 12) (oi := _) (v := ?_) rfl (by kernel_rfl) (by kernel_rfl) (by kernel_rfl) (fun _ _ _ h => h) (Or.inl ⟨by rfl, ?_⟩) (by assumption) ?_
          rotate_left 1
          · ((intro w hSw); (try dsimp only at hSw); go_simp; (try with_reducible rfl))
          try simp only [Act.put, List.setIfInBounds_toArray, List.set_cons_zero, List.set_cons_succ]
          refine wpAnyH_ready (rs := [16]) (by kernel_rfl) (by simp) ?_
          refine AllReadyH.cons (o := _) rfl (fun K hK => ?_) ?_
          · skip
            go_simp
            (go_at_call 30; (with_reducible refine (HB.out _ (by repeat (first | exact H1.out | apply below_drew1 | apply pw_below_drewN | apply below_alloc | (refine below_step ?_ hba)))).mono ?_); rintro e w3 ⟨rfl, hbb⟩; have hbc := cell_kept_below hbb)
            try go_wp2_with fail
            refine hK.out _ _ ?_ (fun hHeld => ?_)
            · ((try dsimp only); (first | go_keep | exact keep3 hbb (by assumption) | exact keep3 hba ⟨hc0, hc2, hc3⟩))
            clear hK K
            try simp only [Act.put, List.setIfInBounds_toArray, List.set_cons_zero, List.set_cons_succ]
            refine wpAnyH_take (i := 17) (oi := _) (v := ?_) rfl (by kernel_rfl) (by kernel_rfl) (by kernel_rfl) (fun _ _ _ h => h) (Or.inl ⟨by rfl, ?_⟩) (by assumption) ?_
            rotate_left 1
            · ((intro w hSw); (try dsimp only at hSw); go_simp; (try with_reducible rfl))
            try simp only [Act.put, List.setIfInBounds_toArray, List.set_cons_zero, List.set_cons_succ]
            refine wpAnyH_take (i := 18) (oi := _) (v := ?_) rfl (by kernel_rfl) (by kernel_rfl) (by kernel_rfl) (fun _ _ _ h => h) (Or.inl ⟨by rfl, ?_⟩) (by assumption) ?_
            rotate_left 1
            · ((intro w hSw); (try dsimp only at hSw); go_simp; (try with_reducible rfl))
            try simp only [Act.put, List.setIfInBounds_toArray, List.set_cons_zero, List.set_cons_succ]
            refine wpAnyH_done (by kernel_rfl) ?_ _
            refine NoPanic.normal ?_
            cases p
            all_goals
              go_wp2
              go_ret
              refine ⟨ret_str ?_, by repeat (first | exact H1.out | apply below_drew1 | apply pw_below_drewN | apply below_alloc | (refine below_step ?_ hbb) | (refine below_step ?_ hba))⟩
              rw [HS.out, HSa.out, HSb.out]
              first
                | exact bin_text _ _ _
                | exact (congrArg (fun x => baT [40] ++ x ++ baT [41]) (bin_text _ _ _)).trans ((congrArg (· ++ baT [41]) (baT_append [40] _)).trans ((baT_append _ [41]).trans rfl))
          exact AllReadyH.nil
        refine AllReadyH.cons (o := _) rfl (fun K hK => ?_) ?_
        · skip
          go_simp
          (go_at_call 30; (with_reducible refine (HB.out _ (by repeat (first | exact H1.out | apply below_drew1 | apply pw_below_drewN | apply below_alloc | (refine below_step ?_ hba)))).mono ?_); rintro e w3 ⟨rfl, hbb⟩; have hbc := cell_kept_below hbb)
          try go_wp2_with fail
          refine hK.out _ _ ?_ (fun hHeld => ?_)
          · ((try dsimp only); (first | go_keep | exact keep3 hbb (by assumption) | exact keep3 hba ⟨hc0, hc2, hc3⟩))
          clear hK K
          try simp only [Act.put, List.setIfInBounds_toArray, List.set_cons_zero, List.set_cons_succ]
          refine wpAnyH_ready (rs := [10]) (by kernel_rfl) (by simp) ?_
          refine AllReadyH.cons (o := _) rfl (fun K hK => ?_) ?_
          · skip
            go_simp
            refine hK.out _ _ ?_ (fun hHeld => ?_)
            · ((try dsimp only); (first | go_keep | exact keep3 hbb (by assumption) | exact keep3 hba ⟨hc0, hc2, hc3⟩))
            clear hK K
            try simp only [Act.put, List.setIfInBounds_toArray, List.set_cons_zero, List.set_cons_succ]
            refine wpAnyH_take (i := 11) (oi := _) (v := ?_) rfl (by kernel_rfl) (by kernel_rfl) (by kernel_rfl) (fun _ _ _ h => h) (Or.inl ⟨by rfl, ?_⟩) (by assumption) ?_
            rotate_left 1
            · ((intro w hSw); (try dsimp only at hSw); go_simp; (try with_reducible rfl))
            try simp only [Act.put, List.setIfInBounds_toArray, List.set_cons_zero, List.set_cons_succ]
            refine wpAnyH_take (i := 12) (oi := _) (v := ?_) rfl (by kernel_rfl) (by kernel_rfl) (by kernel_rfl) (fun _ _ _ h => h) (Or.inl ⟨by rfl, ?_⟩) (by assumption) ?_
            rotate_left 1
            · ((intro w hSw); (try dsimp only at hSw); go_simp; (try with_reducible rfl))
            try simp only [Act.put, List.setIfInBounds_toArray, List.set_cons_zero, List.set_cons_succ]
            refine wpAnyH_take (i := 17) (oi := _) (v := ?_) rfl (by kernel_rfl) (by kernel_rfl) (by kernel_rfl) (fun _ _ _ h => h) (Or.inl ⟨by rfl, ?_⟩) (by assumption) ?_
            rotate_left 1
            · ((intro w hSw); (try dsimp only at hSw); go_simp; (try with_reducible rfl))
            try simp only [Act.put, List.setIfInBounds_toArray, List.set_cons_zero, List.set_cons_succ]
            refine wpAnyH_take (i := 18) (oi := _) (v := ?_) rfl (by kernel_rfl) (by kernel_rfl) (by kernel_rfl) (fun _ _ _ h => h) (Or.inl ⟨by rfl, ?_⟩) (by assumption) ?_
            rotate_left 1
            · ((intro w hSw); (try dsimp only at hSw); go_simp; (try with_reducible rfl))
            try simp only [Act.put, List.setIfInBounds_toArray, List.set_cons_zero, List.set_cons_succ]
            refine wpAnyH_done (by kernel_rfl) ?_ _
            refine NoPanic.normal ?_
            cases p
            all_goals
              go_wp2
              go_ret
              refine ⟨ret_str ?_, by repeat (first | exact H1.out | apply below_drew1 | apply pw_below_drewN | apply below_alloc | (refine below_step ?_ hbb) | (refine below_step ?_ hba))⟩
              rw [HS.out, HSa.out, HSb.out]
              first
                | exact bin_text _ _ _
                | exact (congrArg (fun x => baT [40] ++ x ++ baT [41]) (bin_text _ _ _)).trans ((congrArg (· ++ baT [41]) (baT_append [40] _)).trans ((baT_append _ [41]).trans rfl))
          exact AllReadyH.nil
        exact AllReadyH.nil
      exact AllReadyH.nil
    exact AllReadyH.nil
end Go.Proofs.YtgmmngipnjmkfaaGreatDoor.Hand
end
