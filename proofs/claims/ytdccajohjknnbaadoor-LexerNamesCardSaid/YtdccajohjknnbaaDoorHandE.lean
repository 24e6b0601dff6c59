/- chars.Word, one group: the loop over the group's words finds the text, or does not, and keeps all else. -/
import Derived.Test.YtdccajohjknnbaaDoorHandD
import Derived.WalkMore
namespace Go.Proofs.YtdccajohjknnbaaDoor.Hand
open Go.RowKit Go.Shelf
attribute [local go_sem] Oper.semAt_some

def grp0 : ByteArray := ⟨#[115, 101, 108, 101, 99, 116, 32, 102, 114, 111, 109, 32, 119, 104, 101, 114, 101, 32, 119, 105, 110, 100, 111, 119, 32, 98, 121, 32, 107, 101, 121, 32, 108, 97, 116, 101, 32, 100, 114, 111, 112, 32, 115, 105, 100, 101]⟩
def grp1 : ByteArray := ⟨#[99, 111, 117, 110, 116, 32, 115, 117, 109, 32, 109, 105, 110, 32, 109, 97, 120, 32, 97, 110, 100, 32, 111, 114, 32, 110, 111, 116]⟩
def grp2 : ByteArray := ⟨#[117, 110, 105, 111, 110, 32, 106, 111, 105, 110, 32, 116, 117, 109, 98, 108, 101, 32, 115, 108, 105, 100, 101, 32, 101, 118, 101, 114, 121, 32, 115, 101, 115, 115, 105, 111, 110]⟩
def grp3 : ByteArray := ⟨#[97, 32, 98, 32, 99, 32, 100, 32, 107, 32, 116, 32, 118]⟩
theorem asc0 : ∀ i (h : i < grp0.size), (grp0[i]'h).toNat < 128 := by decide
theorem asc1 : ∀ i (h : i < grp1.size), (grp1[i]'h).toNat < 128 := by decide
theorem asc2 : ∀ i (h : i < grp2.size), (grp2[i]'h).toNat < 128 := by decide
theorem asc3 : ∀ i (h : i < grp3.size), (grp3[i]'h).toNat < 128 := by decide

/-- the blocks of the rounds' deferred calls -/
def marksOf (Ds : List Nat) : List Deferred := Ds.map fun D => { target := .collected D, args := #[] }
structure Marks (N : Nat) (Ds : List Nat) (W : World) : Prop where
  at_ : ∀ D ∈ Ds, W.heap[D]? = some (.deferred (some []))
  ge : ∀ D ∈ Ds, N ≤ D
  nd : Ds.Nodup
theorem leaves_marks {fn : Func} {tmps : Array Value} {R : Ending → World → Prop} {v : Value} {w : World} (hres : ∀ W, (results fn tmps).run Tryd.prog W = .ok v W)
    (hR : ∀ W, Below w.heap.size w W → R (.returned v) W) : ∀ (Ds : List Nat) (W : World), Marks w.heap.size Ds W → Below w.heap.size w W → LeavesInM Fence.wide 5 Tryd.prog fn tmps R (marksOf Ds) .returning W
  | [], W, _, hb => ⟨v, hres W, hR W hb⟩
  | D :: Ds, W, hm, hb => by
    have hD := hm.at_ D (List.mem_cons_self ..)
    have hge := hm.ge D (List.mem_cons_self ..)
    have hnd' := List.nodup_cons.1 hm.nd
    refine ⟨by simp, .inl ⟨D, _, rfl, run_takeDeferred hD, ?_⟩⟩
    refine leaves_marks hres hR Ds _ ⟨fun D' h' => ?_, fun D' h' => hm.ge D' (List.mem_cons_of_mem _ h'), hnd'.2⟩ ?_
    · have hne : D' ≠ D := fun e => hnd'.1 (e ▸ h')
      exact (World.putObj_heap_other hne).trans (hm.at_ D' (List.mem_cons_of_mem _ h'))
    · exact hb.grown (grownBy_putObj' W D (.deferred none)) hb.size (fun k e => by cases e; exact hge)

/-- what holds between two words: 'found' is b -/
structure St (s : ByteArray) (w : World) (b : Bool) (Ds : List Nat) (W : World) : Prop where
  box : W.cell? ⟨w.heap.size, 0, none⟩ = some (.string s)
  fnd : W.cell? ⟨w.heap.size + 1, 0, none⟩ = some (.bool b)
  frz : W.frozen? ⟨w.heap.size + 1, 0, none⟩ = false
  bel : Below w.heap.size w W
  mrk : Marks w.heap.size Ds W
theorem St.own {β : Type} {s : ByteArray} {w : World} {b : Bool} {Ds : List Nat} {B : Nat} (hB : w.heap.size ≤ B) (hD : ∀ D ∈ Ds, D < B) : OwnFrom B (fun (_ : β) W => St s w b Ds W) := by
  intro _ W W' row hs hg hr
  refine ⟨cell_kept hs.box hg (fun r e => (hr r e).2), cell_kept hs.fnd hg (fun r e => (hr r e).2), (frozen_kept hs.fnd hg (fun r e => (hr r e).2)).trans hs.frz, ?_, ?_⟩
  · exact hs.bel.grown hg hs.bel.size (fun k e => Nat.le_trans hB (hr k e).1)
  · refine ⟨fun D h => ?_, hs.mrk.ge, hs.mrk.nd⟩
    have h1 := hs.mrk.at_ D h
    have h2 := (Array.getElem?_eq_some_iff.1 h1).1
    exact (hg.block D h2 (fun e => by have := (hr D e.symm).1; have := hD D h; omega)).trans h1
theorem St.mark {s : ByteArray} {w : World} {b : Bool} {Ds : List Nat} {W : World} {D : Nat} (h : St s w b Ds W) (hD : W.heap[D]? = some (.deferred (some []))) (hge : w.heap.size ≤ D) (hnew : D ∉ Ds) : St s w b (D :: Ds) W :=
  ⟨h.box, h.fnd, h.frz, h.bel, ⟨fun D' h' => (List.mem_cons.1 h').elim (fun e => e ▸ hD) (h.mrk.at_ D'), fun D' h' => (List.mem_cons.1 h').elim (fun e => e ▸ hge) (h.mrk.ge D'), List.nodup_cons.2 ⟨hnew, h.mrk.nd⟩⟩⟩
theorem St.set {s : ByteArray} {w : World} {b : Bool} {Ds : List Nat} {W : World} (h : St s w b Ds W) : St s w true Ds (W.setCell ⟨w.heap.size + 1, 0, none⟩ (.bool true)) := by
  refine ⟨?_, World.cell?_setCell_same' _ _ _ (by rw [h.fnd]; rfl), by rw [World.frozen?_setCell]; exact h.frz, h.bel.setCell (p := ⟨w.heap.size + 1, 0, none⟩) (Nat.le_succ _) _, ⟨fun D hD => ?_, h.mrk.ge, h.mrk.nd⟩⟩
  · exact (World.cell?_setCell_other _ _ _ _ (by intro e; have := congrArg Addr.block e; simp at this)).trans h.box
  · exact (KeepsOthers.setCell W ⟨w.heap.size + 1, 0, none⟩ (.bool true)).same D _ (h.mrk.at_ D hD) rfl
theorem St.more {s : ByteArray} {w : World} {b : Bool} {Ds : List Nat} {W : World} (h : St s w b Ds W) (o : Obj) : St s w b Ds (W.alloc o) :=
  St.own (β := Unit) (B := W.heap.size) h.bel.size (fun D hD => (Array.getElem?_eq_some_iff.1 (h.mrk.at_ D hD)).1) () W _ none h (World.grownBy_alloc W o none) (fun r e => by cases e)
def wAssign : Code := .region 6 #[{ dst := some 6, op := .assign (.tmp 13), type := 9, pos := "chars.go:54", after := #[], guard := none }] false
def wBody : Code := .block 3 (.seq (.region 7 #[{ dst := some 14, op := .move (.tmp 6), type := 9, pos := "chars.go:55", after := #[], guard := none },
    { dst := some 15, op := .load 9 (.tmp 1), type := 9, pos := "chars.go:55", after := #[], guard := none },
    { dst := some 16, op := .binOp .eql 9 (.tmp 14) (.tmp 15) 9, type := 4, pos := "chars.go:55", after := #[{ on := 0, ground := .data }, { on := 1, ground := .data }], guard := none }] false)
  (.cond (.tmp 16) (.seq (.region 8 #[{ dst := none, op := .store 4 (.tmp 3) (.const (.bool true)), type := 0, pos := "chars.go:56", after := #[], guard := none }] false) (.exit 0)) .skip))
theorem beq_str {x s : ByteArray} (h : x = s) : (x.toList == s.toList) = true := by subst h; simp
theorem bne_str {x s : ByteArray} (h : ¬ x = s) : (x.toList == s.toList) = false := by
  rw [beq_eq_false_iff_ne]; intro e
  rw [ByteArray.toList_eq, ByteArray.toList_eq] at e
  exact h (by cases x; cases s; simp at e; simpa using e)
set_option maxHeartbeats 4000000 in
set_option maxRecDepth 100000 in
theorem group_step (s gs : ByteArray) (w W1 : World) (Bs : Nat) (hz : gs.size ≤ 1000) (hasc : ∀ i (h : i < gs.size), (gs[i]'h).toNat < 128) (hBs : Bs < W1.heap.size) (hG : 0 < w.heap.size)
    (hc : W1.cell? ⟨Bs, 0, none⟩ = some (.string gs)) (hT : Spaces W1) (Ds : List Nat) (hS : St s w false Ds W1) (t0 t2 t4 t5 t6 t7 t8 t9 t10 t11 t13 t14 t15 t16 t17 t18 : Value) (Q : Exit → Act → World → Prop)
    (hdone : ∀ D W, W1.heap.size ≤ D → s ∉ flds gs 0 none → St s w false (D :: Ds) W → Q .normal { tmps := #[t0, .pointer (some ⟨w.heap.size, 0, none⟩), t2, .pointer (some ⟨w.heap.size + 1, 0, none⟩), t4, t5, t6, t7, t8, t9, t10, t11, .func (.func 57) #[] #[.pointer (some ⟨Bs, 0, none⟩)], t13, t14, t15, t16, t17, t18], defers := marksOf (D :: Ds) } W)
    (hstop : ∀ D W, W1.heap.size ≤ D → s ∈ flds gs 0 none → St s w true (D :: Ds) W → Q (.exit 0) { tmps := #[t0, .pointer (some ⟨w.heap.size, 0, none⟩), t2, .pointer (some ⟨w.heap.size + 1, 0, none⟩), t4, t5, t6, t7, t8, t9, t10, t11, .func (.func 57) #[] #[.pointer (some ⟨Bs, 0, none⟩)], t13, t14, t15, t16, t17, t18], defers := marksOf (D :: Ds) } W) :
    (Code.rangeFunc (.tmp 12) #[13] wAssign wBody).wp Tryd.prog Q { tmps := #[t0, .pointer (some ⟨w.heap.size, 0, none⟩), t2, .pointer (some ⟨w.heap.size + 1, 0, none⟩), t4, t5, t6, t7, t8, t9, t10, t11, .func (.func 57) #[] #[.pointer (some ⟨Bs, 0, none⟩)], t13, t14, t15, t16, t17, t18], defers := marksOf Ds } W1 := by
  have hGW : 0 < W1.heap.size := Nat.lt_of_lt_of_le hG hS.bel.size
  have hDs : ∀ D ∈ Ds, D < W1.heap.size := fun D hD => (Array.getElem?_eq_some_iff.1 (hS.mrk.at_ D hD)).1
  refine wpIn_wide.1 (wpIn_rangeFunc_ownG (F := Fence.wide) (n := 5) rfl (by decide) (gf := 57) (lb := #[.pointer (some ⟨Bs, 0, none⟩)]) rfl trivial (enters_of Tryd.func57 (by kernel_rfl) rfl)
    (fields_stops Fence.wide 4 trivial rfl (by decide) Bs W1.heap.size gs hz hasc W1 hBs (Nat.le_refl _) hGW hc hT) belowK_t (belowK_b (Nat.le_refl _)) (Below.refl _ _) (fun _ => rfl)
    (fun pre W => s ∉ pre ∧ St s w false Ds W)
    (fun c pre W => (c = .exit 0 ∧ s ∈ pre) ∧ St s w true Ds W)
    (fun a W W' row hs hg hr => ⟨hs.1, St.own (β := Unit) hS.bel.size hDs () W W' row hs.2 hg hr⟩)
    (fun c a W W' row hs hg hr => ⟨hs.1, St.own (β := Unit) hS.bel.size hDs () W W' row hs.2 hg hr⟩)
    ⟨by simp, hS⟩
    (fun x => { tmps := #[t0, .pointer (some ⟨w.heap.size, 0, none⟩), t2, .pointer (some ⟨w.heap.size + 1, 0, none⟩), t4, t5, .string x, t7, t8, t9, t10, t11, .func (.func 57) #[] #[.pointer (some ⟨Bs, 0, none⟩)], .string x, t14, t15, t16, t17, t18], defers := [] }) ?assign ?body ?done ?stop)
  case assign =>
    intro l x W K hK
    unfold wAssign
    gi_wp2
    exact hK
  case body =>
    rintro l pre x W ⟨hp, hS'⟩ _
    have hbox := hS'.box
    have hfnd := hS'.fnd
    have hfrz := hS'.frz
    unfold wBody
    by_cases hx : x = s
    · have hb := beq_str hx
      have hst := hS'.set
      have Hx := Lib.hid hx
      clear hx hS'
      have Hst := Lib.hid hst
      clear hst
      gi_wp2
      exact ⟨(KeepsOthers.setCell _ _ _).from _, ⟨rfl, by rw [Hx.out]; simp⟩, Hst.out⟩
    · have hb := bne_str hx
      have Hx := Lib.hid hx
      clear hx
      have HS := Lib.hid hS'
      clear hS'
      gi_wp2
      exact ⟨KeepsFrom.refl _ _, Below.refl _ _, by simp only [List.mem_append, List.mem_singleton, not_or]; exact ⟨hp, fun e => Hx.out e.symm⟩, HS.out⟩
  case done =>
    rintro D xs W hD rfl ⟨hp, hS'⟩ hK
    exact hdone D W hD hp (hS'.mark hK (Nat.le_trans hS.bel.size hD) (fun h => by have := hDs D h; omega))
  case stop =>
    rintro D c pre W hD hpre ⟨⟨rfl, hin⟩, hS'⟩ hK
    exact wpIn_wide.2 (wp_exit (hstop D W hD (hpre.subset hin) (hS'.mark hK (Nat.le_trans hS.bel.size hD) (fun h => by have := hDs D h; omega))))
end Go.Proofs.YtdccajohjknnbaaDoor.Hand
