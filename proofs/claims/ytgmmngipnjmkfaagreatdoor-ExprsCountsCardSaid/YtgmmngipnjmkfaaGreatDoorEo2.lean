/- Lemmas of the proof (cut to what it uses, by wip/trim.py). -/
import Derived.Laws.StructEq
import Derived.Test.YtgmmngipnjmkfaaGreatDoorEo1
section
namespace Go.Proofs.YtgmmngipnjmkfaaGreatDoorW.PrintWords
open Go.RowKit
namespace Kd
def tag {α : Type} (f : Nat → Nat) (d : Kd α) : Kd (α × Nat) where
  sz := d.sz
  E := d.E
  K := fun w x cs => d.K w x.1 cs
  M := fun w base ok x cs => d.M w base (fun k => ok k ∧ f k = x.2) x.1 cs
  K_len := fun h => d.K_len h
  K_one := fun h => d.K_one h
  K_below := fun hb h => d.K_below hb h
  K_of_M := fun h => d.K_of_M h
  M_mono := fun hok h => d.M_mono (fun k hk => ⟨hok k hk.1, hk.2⟩) h
  M_bound := fun h => d.M_mono (fun _ hk => ⟨⟨hk.1.1, hk.2⟩, hk.1.2⟩) (d.M_bound h)
  M_move := fun hm h => d.M_move (fun k hk => hm k hk.1) h
  M_lower := fun hb h => d.M_lower hb h
def bare {α : Type} (d : Kd α) : Kd α where
  sz := d.sz
  E := d.E
  K := d.K
  M := fun w base _ x cs => d.M w base (fun _ => False) x cs
  K_len := fun h => d.K_len h
  K_one := fun h => d.K_one h
  K_below := fun hb h => d.K_below hb h
  K_of_M := fun h => d.K_of_M h
  M_mono := fun _ h => h
  M_bound := fun h => h
  M_move := fun _ h => d.M_move (fun _ hk => hk.elim) h
  M_lower := fun hb h => d.M_lower hb h
def raw (sz : Nat) : Kd (List Value) where
  sz := sz
  E := []
  K := fun _ x cs => cs = x ∧ cs.length = sz ∧ ∀ u ∈ cs, u.oneCell' = true
  M := fun _ _ _ x cs => cs = x ∧ cs.length = sz ∧ ∀ u ∈ cs, u.oneCell' = true
  K_len := fun h => h.2.1
  K_one := fun h => h.2.2
  K_below := fun _ h => h
  K_of_M := fun h => h
  M_mono := fun _ h => h
  M_bound := fun h => h
  M_move := fun _ h => h
  M_lower := fun _ h => h
def S {α : Type} (d : Kd α) (e : Nat) (w : World) (base : Nat) (ok : Nat → Prop) (v : Value) (xs : List α) : Prop := ∃ f, (tag f d).R e w base ok v xs.zipIdx
section
variable {α β : Type} {d : Kd α} {d' : Kd β} {e e' : Nat} {w w1 W : World} {base b : Nat} {ok ok' okv oku : Nat → Prop} {u v : Value} {xs : List α} {ys : List β}
theorem S_nil (d : Kd α) (e : Nat) (w : World) (base : Nat) (ok : Nat → Prop) : S d e w base ok (.slice none 0 0) [] := ⟨fun _ => 0, R_nil _ _ _ _ _⟩
end
section
variable {α β : Type} {d : Kd α} {d' : Kd β} {e e' g : Nat} {w w1 W : World} {base b : Nat} {ok ok' okv oku : Nat → Prop} {u v : Value} {xs : List α} {ys : List β}
end
section
variable {P : Program} {ops : Array Oper} {rest : List Oper} {o : Oper} {a : Act} {Q : Exit → Act → World → Prop} {Kc : Act → World → Prop} {α : Type}
end
def gap {α : Type} (f : Nat → Nat) (d : Kd α) (i : Nat) (c : List Value) : Kd (α × Nat) where
  sz := d.sz
  E := d.E
  K := fun w x cs => (x.2 = i → cs = c ∧ cs.length = d.sz ∧ ∀ u ∈ cs, u.oneCell' = true) ∧ (x.2 ≠ i → d.K w x.1 cs)
  M := fun w base ok x cs => (x.2 = i → cs = c ∧ cs.length = d.sz ∧ ∀ u ∈ cs, u.oneCell' = true) ∧ (x.2 ≠ i → d.M w base (fun k => ok k ∧ f k = x.2) x.1 cs)
  K_len := fun {w x cs} h => by
    by_cases hx : x.2 = i
    · exact (h.1 hx).2.1
    · exact d.K_len (h.2 hx)
  K_one := fun {w x cs} h => by
    by_cases hx : x.2 = i
    · exact (h.1 hx).2.2
    · exact d.K_one (h.2 hx)
  K_below := fun hb h => ⟨h.1, fun hx => d.K_below hb (h.2 hx)⟩
  K_of_M := fun h => ⟨h.1, fun hx => d.K_of_M (h.2 hx)⟩
  M_mono := fun hok h => ⟨h.1, fun hx => d.M_mono (fun k hk => ⟨hok k hk.1, hk.2⟩) (h.2 hx)⟩
  M_bound := fun h => ⟨h.1, fun hx => d.M_mono (fun _ hk => ⟨⟨hk.1.1, hk.2⟩, hk.1.2⟩) (d.M_bound (h.2 hx))⟩
  M_move := fun hm h => ⟨h.1, fun hx => d.M_move (fun k hk => hm k hk.1) (h.2 hx)⟩
  M_lower := fun hb h => ⟨h.1, fun hx => d.M_lower hb (h.2 hx)⟩
def H {α : Type} (d : Kd α) (e : Nat) (w : World) (base : Nat) (ok : Nat → Prop) (v : Value) (xs : List α) (i : Int) (oki : Nat → Prop) (c : List Value) : Prop :=
  (∀ k, oki k → ok k) ∧ ∃ f, (gap f d i.toNat c).R e w base (fun k => ok k ∧ ¬ oki k) v xs.zipIdx
section
variable {α β : Type} {d : Kd α} {e e' g n cap : Nat} {w w1 W : World} {base : Nat} {ok ok' oki okp : Nat → Prop} {u v : Value} {xs : List α} {i : Int} {c : List Value}
end
section
variable {P : Program} {ops : Array Oper} {rest : List Oper} {o : Oper} {a : Act} {Q : Exit → Act → World → Prop} {α : Type}
end
end Kd
end Go.Proofs.YtgmmngipnjmkfaaGreatDoorW.PrintWords
end
section
namespace Go.Proofs.YtgmmngipnjmkfaaGreatDoorW.PrintWords
open Go.RowKit
namespace Kd
structure Heap {α : Type} (d : Kd α) : Prop where
  K : ∀ {w w1 : World} {x : α} {cs : List Value}, (∀ k, k < w.heap.size → w1.heap[k]? = w.heap[k]?) → d.K w x cs → d.K w1 x cs
theorem cell_heap {w w1 : World} (hb : ∀ k, k < w.heap.size → w1.heap[k]? = w.heap[k]?) {a : Addr} {v : Value} (h : w.cell? a = some v) : w1.cell? a = some v := by
  have := hb a.block (World.block_lt_of_cell? w a h)
  simpa [World.cell?, this] using h
theorem Heap.C {α : Type} {d : Kd α} (hd : Heap d) {w w1 : World} {A : Option Addr} {n : Nat} {xs : List α} (hb : ∀ k, k < w.heap.size → w1.heap[k]? = w.heap[k]?) (h : d.C w A n xs) : d.C w1 A n xs :=
  ⟨h.1, h.2.1, fun hn => by
    obtain ⟨ad, e, hc⟩ := h.2.2 hn
    refine ⟨ad, e, fun j p hj => ?_⟩
    obtain ⟨c, hs, hr, hcell⟩ := hc j p hj
    exact ⟨c, hs, hd.K hb hr, fun i u hu => cell_heap hb (hcell i u hu)⟩⟩
section
variable {α : Type} {d : Kd α} {e base g n c : Nat} {ok : Nat → Prop} {w w0 W : World} {A : Option Addr} {xs : List α}
theorem C_foot_now (h : ∀ W', KeepBut w W' g none → d.C W' A n xs) (hk : KeepBut w W g none) : d.C W A n xs := h W hk
end
end Kd
end Go.Proofs.YtgmmngipnjmkfaaGreatDoorW.PrintWords
end
section
namespace Go.Proofs.YtgmmngipnjmkfaaGreatDoorW.PrintWords
open Go.RowKit
def Kept (w W : World) (S : Nat → Prop) : Prop := w.heap.size ≤ W.heap.size ∧ ∀ i, i < w.heap.size → ¬ S i → W.heap[i]? = w.heap[i]?
section
variable {w W W2 : World} {S S2 S' : Nat → Prop}
theorem Kept.refl (w : World) (S : Nat → Prop) : Kept w w S := ⟨Nat.le_refl _, fun _ _ _ => rfl⟩
theorem Kept.of_below (h : Below w.heap.size w W) (S : Nat → Prop) : Kept w W S := ⟨h.size, fun i hi _ => h.block i hi⟩
theorem Kept.mono (h : Kept w W S) (hs : ∀ k, S k → S' k) : Kept w W S' := ⟨h.1, fun i hi hn => h.2 i hi (fun hk => hn (hs i hk))⟩
theorem Kept.then_ (h : Kept w W S) (k : Kept W W2 S2) (hs : ∀ k, S2 k → S k ∨ w.heap.size ≤ k) : Kept w W2 S :=
  ⟨Nat.le_trans h.1 k.1, fun i hi hn => (k.2 i (Nat.lt_of_lt_of_le hi h.1) (fun h2 => (hs i h2).elim hn (fun h3 => by omega))).trans (h.2 i hi hn)⟩
theorem Kept.of_grown {row : Option Nat} (hg : W.grownBy W2 row) (h : Kept w W S) (hr : ∀ k, row = some k → S k ∨ w.heap.size ≤ k) : Kept w W2 S :=
  h.then_ (S2 := fun k => row = some k) ⟨hg.size, fun i hi hn => hg.block i hi (fun he => hn he.symm)⟩ hr
theorem Kept.below (h : Kept w W S) (hb : Below W.heap.size W W2) : Kept w W2 S := h.then_ (Kept.of_below hb (fun _ => False)) (fun _ hk => hk.elim)
theorem Kept.alloc (h : Kept w W S) (o : Obj) : Kept w (W.alloc o) S := h.below (zab (Below.refl _ _) o)
theorem Kept.drew (h : Kept w W S) : Kept w W.drew S := h
theorem Kept.drewN (h : Kept w W S) (m : Nat) : Kept w (W.drewN m) S := h
theorem Kept.setCell (h : Kept w W S) {p : Addr} (hp : S p.block ∨ w.heap.size ≤ p.block) (u : Value) : Kept w (W.setCell p u) S :=
  h.then_ (S2 := fun k => k = p.block) ⟨by simp [World.setCell], fun i _ hn => Below.heap_setCell W p u i hn⟩ (fun k hk => by rw [hk]; exact hp)
theorem Kept.keep {g : Nat} (h : KeepBut w W g none) (k : Kept W W2 S2) (hs : ∀ k, S2 k → w.heap.size ≤ k) : KeepBut w W2 g none :=
  ⟨Nat.le_trans h.1 k.1, fun i hi hg hr => (k.2 i (Nat.lt_of_lt_of_le hi h.1) (fun h2 => by have := hs i h2; omega)).trans (h.2 i hi hg hr)⟩
theorem blk_kept {g : Nat} {o : Obj} (hb : W.heap[g]? = some o) (hk : Kept W W2 S) (hne : ¬ S g) : W2.heap[g]? = some o := (hk.2 g (blk_lt hb) hne).trans hb
theorem cell_kept {a : Addr} {v : Value} (hc : W.cell? a = some v) (hk : Kept W W2 S) (hne : ¬ S a.block) : W2.cell? a = some v := by
  have := hk.2 a.block (World.block_lt_of_cell? W a hc) hne
  simpa [World.cell?, this] using hc
end
namespace Kd
section
variable {α : Type} {d : Kd α} {e base n c : Nat} {ok oki S S2 : Nat → Prop} {w w0 W W1 W2 : World} {v : Value} {A : Option Addr} {xs : List α} {i : Int} {cs : List Value}
end
end Kd
end Go.Proofs.YtgmmngipnjmkfaaGreatDoorW.PrintWords
end
section
namespace Go.Proofs.YtgmmngipnjmkfaaGreatDoorW.PrintWords
open Go.RowKit
def Foot (P : World → Prop) (W : World) (ok : Nat → Prop) : Prop := ∀ W' : World, (∀ k, ok k → k < W.heap.size → W'.heap[k]? = W.heap[k]?) → P W'
theorem heap_lt {W W1 : World} {k : Nat} (h : W1.heap[k]? = W.heap[k]?) (hlt : k < W.heap.size) : k < W1.heap.size := by
  rw [Array.getElem?_eq_getElem hlt] at h
  exact (Array.getElem?_eq_some_iff.1 h).1
namespace Foot
variable {P Q : World → Prop} {W W1 : World} {ok ok' : Nat → Prop}
theorem mono (h : Foot P W ok) (hok : ∀ k, ok k → ok' k) : Foot P W ok' := fun W' hW => h W' (fun k hk hlt => hW k (hok k hk) hlt)
theorem step (h : Foot P W ok) (hm : ∀ k, ok k → k < W.heap.size → W1.heap[k]? = W.heap[k]?) : Foot P W1 ok := fun W' hW => h W' (fun k hk hlt => (hW k hk (heap_lt (hm k hk hlt) hlt)).trans (hm k hk hlt))
end Foot
namespace Kd
def F {α : Type} (d : Kd α) (W : World) (ok : Nat → Prop) (A : Option Addr) (n : Nat) (xs : List α) : Prop := Foot (fun W => d.C W A n xs) W ok
def FK {α : Type} (d : Kd α) (W : World) (ok : Nat → Prop) (x : α) (c : List Value) : Prop := Foot (fun W => d.K W x c) W ok
section
variable {α β : Type} {d : Kd α} {e base n n' cc g N : Nat} {ok ok' okp S : Nat → Prop} {w w0 w1 W W1 : World} {A A' : Option Addr} {u v v1 : Value} {xs : List α} {xs' : List β} {d' : Kd β} {x : α} {c : List Value}
theorem F_nil (d : Kd α) (W : World) (ok : Nat → Prop) : F d W ok none ([] : List α).length [] := fun W' _ => C_nil d W'
theorem FK_of_M (h : d.M W base ok x c) : FK d W ok x c := fun _ hW => d.K_of_M (M_step h hW)
end
end Kd
end Go.Proofs.YtgmmngipnjmkfaaGreatDoorW.PrintWords
end
section
namespace Go.Proofs.YtgmmngipnjmkfaaGreatDoorW.PrintWords
open Go.RowKit
namespace Kd
def chunks (sz : Nat) (n : Nat) (inner : List Value) : List (List Value) := (List.range n).map fun j => (inner.drop (j * sz)).take sz
theorem zcw (sz n : Nat) (inner : List Value) : (chunks sz n inner).length = n := by simp [chunks]
theorem chunks_at {sz n : Nat} {inner : List Value} {j : Nat} (hj : j < n) : (chunks sz n inner)[j]? = some ((inner.drop (j * sz)).take sz) := by simp [chunks, hj]
theorem chunks_get {sz n : Nat} {inner : List Value} {j : Nat} {c : List Value} (h : (chunks sz n inner)[j]? = some c) : c = (inner.drop (j * sz)).take sz := by
  have hj : j < n := by have := (List.getElem?_eq_some_iff.1 h).1; rwa [zcw] at this
  rw [chunks_at hj] at h
  injection h with h
  exact h.symm
theorem reps_raw {α : Type} {Rr : α → List Value → Prop} {sz : Nat} {xs : List α} {inner : List Value} (h : Reps Rr sz xs inner) (hR : ∀ x c, Rr x c → c.length = sz ∧ ∀ u ∈ c, u.oneCell' = true) : Reps (fun x cs => cs = x ∧ cs.length = sz ∧ ∀ u ∈ cs, u.oneCell' = true) sz (chunks sz xs.length inner) inner := by
  refine ⟨by rw [zcw]; exact h.1, fun j p hj => ?_⟩
  have hjl : j < xs.length := by have := (List.getElem?_eq_some_iff.1 hj).1; rwa [zcw] at this
  have hp := chunks_get hj
  exact ⟨hp.symm, hR _ _ (h.2 j _ (List.getElem?_eq_getElem hjl))⟩
section
variable {α : Type} {d : Kd α} {e base n cc g : Nat} {ok ok' okp S : Nat → Prop} {w w1 W W1 : World} {A : Option Addr} {u v v1 : Value} {xs : List α} {x : α} {c : List Value}
def N {α : Type} (d : Kd α) (e : Nat) (w : World) (base : Nat) (ok : Nat → Prop) (v : Value) (xs : List α) : Prop :=
  (∀ k, v.ownBlock = some k → ok k) ∧ ∃ rows : List (List Value), rows.length = xs.length ∧ (raw d.sz).R e w base (fun k => some k = v.ownBlock) v rows ∧ ∀ (j : Nat) (x : α) (c : List Value), xs[j]? = some x → rows[j]? = some c → FK d w (fun k => ok k ∧ some k ≠ v.ownBlock) x c
theorem R_N (h : d.R e w base ok v xs) : N d e w base ok v xs := by
  obtain ⟨h0, inner, ho, hr⟩ := h
  refine ⟨h0, chunks d.sz xs.length inner, zcw _ _ _, ⟨fun k hk => hk.symm, inner, by rw [zcw]; exact ho, reps_raw hr (fun x c hp => ⟨d.K_len (d.K_of_M hp), d.K_one (d.K_of_M hp)⟩)⟩, fun j x c hx hc => ?_⟩
  rw [chunks_get hc]
  exact FK_of_M (hr.2 j x hx)
theorem N_nil (d : Kd α) (e : Nat) (w : World) (base : Nat) (ok : Nat → Prop) : N d e w base ok (.slice none 0 0) [] := R_N (R_nil _ _ _ _ _)
end
end Kd
end Go.Proofs.YtgmmngipnjmkfaaGreatDoorW.PrintWords
end
section
namespace Go.Proofs.YtgmmngipnjmkfaaGreatDoorW.PrintWords
open Go.RowKit
section
variable {P : Program} {d : Nat} {xs ys : Array Value} {f : Field} {fs : List Field} {a b : Value} {r s : Bool} {w : World}
theorem eqf_last (hn : (f.name == "_") = false) (ha : (part f.type xs f.offset).run P w = .ok a w) (hb : (part f.type ys f.offset).run P w = .ok b w) (he : (Op.equalIn d f.type a b).run P w = .ok r w) : (Op.eqFields d xs ys [f]).run P w = .ok r w := by
  have hn' : f.name ≠ "_" := by simpa using hn
  simp only [Op.eqFields, if_pos hn', Sem.run_bind, ha, hb, he, Result.andThen_ok]
  cases r <;> simp
theorem zdu (hn : (f.name == "_") = false) (ha : (part f.type xs f.offset).run P w = .ok a w) (hb : (part f.type ys f.offset).run P w = .ok b w) (he : (Op.equalIn d f.type a b).run P w = .ok r w) (hr : (Op.eqFields d xs ys fs).run P w = .ok s w) : (Op.eqFields d xs ys (f :: fs)).run P w = .ok (r && s) w := by
  have hn' : f.name ≠ "_" := by simpa using hn
  rw [Op.eqFields]
  simp only [if_pos hn', Sem.run_bind, ha, hb, he, Result.andThen_ok]
  cases r
  · simp
  · simpa using hr
theorem eqA_of {t : TypeId} {fs : Array Field} (hu : P.underlying t = some (.struct fs)) (hp : P.stoodInHeld t = false) (h : (Op.eqFields d xs ys fs.toList).run P w = .ok r w) : (Op.equalIn (d + 1) t (.agg xs) (.agg ys)).run P w = .ok r w := by
  have hf : P.fieldsOf t = fs := by simp [Program.fieldsOf, hu]
  rw [run_equalIn_struct (P := P) w d t xs ys (by rw [hf]; exact hu) hp, hf]
  exact h
end
end Go.Proofs.YtgmmngipnjmkfaaGreatDoorW.PrintWords
end
section
namespace Go.Proofs.YtgmmngipnjmkfaaGreatDoorW.PrintWords
theorem Reps.one {α : Type} {R : α → List Value → Prop} {ps : List α} {cs : List Value} {p : α} {v : Value} (hp : R p [v]) (h : Reps R 1 ps cs) : Reps R 1 (p :: ps) (v :: cs) := by
  refine ⟨by simp [h.1], fun j q hq => ?_⟩
  cases j with
  | zero =>
    simp only [List.getElem?_cons_zero, Option.some.injEq] at hq
    subst hq
    simpa using hp
  | succ j =>
    simp only [List.getElem?_cons_succ] at hq
    have h1 := h.2 j q hq
    simpa [Nat.mul_one] using h1
theorem Reps.front {α : Type} {R : α → List Value → Prop} {size : Nat} {ps : List α} {cs c all : List Value} {p : α} (hp : R p c) (hc : c.length = size) (h : Reps R size ps cs) (ha : c ++ cs = all) : Reps R size (p :: ps) all := by
  subst ha
  refine ⟨by rw [List.length_append, hc, h.1, List.length_cons, Nat.succ_mul, Nat.add_comm], fun j q hq => ?_⟩
  cases j with
  | zero =>
    simp only [List.getElem?_cons_zero, Option.some.injEq] at hq
    subst hq
    rw [Nat.zero_mul, List.drop_zero, List.take_append_of_le_length (by omega), List.take_of_length_le (by omega)]
    exact hp
  | succ j =>
    simp only [List.getElem?_cons_succ] at hq
    have h1 := h.2 j q hq
    rw [Nat.succ_mul, List.drop_append, List.drop_of_length_le (by rw [hc]; exact Nat.le_add_left _ _), List.nil_append, hc, Nat.add_sub_cancel]
    exact h1
theorem Reps.c2 {α : Type} {R : α → List Value → Prop} {ps : List α} {cs : List Value} {p : α} {va vb : Value} (hp : R p [va, vb]) (h : Reps R 2 ps cs) : Reps R 2 (p :: ps) (va :: vb :: cs) := Reps.front hp rfl h rfl
theorem Reps.c3 {α : Type} {R : α → List Value → Prop} {ps : List α} {cs : List Value} {p : α} {va vb vc : Value} (hp : R p [va, vb, vc]) (h : Reps R 3 ps cs) : Reps R 3 (p :: ps) (va :: vb :: vc :: cs) := Reps.front hp rfl h rfl
theorem Reps.c4 {α : Type} {R : α → List Value → Prop} {ps : List α} {cs : List Value} {p : α} {va vb vc vd : Value} (hp : R p [va, vb, vc, vd]) (h : Reps R 4 ps cs) : Reps R 4 (p :: ps) (va :: vb :: vc :: vd :: cs) := Reps.front hp rfl h rfl
theorem Reps.c5 {α : Type} {R : α → List Value → Prop} {ps : List α} {cs : List Value} {p : α} {va vb vc vd ve : Value} (hp : R p [va, vb, vc, vd, ve]) (h : Reps R 5 ps cs) : Reps R 5 (p :: ps) (va :: vb :: vc :: vd :: ve :: cs) := Reps.front hp rfl h rfl
theorem Reps.c6 {α : Type} {R : α → List Value → Prop} {ps : List α} {cs : List Value} {p : α} {va vb vc vd ve vf : Value} (hp : R p [va, vb, vc, vd, ve, vf]) (h : Reps R 6 ps cs) : Reps R 6 (p :: ps) (va :: vb :: vc :: vd :: ve :: vf :: cs) := Reps.front hp rfl h rfl
theorem Reps.c7 {α : Type} {R : α → List Value → Prop} {ps : List α} {cs : List Value} {p : α} {va vb vc vd ve vf vg : Value} (hp : R p [va, vb, vc, vd, ve, vf, vg]) (h : Reps R 7 ps cs) : Reps R 7 (p :: ps) (va :: vb :: vc :: vd :: ve :: vf :: vg :: cs) := Reps.front hp rfl h rfl
theorem Reps.c8 {α : Type} {R : α → List Value → Prop} {ps : List α} {cs : List Value} {p : α} {va vb vc vd ve vf vg vh : Value} (hp : R p [va, vb, vc, vd, ve, vf, vg, vh]) (h : Reps R 8 ps cs) : Reps R 8 (p :: ps) (va :: vb :: vc :: vd :: ve :: vf :: vg :: vh :: cs) := Reps.front hp rfl h rfl
theorem Reps.c9 {α : Type} {R : α → List Value → Prop} {ps : List α} {cs : List Value} {p : α} {va vb vc vd ve vf vg vh vi : Value} (hp : R p [va, vb, vc, vd, ve, vf, vg, vh, vi]) (h : Reps R 9 ps cs) : Reps R 9 (p :: ps) (va :: vb :: vc :: vd :: ve :: vf :: vg :: vh :: vi :: cs) := Reps.front hp rfl h rfl
theorem Reps.c10 {α : Type} {R : α → List Value → Prop} {ps : List α} {cs : List Value} {p : α} {va vb vc vd ve vf vg vh vi vj : Value} (hp : R p [va, vb, vc, vd, ve, vf, vg, vh, vi, vj]) (h : Reps R 10 ps cs) : Reps R 10 (p :: ps) (va :: vb :: vc :: vd :: ve :: vf :: vg :: vh :: vi :: vj :: cs) := Reps.front hp rfl h rfl
end Go.Proofs.YtgmmngipnjmkfaaGreatDoorW.PrintWords
end
section
namespace Go.Proofs.YtgmmngipnjmkfaaGreatDoorW.PrintLast
def up (b : Nat → Bool) (i : Nat) : Nat → Bool := fun j => if j = i then true else b j
section
variable {P : Program} {ops : Array Oper} {Q : Exit → Act → World → Prop} {md : Region.Mode} {T : Bool × List (List Nat × List Nat)} {B : List Nat} {O : List Nat} {b : Nat → Bool} {i j n : Nat}
end
end Go.Proofs.YtgmmngipnjmkfaaGreatDoorW.PrintLast
end
section
namespace Go.Proofs.YtgmmngipnjmkfaaGreatDoorW.PrintWords
open Go.RowKit
section
variable {P : Program} {ops : Array Oper} {rest : List Oper} {o : Oper} {a : Act} {Q : Exit → Act → World → Prop} {W : World}
theorem zb3 (hw : Region.wanted o (yielded ops a.tmps) = true) (h : wpList P ops Q ({ o with guard := none } :: rest) a W) : wpList P ops Q (o :: rest) a W := by
  have h1 : Region.wanted { o with guard := none } (yielded ops a.tmps) = true := rfl
  unfold wpList at h ⊢
  rw [if_pos h1] at h
  rw [if_pos hw]
  exact h
end
end Go.Proofs.YtgmmngipnjmkfaaGreatDoorW.PrintWords
end
section
namespace Go.Proofs.YtgmmngipnjmkfaaGreatDoorW.PrintMore
open Go.RowKit Go.Proofs.YtgmmngipnjmkfaaGreatDoorW.PrintWords
namespace Kd
open Go.Proofs.YtgmmngipnjmkfaaGreatDoorW.PrintWords.Kd
end Kd
namespace Kd
open Go.Proofs.YtgmmngipnjmkfaaGreatDoorW.PrintWords.Kd
section
variable {α : Type} {d : Kd α} {e base g N : Nat} {ok : Nat → Prop} {W w1 : World} {u v : Value} {xs : List α}
end
end Kd
theorem zda (k k' : IntKind) (x y : Int) : Builtin.max2 (.int k x) (.int k' y) = pure (.int k (if x < y then y else x)) := by simp only [Builtin.max2, gt_iff_lt]
theorem zdb (k k' : IntKind) (x y : Int) : Builtin.min2 (.int k x) (.int k' y) = pure (.int k (if y < x then y else x)) := by simp only [Builtin.min2]
theorem zdm (ats : Array TypeId) (ty : TypeId) (a b : Value) : Builtin.max_ ats ty #[a, b] = (Builtin.max2 a b >>= fun s => pure s) := by simp only [Builtin.max_, List.foldlM_cons, List.foldlM_nil]
theorem zdn (ats : Array TypeId) (ty : TypeId) (a b : Value) : Builtin.min_ ats ty #[a, b] = (Builtin.min2 a b >>= fun s => pure s) := by simp only [Builtin.min_, List.foldlM_cons, List.foldlM_nil]
theorem zcq (ats : Array TypeId) (ty : TypeId) (a b c : Value) : Builtin.max_ ats ty #[a, b, c] = (Builtin.max2 a b >>= fun s => Builtin.max2 s c >>= fun s => pure s) := by simp only [Builtin.max_, List.foldlM_cons, List.foldlM_nil]
theorem zcr (ats : Array TypeId) (ty : TypeId) (a b c : Value) : Builtin.min_ ats ty #[a, b, c] = (Builtin.min2 a b >>= fun s => Builtin.min2 s c >>= fun s => pure s) := by simp only [Builtin.min_, List.foldlM_cons, List.foldlM_nil]
theorem zdc (ats : Array TypeId) (ty : TypeId) (a b c d : Value) : Builtin.max_ ats ty #[a, b, c, d] = (Builtin.max2 a b >>= fun s => Builtin.max2 s c >>= fun s => Builtin.max2 s d >>= fun s => pure s) := by simp only [Builtin.max_, List.foldlM_cons, List.foldlM_nil]
theorem zdd (ats : Array TypeId) (ty : TypeId) (a b c d : Value) : Builtin.min_ ats ty #[a, b, c, d] = (Builtin.min2 a b >>= fun s => Builtin.min2 s c >>= fun s => Builtin.min2 s d >>= fun s => pure s) := by simp only [Builtin.min_, List.foldlM_cons, List.foldlM_nil]
end Go.Proofs.YtgmmngipnjmkfaaGreatDoorW.PrintMore
namespace Go.Proofs.YtgmmngipnjmkfaaGreatDoorW.PrintWords
open Go.RowKit
section
variable {P : Program} {ops : Array Oper} {rest : List Oper} {o : Oper} {a : Act} {Q : Exit → Act → World → Prop} {W : World}
theorem zan {f : FuncId} {as : Array Operand} {ts : Array TypeId} (_ho : o.op = .call { callee := .value (.func f), args := as, argTypes := ts }) (h : wpList P ops Q (o :: rest) a W) : wpList P ops Q (o :: rest) a W := h
theorem zbe {b : Builtin} {xs : Array Operand} {ts : Array TypeId} (_ho : o.op = .call { callee := .builtin b, args := xs, argTypes := ts }) (h : wpList P ops Q (o :: rest) a W) : wpList P ops Q (o :: rest) a W := h
end
namespace Kd
section
variable {α : Type} {d : Kd α} {e base : Nat} {ok : Nat → Prop} {W w1 : World} {v : Value} {xs : List α}
end
section
variable {α : Type} {d : Kd α} {e base g n cap : Nat} {ok oki okp : Nat → Prop} {W : World} {xs : List α} {i : Int} {c : List Value}
end
section
variable {α : Type} {d : Kd α} {e base b b' g N : Nat} {ok ok1 : Nat → Prop} {W W2 w1 : World} {u v : Value} {xs ys : List α} {S : Nat → Prop}
end
end Kd
end Go.Proofs.YtgmmngipnjmkfaaGreatDoorW.PrintWords
namespace Go.Proofs.YtgmmngipnjmkfaaGreatDoorW.PrintWords
open Go.RowKit
namespace Kd
def V {α : Type} (d : Kd α) (_e : Nat) (W : World) (_base : Nat) (ok : Nat → Prop) (v : Value) (xs : List α) : Prop := ∃ A c, v = .slice A xs.length c ∧ xs.length ≤ c ∧ F d W ok A xs.length xs
section
variable {α β : Type} {d : Kd α} {e base base' n m c g N' lo hi : Nat} {ok ok' S : Nat → Prop} {w W w1 : World} {A : Option Addr} {ad : Addr} {u v v1 : Value} {xs : List α}
theorem V_nil (d : Kd α) (e : Nat) (W : World) (base : Nat) (ok : Nat → Prop) : V d e W base ok (.slice none 0 0) [] := ⟨none, 0, rfl, Nat.le_refl _, F_nil d W ok⟩
end
end Kd
end Go.Proofs.YtgmmngipnjmkfaaGreatDoorW.PrintWords
end
section
namespace Go.Proofs.YtgmmngipnjmkfaaGreatDoor.Pure
inductive Tr where
  | leaf (kind n p : Int)
  | un (kind p : Int) (a : Tr)
  | bin (kind p : Int) (a b : Tr)
namespace Tr
def size : Tr → Nat
  | leaf .. => 1
  | un _ _ a => size a + 1
  | bin _ _ a b => size a + size b + 1
def depth : Tr → Nat
  | leaf .. => 1
  | un _ _ a => depth a + 1
  | bin _ _ a b => max (depth a) (depth b) + 1
def WF : Tr → Prop
  | leaf k n p => 1 ≤ k ∧ k ≤ 4 ∧ 0 ≤ n ∧ n ≤ 9223372036854775807 ∧ (n = 0 ∨ k = 1) ∧ 0 ≤ p ∧ p ≤ 400
  | un k p a => (k = 5 ∨ k = 6) ∧ 0 ≤ p ∧ p ≤ 400 ∧ WF a
  | bin k p a b => 7 ≤ k ∧ k ≤ 19 ∧ 0 ≤ p ∧ p ≤ 400 ∧ WF a ∧ WF b
def ok (t : Tr) : Prop := t.WF ∧ t.size ≤ 60 ∧ t.depth ≤ 20
theorem size_pos (t : Tr) : 0 < t.size := by cases t <;> simp [size]
theorem depth_pos (t : Tr) : 0 < t.depth := by cases t <;> simp [depth]
end Tr
structure Ct where
  c : Nat
  v : Int
  p : Int
def cdAt (L : List Ct) (i : Nat) : Nat := match L[i]? with | some t => t.c | none => 0
def valAt (L : List Ct) (i : Nat) : Int := match L[i]? with | some t => t.v | none => 0
def posAt (L : List Ct) (i : Nat) : Int := match L[i]? with | some t => t.p | none => 0
inductive Res where
  | ok (t : Tr) (q : Nat)
  | bad (e : Int) (q : Nat)
inductive Job where
  | expr (s : Nat)
  | opnd (s : Nat)
  | front (s : Nat)
  | prim
  | loop (s : Nat) (l : Tr)
def bindsN (k : Nat) : Nat := if k = 7 then 6 else if k ≤ 9 then 5 else if k ≤ 11 then 4 else if k ≤ 17 then 3 else if k = 18 then 2 else 1
def mkRes (t : Tr) (token next : Nat) : Res := if 60 < t.size then .bad 4 token else if 20 < t.depth then .bad 34 token else .ok t next
def lead (c : Nat) : List Ct → Nat
  | [] => 0
  | t :: r => if t.c = c then lead c r + 1 else 0
def wrapN (L : List Ct) (kind : Int) (a : Nat) : Nat → Res → Res
  | 0, r => r
  | _ + 1, .bad e q => .bad e q
  | n + 1, .ok t q => wrapN L kind a n (mkRes (.un kind (posAt L (a + n)) t) (a + n) q)
def run (L : List Ct) : Nat → Job → Nat → Option Res
  | 0, _, _ => none
  | k + 1, .expr s, a =>
    match run L k (.opnd s) a with
    | none => none
    | some (.bad e q) => some (.bad e q)
    | some (.ok t q) => run L k (.loop s t) q
  | k + 1, .opnd s, a => if s = 2 ∨ s = 6 then run L k (.front s) a else run L k (.expr (s + 1)) a
  | k + 1, .front s, a =>
    if s ≤ 2 then
      match run L k (.expr 3) (a + lead 20 (L.drop a)) with
      | none => none
      | some r => some (wrapN L 6 a (lead 20 (L.drop a)) r)
    else
      match run L k .prim (a + lead 9 (L.drop a)) with
      | none => none
      | some r => some (wrapN L 5 a (lead 9 (L.drop a)) r)
  | k + 1, .prim, a =>
    if cdAt L a = 1 then some (.ok (.leaf 1 (valAt L a) (posAt L a)) (a + 1))
    else if 2 ≤ cdAt L a ∧ cdAt L a ≤ 4 then some (.ok (.leaf (cdAt L a) 0 (posAt L a)) (a + 1))
    else if cdAt L a = 5 then
      match run L k (.expr 1) (a + 1) with
      | none => none
      | some (.bad e q) => some (.bad e q)
      | some (.ok t q) => if cdAt L q = 6 then some (.ok t (q + 1)) else some (.bad 12 q)
    else some (.bad 12 a)
  | k + 1, .loop s l, a =>
    if 7 ≤ cdAt L a ∧ cdAt L a ≤ 19 ∧ bindsN (cdAt L a) = s then
      match run L k (.opnd s) (a + 1) with
      | none => none
      | some (.bad e q) => some (.bad e q)
      | some (.ok r q) =>
        match mkRes (.bin (cdAt L a) (posAt L a) l r) a q with
        | .bad e q => some (.bad e q)
        | .ok t q => if s = 3 then some (.ok t q) else run L k (.loop s t) q
    else some (.ok l a)
theorem cdAt_lt {L : List Ct} {i : Nat} (h : cdAt L i ≠ 0) : i < L.length := by
  unfold cdAt at h
  rcases Nat.lt_or_ge i L.length with h1 | h1
  · exact h1
  · rw [List.getElem?_eq_none h1] at h; exact absurd rfl h
theorem lead_le (c : Nat) (L : List Ct) : lead c L ≤ L.length := by
  induction L with
  | nil => exact Nat.le_refl _
  | cons t r ih =>
    simp only [lead]
    split
    · simp only [List.length_cons]; omega
    · exact Nat.zero_le _
theorem lead_le' (c : Nat) (L : List Ct) (a : Nat) (ha : a ≤ L.length) : a + lead c (L.drop a) ≤ L.length := by
  have := lead_le c (L.drop a)
  rw [List.length_drop] at this; omega
theorem lead_at (c : Nat) : ∀ (L : List Ct) (i : Nat), i < lead c L → cdAt L i = c
  | [], i, h => by simp [lead] at h
  | t :: r, i, h => by
    simp only [lead] at h
    split at h
    · next ht =>
      cases i with
      | zero => simpa [cdAt] using ht
      | succ i =>
        have := lead_at c r i (by omega)
        simpa [cdAt] using this
    · omega
theorem cdAt_drop (L : List Ct) (a i : Nat) : cdAt (L.drop a) i = cdAt L (a + i) := by
  unfold cdAt; rw [List.getElem?_drop]
theorem lead_drop (c : Nat) (L : List Ct) (a i : Nat) (h : i < lead c (L.drop a)) : cdAt L (a + i) = c := by
  rw [← cdAt_drop]; exact lead_at c _ i h
theorem lead_stop (c : Nat) (hc : c ≠ 0) : ∀ (L : List Ct), cdAt L (lead c L) ≠ c
  | [], h => hc h.symm
  | t :: r, h => by
    simp only [lead] at h
    split at h
    · next ht =>
      have : cdAt (t :: r) (lead c r + 1) = cdAt r (lead c r) := by simp [cdAt]
      exact lead_stop c hc r (by rw [← this]; exact h)
    · next ht => simp [cdAt] at h; exact ht h
theorem zc3 (t : Tr) (token next : Nat) : (mkRes t token next = .ok t next ∧ t.size ≤ 60 ∧ t.depth ≤ 20) ∨ (∃ e, mkRes t token next = .bad e token ∧ (e = 4 ∨ e = 34)) := by
  unfold mkRes
  by_cases h1 : 60 < t.size
  · rw [if_pos h1]; exact .inr ⟨4, rfl, .inl rfl⟩
  · rw [if_neg h1]
    by_cases h2 : 20 < t.depth
    · rw [if_pos h2]; exact .inr ⟨34, rfl, .inr rfl⟩
    · rw [if_neg h2]; exact .inl ⟨rfl, by omega, by omega⟩
theorem mkRes_fits {t : Tr} (token next : Nat) (h1 : t.size ≤ 60) (h2 : t.depth ≤ 20) : mkRes t token next = .ok t next := by
  unfold mkRes; rw [if_neg (by omega), if_neg (by omega)]
theorem wrapN_bad (L : List Ct) (kind : Int) (a n : Nat) (e : Int) (q : Nat) : wrapN L kind a n (.bad e q) = .bad e q := by
  cases n <;> rfl
def rk : Job → Nat
  | .prim => 0
  | .front s => if s ≤ 2 then 10 else 1
  | .opnd s => 14 - 2 * s + (if s ≤ 2 then 1 else 0)
  | .expr s => 15 - 2 * s + (if s ≤ 2 then 1 else 0)
  | .loop _ _ => 0
def good : Job → Prop
  | .prim => True
  | .front s => s = 2 ∨ s = 6
  | .opnd s => 1 ≤ s ∧ s ≤ 6
  | .expr s => 1 ≤ s ∧ s ≤ 6
  | .loop s _ => 1 ≤ s ∧ s ≤ 6
def behind (L : List Ct) (j : Job) (a : Nat) : Res → Prop
  | .ok _ q => q ≤ L.length ∧ (match j with | .loop _ _ => a ≤ q | _ => a < q)
  | .bad _ q => a ≤ q ∧ q ≤ L.length
theorem wrapN_behind (L : List Ct) (kind : Int) (j : Job) (hj : ∀ s l, j ≠ .loop s l) (a : Nat) : ∀ (n : Nat) (r : Res), a + n ≤ L.length → (match r with | .ok _ q => q ≤ L.length ∧ a < q | .bad _ q => a ≤ q ∧ q ≤ L.length) → behind L j a (wrapN L kind a n r)
  | 0, r, _, h => by
    cases r with
    | ok t q =>
      refine ⟨h.1, ?_⟩
      cases j with
      | loop s l => exact absurd rfl (hj s l)
      | _ => exact h.2
    | bad e q => exact h
  | n + 1, .bad e q, _, h => h
  | n + 1, .ok t q, ha, h => by
    simp only [wrapN]
    refine wrapN_behind L kind j hj a n _ (by omega) ?_
    rcases zc3 (.un kind (posAt L (a + n)) t) (a + n) q with ⟨e, _⟩ | ⟨e, he, _⟩
    · rw [e]; exact h
    · rw [he]; exact ⟨by omega, by omega⟩
theorem run_ends (L : List Ct) : ∀ (k : Nat) (j : Job) (a : Nat), good j → a ≤ L.length → 20 * (L.length - a) + rk j < k → ∃ r, run L k j a = some r ∧ behind L j a r := by
  intro k
  induction k with
  | zero => intro j a _ _ h; omega
  | succ k ih =>
    intro j a hg ha hk
    cases j with
    | expr s =>
      simp only [good] at hg
      obtain ⟨r, hr, hb⟩ := ih (.opnd s) a hg ha (by simp only [rk] at hk ⊢; omega)
      cases r with
      | bad e q => exact ⟨.bad e q, by simp only [run, hr], hb⟩
      | ok t q =>
        obtain ⟨r2, hr2, hb2⟩ := ih (.loop s t) q hg hb.1 (by
          have h1 : a < q := hb.2
          have h2 := hb.1
          simp only [rk] at hk ⊢; omega)
        refine ⟨r2, by simp only [run, hr]; exact hr2, ?_⟩
        have h1 : a < q := hb.2
        cases r2 with
        | ok t2 q2 => exact ⟨hb2.1, by have h2 : q ≤ q2 := hb2.2; show a < q2; omega⟩
        | bad e q2 => exact ⟨by have := hb2.1; omega, hb2.2⟩
    | opnd s =>
      simp only [good] at hg
      by_cases hs : s = 2 ∨ s = 6
      · obtain ⟨r, hr, hb⟩ := ih (.front s) a hs ha (by rcases hs with rfl | rfl <;> simp [rk] at hk ⊢ <;> omega)
        refine ⟨r, by simp only [run]; rw [if_pos hs]; exact hr, ?_⟩
        cases r <;> exact hb
      · obtain ⟨r, hr, hb⟩ := ih (.expr (s + 1)) a ⟨by omega, by omega⟩ ha (by
          have h1 : s ≠ 2 := fun h => hs (.inl h)
          have h2 : s ≠ 6 := fun h => hs (.inr h)
          simp only [rk] at hk ⊢
          split at hk <;> split <;> omega)
        refine ⟨r, by simp only [run]; rw [if_neg hs]; exact hr, ?_⟩
        cases r <;> exact hb
    | front s =>
      simp only [good] at hg
      by_cases hs : s ≤ 2
      · have hl := lead_le' 20 L a ha
        obtain ⟨r, hr, hb⟩ := ih (.expr 3) (a + lead 20 (L.drop a)) ⟨by omega, by omega⟩ hl (by simp [rk, hs] at hk ⊢; omega)
        refine ⟨_, by simp only [run]; rw [if_pos hs, hr], wrapN_behind L 6 _ (by intro s l h; cases h) a _ r hl ?_⟩
        cases r with
        | ok t q => exact ⟨hb.1, by have h : a + lead 20 (L.drop a) < q := hb.2; omega⟩
        | bad e q => exact ⟨by have := hb.1; omega, hb.2⟩
      · have hl := lead_le' 9 L a ha
        obtain ⟨r, hr, hb⟩ := ih .prim (a + lead 9 (L.drop a)) trivial hl (by simp [rk, hs] at hk ⊢; omega)
        refine ⟨_, by simp only [run]; rw [if_neg hs, hr], wrapN_behind L 5 _ (by intro s l h; cases h) a _ r hl ?_⟩
        cases r with
        | ok t q => exact ⟨hb.1, by have h : a + lead 9 (L.drop a) < q := hb.2; omega⟩
        | bad e q => exact ⟨by have := hb.1; omega, hb.2⟩
    | prim =>
      simp only [run]
      by_cases h1 : cdAt L a = 1
      · have := cdAt_lt (L := L) (i := a) (by omega)
        rw [if_pos h1]; exact ⟨_, rfl, by omega, by show a < a + 1; omega⟩
      · rw [if_neg h1]
        by_cases h2 : 2 ≤ cdAt L a ∧ cdAt L a ≤ 4
        · have := cdAt_lt (L := L) (i := a) (by omega)
          rw [if_pos h2]; exact ⟨_, rfl, by omega, by show a < a + 1; omega⟩
        · rw [if_neg h2]
          by_cases h5 : cdAt L a = 5
          · have hlt := cdAt_lt (L := L) (i := a) (by omega)
            rw [if_pos h5]
            obtain ⟨r, hr, hb⟩ := ih (.expr 1) (a + 1) ⟨by omega, by omega⟩ (by omega) (by simp [rk] at hk ⊢; omega)
            rw [hr]
            cases r with
            | bad e q => exact ⟨_, rfl, by have := hb.1; omega, hb.2⟩
            | ok t q =>
              have h3 : a + 1 < q := hb.2
              by_cases h6 : cdAt L q = 6
              · have := cdAt_lt (L := L) (i := q) (by omega)
                simp only [if_pos h6]; exact ⟨_, rfl, by omega, by show a < q + 1; omega⟩
              · simp only [if_neg h6]; exact ⟨_, rfl, by omega, hb.1⟩
          · rw [if_neg h5]; exact ⟨_, rfl, Nat.le_refl _, ha⟩
    | loop s l =>
      simp only [good] at hg
      simp only [run]
      by_cases h1 : 7 ≤ cdAt L a ∧ cdAt L a ≤ 19 ∧ bindsN (cdAt L a) = s
      · have hlt := cdAt_lt (L := L) (i := a) (by omega)
        rw [if_pos h1]
        obtain ⟨r, hr, hb⟩ := ih (.opnd s) (a + 1) hg (by omega) (by simp only [rk] at hk ⊢; split <;> omega)
        rw [hr]
        cases r with
        | bad e q => exact ⟨_, rfl, by have := hb.1; omega, hb.2⟩
        | ok r q =>
          have h3 : a + 1 < q := hb.2
          have h4 := hb.1
          simp only
          rcases zc3 (.bin (cdAt L a) (posAt L a) l r) a q with ⟨e, _⟩ | ⟨e, he, _⟩
          · rw [e]
            by_cases hs : s = 3
            · simp only [if_pos hs]; exact ⟨_, rfl, h4, by show a ≤ q; omega⟩
            · simp only [if_neg hs]
              obtain ⟨r2, hr2, hb2⟩ := ih (.loop s (.bin (cdAt L a) (posAt L a) l r)) q hg h4 (by simp only [rk] at hk ⊢; omega)
              refine ⟨r2, hr2, ?_⟩
              cases r2 with
              | ok t2 q2 => exact ⟨hb2.1, by have h2 : q ≤ q2 := hb2.2; show a ≤ q2; omega⟩
              | bad e q2 => exact ⟨by have := hb2.1; omega, hb2.2⟩
          · rw [he]; exact ⟨_, rfl, Nat.le_refl _, ha⟩
      · rw [if_neg h1]; exact ⟨_, rfl, ha, Nat.le_refl _⟩
theorem run_more (L : List Ct) : ∀ (k : Nat) (j : Job) (a : Nat) (r : Res), run L k j a = some r → run L (k + 1) j a = some r := by
  intro k
  induction k with
  | zero => intro j a r h; cases h
  | succ k ih =>
    intro j a r h
    cases j with
    | expr s =>
      simp only [run] at h
      have e : run L (k + 1 + 1) (.expr s) a = match run L (k + 1) (.opnd s) a with | none => none | some (.bad e q) => some (.bad e q) | some (.ok t q) => run L (k + 1) (.loop s t) q := rfl
      rw [e]
      cases h1 : run L k (.opnd s) a with
      | none => rw [h1] at h; cases h
      | some r1 =>
        rw [h1] at h
        rw [ih _ _ _ h1]
        cases r1 with
        | bad e q => exact h
        | ok t q => exact ih _ _ _ h
    | opnd s =>
      simp only [run] at h
      have e : run L (k + 1 + 1) (.opnd s) a = if s = 2 ∨ s = 6 then run L (k + 1) (.front s) a else run L (k + 1) (.expr (s + 1)) a := rfl
      rw [e]
      by_cases hs : s = 2 ∨ s = 6
      · rw [if_pos hs] at h ⊢; exact ih _ _ _ h
      · rw [if_neg hs] at h ⊢; exact ih _ _ _ h
    | front s =>
      simp only [run] at h
      have e : run L (k + 1 + 1) (.front s) a = if s ≤ 2 then (match run L (k + 1) (.expr 3) (a + lead 20 (L.drop a)) with | none => none | some r => some (wrapN L 6 a (lead 20 (L.drop a)) r)) else (match run L (k + 1) .prim (a + lead 9 (L.drop a)) with | none => none | some r => some (wrapN L 5 a (lead 9 (L.drop a)) r)) := rfl
      rw [e]
      by_cases hs : s ≤ 2
      · rw [if_pos hs] at h ⊢
        cases h1 : run L k (.expr 3) (a + lead 20 (L.drop a)) with
        | none => rw [h1] at h; cases h
        | some r1 => rw [h1] at h; rw [ih _ _ _ h1]; exact h
      · rw [if_neg hs] at h ⊢
        cases h1 : run L k .prim (a + lead 9 (L.drop a)) with
        | none => rw [h1] at h; cases h
        | some r1 => rw [h1] at h; rw [ih _ _ _ h1]; exact h
    | prim =>
      simp only [run] at h
      have e : run L (k + 1 + 1) .prim a = if cdAt L a = 1 then some (.ok (.leaf 1 (valAt L a) (posAt L a)) (a + 1)) else if 2 ≤ cdAt L a ∧ cdAt L a ≤ 4 then some (.ok (.leaf (cdAt L a) 0 (posAt L a)) (a + 1)) else if cdAt L a = 5 then (match run L (k + 1) (.expr 1) (a + 1) with | none => none | some (.bad e q) => some (.bad e q) | some (.ok t q) => if cdAt L q = 6 then some (.ok t (q + 1)) else some (.bad 12 q)) else some (.bad 12 a) := rfl
      rw [e]
      by_cases h1 : cdAt L a = 1
      · rw [if_pos h1] at h ⊢; exact h
      · rw [if_neg h1] at h ⊢
        by_cases h2 : 2 ≤ cdAt L a ∧ cdAt L a ≤ 4
        · rw [if_pos h2] at h ⊢; exact h
        · rw [if_neg h2] at h ⊢
          by_cases h5 : cdAt L a = 5
          · rw [if_pos h5] at h ⊢
            cases h6 : run L k (.expr 1) (a + 1) with
            | none => rw [h6] at h; cases h
            | some r1 => rw [h6] at h; rw [ih _ _ _ h6]; exact h
          · rw [if_neg h5] at h ⊢; exact h
    | loop s l =>
      simp only [run] at h
      have e : run L (k + 1 + 1) (.loop s l) a = if 7 ≤ cdAt L a ∧ cdAt L a ≤ 19 ∧ bindsN (cdAt L a) = s then (match run L (k + 1) (.opnd s) (a + 1) with | none => none | some (.bad e q) => some (.bad e q) | some (.ok r q) => (match mkRes (.bin (cdAt L a) (posAt L a) l r) a q with | .bad e q => some (.bad e q) | .ok t q => if s = 3 then some (.ok t q) else run L (k + 1) (.loop s t) q)) else some (.ok l a) := rfl
      rw [e]
      by_cases h1 : 7 ≤ cdAt L a ∧ cdAt L a ≤ 19 ∧ bindsN (cdAt L a) = s
      · rw [if_pos h1] at h ⊢
        cases h2 : run L k (.opnd s) (a + 1) with
        | none => rw [h2] at h; cases h
        | some r1 =>
          rw [h2] at h
          rw [ih _ _ _ h2]
          cases r1 with
          | bad e q => exact h
          | ok r q =>
            simp only at h ⊢
            cases h3 : mkRes (.bin (cdAt L a) (posAt L a) l r) a q with
            | bad e q => rw [h3] at h; exact h
            | ok t q =>
              rw [h3] at h
              simp only at h ⊢
              by_cases hs : s = 3
              · rw [if_pos hs] at h ⊢; exact h
              · rw [if_neg hs] at h ⊢; exact ih _ _ _ h
      · rw [if_neg h1] at h ⊢; exact h
theorem run_le (L : List Ct) {k k' : Nat} (hk : k ≤ k') {j : Job} {a : Nat} {r : Res} (h : run L k j a = some r) : run L k' j a = some r := by
  obtain ⟨d, rfl⟩ := Nat.exists_eq_add_of_le hk
  clear hk
  induction d with
  | zero => exact h
  | succ d ih => exact run_more L _ _ _ _ ih
end Go.Proofs.YtgmmngipnjmkfaaGreatDoor.Pure
end
section
namespace Go.Proofs.YtgmmngipnjmkfaaGreatDoor.Pure
def E (L : List Ct) (s a : Nat) (r : Res) : Prop := ∃ k, run L k (.expr s) a = some r
def O (L : List Ct) (s a : Nat) (r : Res) : Prop := ∃ k, run L k (.opnd s) a = some r
def P (L : List Ct) (a : Nat) (r : Res) : Prop := ∃ k, run L k .prim a = some r
variable {L : List Ct} {s a q : Nat} {t l : Tr} {r : Res}
def Sim : Tr → Tr → Prop
  | .leaf k n _, .leaf k' n' _ => k = k' ∧ n = n'
  | .un k _ a, .un k' _ a' => k = k' ∧ Sim a a'
  | .bin k _ a b, .bin k' _ a' b' => k = k' ∧ Sim a a' ∧ Sim b b'
  | _, _ => False
theorem Sim.size : ∀ {t t' : Tr}, Sim t t' → t'.size = t.size
  | .leaf .., .leaf .., _ => rfl
  | .un _ _ _, .un _ _ _, h => by simp [Tr.size, Sim.size h.2]
  | .bin _ _ _ _, .bin _ _ _ _, h => by simp [Tr.size, Sim.size h.2.1, Sim.size h.2.2]
  | .leaf .., .un .., h => h.elim
  | .leaf .., .bin .., h => h.elim
  | .un .., .leaf .., h => h.elim
  | .un .., .bin .., h => h.elim
  | .bin .., .leaf .., h => h.elim
  | .bin .., .un .., h => h.elim
theorem Sim.depth : ∀ {t t' : Tr}, Sim t t' → t'.depth = t.depth
  | .leaf .., .leaf .., _ => rfl
  | .un _ _ _, .un _ _ _, h => by simp [Tr.depth, Sim.depth h.2]
  | .bin _ _ _ _, .bin _ _ _ _, h => by simp [Tr.depth, Sim.depth h.2.1, Sim.depth h.2.2]
  | .leaf .., .un .., h => h.elim
  | .leaf .., .bin .., h => h.elim
  | .un .., .leaf .., h => h.elim
  | .un .., .bin .., h => h.elim
  | .bin .., .leaf .., h => h.elim
  | .bin .., .un .., h => h.elim
def isLeaf : Tr → Bool
  | .leaf .. => true
  | _ => false
def br (b : Bool) (l : List (Nat × Int)) : List (Nat × Int) := if b then l else (5, 0) :: (l ++ [(6, 0)])
def tk : Tr → List (Nat × Int)
  | .leaf k n _ => [(k.toNat, n)]
  | .un k _ a => (if k = 5 then 9 else 20, 0) :: br (isLeaf a) (tk a)
  | .bin k _ a b => br (isLeaf a) (tk a) ++ (k.toNat, 0) :: br (isLeaf b) (tk b)
def pt (t : Tr) : List (Nat × Int) := br (isLeaf t) (tk t)
def Seg (L : List Ct) (a : Nat) (cs : List (Nat × Int)) : Prop := ∀ i c v, cs[i]? = some (c, v) → cdAt L (a + i) = c ∧ (c = 1 → valAt L (a + i) = v)
theorem Seg.left {cs ds : List (Nat × Int)} (h : Seg L a (cs ++ ds)) : Seg L a cs := fun i c v hi => h i c v (by
  rw [List.getElem?_append_left (List.getElem?_eq_some_iff.1 hi).1]; exact hi)
theorem Seg.right {cs ds : List (Nat × Int)} (h : Seg L a (cs ++ ds)) : Seg L (a + cs.length) ds := fun i c v hi => by
  have := h (cs.length + i) c v (by rw [List.getElem?_append_right (by omega), Nat.add_sub_cancel_left]; exact hi)
  rwa [← Nat.add_assoc] at this
theorem Seg.tail {c : Nat} {v : Int} {cs : List (Nat × Int)} (h : Seg L a ((c, v) :: cs)) : Seg L (a + 1) cs := Seg.right (cs := [(c, v)]) h
end Go.Proofs.YtgmmngipnjmkfaaGreatDoor.Pure
end
section
namespace Go.Proofs.YtgmmngipnjmkfaaGreatDoor.Pure
set_option linter.unusedVariables false
variable {L : List Ct} {a : Nat}
def off (t : Tr) : Nat := if isLeaf t then 0 else 1
end Go.Proofs.YtgmmngipnjmkfaaGreatDoor.Pure
end
section
namespace Go.Proofs.YtgmmngipnjmkfaaGreatDoor.Pure
def sl (L : List Ct) (a q : Nat) : List Ct := (L.drop a).take (q - a)
theorem sl_self (L : List Ct) (a : Nat) : sl L a a = [] := by simp [sl]
theorem zc0 (L : List Ct) {a b q : Nat} (h1 : a ≤ b) (h2 : b ≤ q) : sl L a q = sl L a b ++ sl L b q := by
  unfold sl
  rw [show q - a = (b - a) + (q - b) by omega, List.take_add, List.drop_drop, show a + (b - a) = b by omega]
theorem sl_one (L : List Ct) {a : Nat} (h : cdAt L a ≠ 0) : sl L a (a + 1) = [⟨cdAt L a, valAt L a, posAt L a⟩] := by
  have hl := cdAt_lt h
  unfold sl cdAt valAt posAt
  rw [show a + 1 - a = 1 by omega, List.drop_eq_getElem_cons hl, List.getElem?_eq_getElem hl]
  rfl
def evp : Tr → List Int
  | .leaf _ _ p => [p]
  | .un _ p a => evp a ++ [p]
  | .bin _ p a b => evp a ++ (evp b ++ [p])
def nums : Tr → List (Int × Int)
  | .leaf k n p => if k = 1 then [(n, p)] else []
  | .un _ _ a => nums a
  | .bin _ _ a b => nums a ++ nums b
def plainT (t : Ct) : Bool := t.c != 5 && t.c != 6
def places (S : List Ct) : List Int := (S.filter plainT).map (·.p)
def numT (S : List Ct) : List (Int × Int) := (S.filter (fun t => t.c == 1)).map (fun t => (t.v, t.p))
def scan : List Ct → Nat → Option Nat
  | [], d => some d
  | t :: r, d => if t.c = 5 then scan r (d + 1) else if t.c = 6 then (match d with | 0 => none | d + 1 => scan r d) else scan r d
theorem zcl : ∀ (S T : List Ct) (d e : Nat), scan S d = some e → scan (S ++ T) d = scan T e
  | [], T, d, e, h => by injection h with h; subst h; rfl
  | t :: r, T, d, e, h => by
    simp only [scan, List.cons_append] at h ⊢
    by_cases h5 : t.c = 5
    · rw [if_pos h5] at h ⊢; exact zcl r T _ _ h
    · rw [if_neg h5] at h ⊢
      by_cases h6 : t.c = 6
      · rw [if_pos h6] at h ⊢
        cases d with
        | zero => cases h
        | succ d => exact zcl r T _ _ h
      · rw [if_neg h6] at h ⊢; exact zcl r T _ _ h
structure Took (S : List Ct) (ps : List Int) (ns : List (Int × Int)) : Prop where
  at_ : (places S).Perm ps
  num : numT S = ns
  br : ∀ d, scan S d = some d
theorem Took.app {S T : List Ct} {ps qs : List Int} {ns ms : List (Int × Int)} (h : Took S ps ns) (k : Took T qs ms) : Took (S ++ T) (ps ++ qs) (ns ++ ms) where
  at_ := by unfold places; rw [List.filter_append, List.map_append]; exact h.at_.append k.at_
  num := by unfold numT; rw [List.filter_append, List.map_append]; show numT S ++ numT T = _; rw [h.num, k.num]
  br := fun d => by rw [zcl S T d d (h.br d)]; exact k.br d
theorem Took.perm {S : List Ct} {ps qs : List Int} {ns : List (Int × Int)} (h : Took S ps ns) (hp : ps.Perm qs) : Took S qs ns := ⟨h.at_.trans hp, h.num, h.br⟩
theorem Took.nil : Took [] [] [] := ⟨List.Perm.refl _, rfl, fun _ => rfl⟩
theorem Took.one {c : Nat} (v p : Int) (h1 : c ≠ 1) (h5 : c ≠ 5) (h6 : c ≠ 6) : Took [⟨c, v, p⟩] [p] [] where
  at_ := by
    have h : plainT ⟨c, v, p⟩ = true := by simp [plainT, h5, h6]
    simp [places, h]
  num := by simp [numT, h1]
  br := fun d => by simp [scan, h5, h6]
theorem Took.number (v p : Int) : Took [⟨1, v, p⟩] [p] [(v, p)] where
  at_ := by simp [places, plainT]
  num := by simp [numT]
  br := fun d => by simp [scan]
theorem Took.bracket {S : List Ct} {ps : List Int} {ns : List (Int × Int)} (h : Took S ps ns) (v p v' p' : Int) : Took ([⟨5, v, p⟩] ++ (S ++ [⟨6, v', p'⟩])) ps ns where
  at_ := by simpa [places, plainT, List.filter_append] using h.at_
  num := by simpa [numT, List.filter_append] using h.num
  br := fun d => by
    show scan (⟨5, v, p⟩ :: (S ++ [⟨6, v', p'⟩])) d = some d
    simp only [scan, if_true]
    rw [zcl S _ _ _ (h.br (d + 1))]
    simp [scan]
theorem took_signs (L : List Ct) {c : Nat} (h0 : c ≠ 0) (h1 : c ≠ 1) (h5 : c ≠ 5) (h6 : c ≠ 6) (a : Nat) : ∀ (n : Nat), (∀ i, i < n → cdAt L (a + i) = c) → Took (sl L a (a + n)) ((List.range n).map fun i => posAt L (a + i)) []
  | 0, _ => by rw [Nat.add_zero, sl_self]; exact Took.nil
  | n + 1, h => by
    have hn := h n (by omega)
    rw [zc0 L (show a ≤ a + n by omega) (show a + n ≤ a + (n + 1) by omega), List.range_succ, List.map_append, ← Nat.add_assoc, sl_one L (by omega)]
    rw [hn]
    exact (took_signs L h0 h1 h5 h6 a n (fun i hi => h i (by omega))).app (Took.one _ _ h1 h5 h6)
def valid (L : List Ct) : Prop := ∀ i, 0 ≤ posAt L i ∧ posAt L i ≤ 400 ∧ 0 ≤ valAt L i ∧ valAt L i ≤ 9223372036854775807
def startOk : Job → Prop
  | .loop _ l => l.ok
  | _ => True
def tookR (L : List Ct) (j : Job) (a : Nat) : Res → Prop
  | .bad _ _ => True
  | .ok t q => a ≤ q ∧ t.ok ∧ match j with
    | .loop _ l => ∃ ps ns, Took (sl L a q) ps ns ∧ (evp l ++ ps).Perm (evp t) ∧ nums t = nums l ++ ns
    | _ => Took (sl L a q) (evp t) (nums t)
theorem wrapN_took {L : List Ct} (hv : valid L) (kind : Int) (hk : kind = 5 ∨ kind = 6) (a : Nat) : ∀ (n : Nat) (t : Tr) (q : Nat), t.ok → ∀ t' q', wrapN L kind a n (.ok t q) = .ok t' q' →
    q' = q ∧ t'.ok ∧ (((List.range n).map fun i => posAt L (a + i)) ++ evp t).Perm (evp t') ∧ nums t' = nums t
  | 0, t, q, h, t', q', he => by
    injection he with h1 h2
    subst h1; subst h2
    exact ⟨rfl, h, List.Perm.refl _, rfl⟩
  | n + 1, t, q, h, t', q', he => by
    simp only [wrapN] at he
    rcases zc3 (.un kind (posAt L (a + n)) t) (a + n) q with ⟨e, hz, hd⟩ | ⟨e, hb, _⟩
    · rw [e] at he
      have hp := hv (a + n)
      obtain ⟨h1, h2, h3, h4⟩ := wrapN_took hv kind hk a n (.un kind (posAt L (a + n)) t) q ⟨⟨hk, hp.1, hp.2.1, h.1⟩, hz, hd⟩ t' q' he
      refine ⟨h1, h2, ?_, h4⟩
      refine List.Perm.trans ?_ h3
      rw [List.range_succ, List.map_append, List.append_assoc]
      refine List.Perm.append_left _ ?_
      exact List.perm_append_comm
    · rw [hb, wrapN_bad] at he; cases he
theorem run_took {L : List Ct} (hv : valid L) : ∀ (k : Nat) (j : Job) (a : Nat) (r : Res), startOk j → run L k j a = some r → tookR L j a r := by
  intro k
  induction k with
  | zero => intro j a r _ h; cases h
  | succ k ih =>
    intro j a r hs h
    cases j with
    | expr s =>
      simp only [run] at h
      cases h1 : run L k (.opnd s) a with
      | none => rw [h1] at h; cases h
      | some r1 =>
        rw [h1] at h
        cases r1 with
        | bad e q => injection h with h; subst h; trivial
        | ok t q =>
          simp only at h
          have h2 := ih (.opnd s) a _ trivial h1
          have h3 := ih (.loop s t) q r h2.2.1 h
          cases r with
          | bad e q => trivial
          | ok t' q' =>
            obtain ⟨h4, h5, ps, ns, h6, h7, h8⟩ := h3
            have h9 : Took (sl L a q) (evp t) (nums t) := h2.2.2
            refine ⟨Nat.le_trans h2.1 h4, h5, ?_⟩
            show Took (sl L a q') (evp t') (nums t')
            rw [zc0 L h2.1 h4, h8]
            exact (h9.app h6).perm h7
    | opnd s =>
      simp only [run] at h
      by_cases hs : s = 2 ∨ s = 6
      · rw [if_pos hs] at h
        have := ih (.front s) a r trivial h
        cases r <;> exact this
      · rw [if_neg hs] at h
        have := ih (.expr (s + 1)) a r trivial h
        cases r <;> exact this
    | front s =>
      have key : ∀ (j : Job) (c : Nat) (kind : Int), (∀ s l, j ≠ .loop s l) → c ≠ 0 → c ≠ 1 → c ≠ 5 → c ≠ 6 → (kind = 5 ∨ kind = 6) → startOk j →
          (match run L k j (a + lead c (L.drop a)) with | none => none | some r => some (wrapN L kind a (lead c (L.drop a)) r)) = some r → tookR L (.front s) a r := by
        intro j c kind hj h0 h1 h5 h6 hk hsj h
        cases h2 : run L k j (a + lead c (L.drop a)) with
        | none => rw [h2] at h; cases h
        | some r1 =>
          rw [h2] at h
          have h3 := ih j _ r1 hsj h2
          simp only [Option.some.injEq] at h
          subst h
          cases r1 with
          | bad e q => rw [wrapN_bad]; trivial
          | ok t q =>
            cases h4 : wrapN L kind a (lead c (L.drop a)) (.ok t q) with
            | bad e q => trivial
            | ok t' q' =>
              obtain ⟨h7, h8, h9, h10⟩ := wrapN_took hv kind hk a _ t q h3.2.1 t' q' h4
              subst h7
              have h11 : Took (sl L (a + lead c (L.drop a)) q') (evp t) (nums t) := by
                have := h3.2.2
                cases j with
                | loop s l => exact absurd rfl (hj s l)
                | _ => exact this
              have h12 := took_signs L h0 h1 h5 h6 a (lead c (L.drop a)) (fun i hi => lead_drop c L a i hi)
              refine ⟨by have := h3.1; omega, h8, ?_⟩
              show Took (sl L a q') (evp t') (nums t')
              rw [zc0 L (Nat.le_add_right a _) h3.1, h10]
              exact (h12.app h11).perm h9
      simp only [run] at h
      by_cases hs : s ≤ 2
      · rw [if_pos hs] at h
        exact key (.expr 3) 20 6 (by intro s l h; cases h) (by omega) (by omega) (by omega) (by omega) (.inr rfl) trivial h
      · rw [if_neg hs] at h
        exact key .prim 9 5 (by intro s l h; cases h) (by omega) (by omega) (by omega) (by omega) (.inl rfl) trivial h
    | prim =>
      simp only [run] at h
      have hp := hv a
      by_cases h1 : cdAt L a = 1
      · rw [if_pos h1] at h
        injection h with h
        subst h
        refine ⟨by omega, ⟨⟨by omega, by omega, hp.2.2.1, hp.2.2.2, .inr rfl, hp.1, hp.2.1⟩, by simp [Tr.size], by simp [Tr.depth]⟩, ?_⟩
        show Took (sl L a (a + 1)) _ _
        rw [sl_one L (by omega), h1]
        simp only [evp, nums, if_true]
        exact Took.number _ _
      · rw [if_neg h1] at h
        by_cases h2 : 2 ≤ cdAt L a ∧ cdAt L a ≤ 4
        · rw [if_pos h2] at h
          injection h with h
          subst h
          refine ⟨by omega, ⟨⟨by omega, by omega, by omega, by omega, .inl rfl, hp.1, hp.2.1⟩, by simp [Tr.size], by simp [Tr.depth]⟩, ?_⟩
          show Took (sl L a (a + 1)) _ _
          rw [sl_one L (by omega)]
          simp only [evp, nums]
          rw [if_neg (by omega)]
          exact Took.one _ _ h1 (by omega) (by omega)
        · rw [if_neg h2] at h
          by_cases h5 : cdAt L a = 5
          · rw [if_pos h5] at h
            cases h6 : run L k (.expr 1) (a + 1) with
            | none => rw [h6] at h; cases h
            | some r1 =>
              rw [h6] at h
              have h7 := ih (.expr 1) (a + 1) r1 trivial h6
              cases r1 with
              | bad e q => injection h with h; subst h; trivial
              | ok t q =>
                simp only at h
                by_cases h8 : cdAt L q = 6
                · rw [if_pos h8] at h
                  injection h with h
                  subst h
                  have h9 : Took (sl L (a + 1) q) (evp t) (nums t) := h7.2.2
                  have h10 := h7.1
                  refine ⟨by omega, h7.2.1, ?_⟩
                  show Took (sl L a (q + 1)) _ _
                  rw [zc0 L (show a ≤ a + 1 by omega) (show a + 1 ≤ q + 1 by omega), zc0 L h10 (show q ≤ q + 1 by omega), sl_one L (a := a) (by omega), sl_one L (a := q) (by omega), h5, h8]
                  exact h9.bracket _ _ _ _
                · rw [if_neg h8] at h; injection h with h; subst h; trivial
          · rw [if_neg h5] at h; injection h with h; subst h; trivial
    | loop s l =>
      simp only [run] at h
      by_cases h1 : 7 ≤ cdAt L a ∧ cdAt L a ≤ 19 ∧ bindsN (cdAt L a) = s
      · rw [if_pos h1] at h
        cases h2 : run L k (.opnd s) (a + 1) with
        | none => rw [h2] at h; cases h
        | some r1 =>
          rw [h2] at h
          have h3 := ih (.opnd s) (a + 1) r1 trivial h2
          cases r1 with
          | bad e q => injection h with h; subst h; trivial
          | ok x q =>
            simp only at h
            have hp := hv a
            have hl : l.ok := hs
            obtain ⟨h4, h5, h6⟩ := h3
            have h6 : Took (sl L (a + 1) q) (evp x) (nums x) := h6
            rcases zc3 (.bin (cdAt L a) (posAt L a) l x) a q with ⟨e, hz, hd⟩ | ⟨e, hb, _⟩
            · rw [e] at h
              have hok : Tr.ok (.bin (cdAt L a) (posAt L a) l x) := ⟨⟨by omega, by omega, hp.1, hp.2.1, hl.1, h5.1⟩, hz, hd⟩
              have hT : Took (sl L a q) (posAt L a :: evp x) (nums x) := by
                rw [zc0 L (show a ≤ a + 1 by omega) h4, sl_one L (by omega)]
                exact (Took.one _ _ (by omega) (by omega) (by omega)).app h6
              have hP : (evp l ++ (posAt L a :: evp x)).Perm (evp (.bin (cdAt L a) (posAt L a) l x)) := by
                simp only [evp]
                refine List.Perm.append_left _ ?_
                exact List.perm_append_comm (l₁ := [posAt L a])
              by_cases h3 : s = 3
              · simp only [if_pos h3] at h
                injection h with h
                subst h
                exact ⟨by omega, hok, _, _, hT, hP, rfl⟩
              · simp only [if_neg h3] at h
                have h7 := ih (.loop s (.bin (cdAt L a) (posAt L a) l x)) q r hok h
                cases r with
                | bad e q => trivial
                | ok t' q' =>
                  obtain ⟨h8, h9, ps, ns, h10, h11, h12⟩ := h7
                  refine ⟨by omega, h9, (posAt L a :: evp x) ++ ps, nums x ++ ns, ?_, ?_, ?_⟩
                  · rw [zc0 L (show a ≤ q by omega) h8]
                    exact hT.app h10
                  · rw [← List.append_assoc]
                    exact (List.Perm.append_right _ hP).trans h11
                  · rw [h12]; simp [nums]
            · rw [hb] at h; injection h with h; subst h; trivial
      · rw [if_neg h1] at h
        injection h with h
        subst h
        refine ⟨Nat.le_refl _, hs, [], [], ?_, by simp, by simp⟩
        rw [sl_self]; exact Took.nil
end Go.Proofs.YtgmmngipnjmkfaaGreatDoor.Pure
end
