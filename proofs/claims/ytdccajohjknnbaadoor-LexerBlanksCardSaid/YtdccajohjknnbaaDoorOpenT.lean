/- An argument that is a slice of tokens, or of bools, as the walks of the print want it. -/
import Derived.Test.YtdccajohjknnbaaDoorQx0
import Derived.ChangeSame
import Derived.WideShapes
import Derived.Deep.Slices
import Derived.Deep.Fields
import Derived.Deep.Grids
namespace Go.Proofs.YtdccajohjknnbaaDoor.Pure
open Go.ChangeShapes Go.WideShapes Go.Deep Go.RowKit Go.Proofs.YtdccajohjknnbaaDoor.Q Go.Proofs.YtdccajohjknnbaaDoorW.PrintWords
set_option maxRecDepth 100000 in
theorem open_tokens {H : Type} {enc : TypeId × Value → H} {w : World} {b : Nat} {v : Value} {d : DataW H} {p : List MemPlace}
    (hv : Value.okWide Tryd.prog w .any b 28 v) (h : DataW.Trod enc Tryd.prog w 0 (fun _ => true) true 28 v d p) :
    ∃ (A : Option Addr) (c : Nat) (l : List S30), v = .slice A l.length c ∧ l.length ≤ c ∧ Kd.C k30 w A l.length l := by
  obtain ⟨a, len, cap, rfl⟩ := okWide_slice Tryd.underlying28 hv
  obtain ⟨fuel, hf⟩ := h
  rcases open_slice Tryd.underlying28 hf with ⟨h0, _⟩ | ⟨ad, len', cap', m, n, D, Pl, h0, _, hl, hm, hmm, _, hi⟩
  · have h0 : Value.slice a len cap = .slice none 0 0 := List.head_eq_of_cons_eq (show [Value.slice a len cap] = [.slice none 0 0] from h0)
    injection h0 with h1 h2 h3
    subst h1; subst h2; subst h3
    exact ⟨none, 0, [], rfl, Nat.le_refl _, Kd.C_nil _ w⟩
  · have h0 : Value.slice a len cap = .slice (some ad) len' cap' := List.head_eq_of_cons_eq (show [Value.slice a len cap] = [.slice (some ad) len' cap'] from h0)
    injection h0 with h1 h2 h3
    subst h1; subst h2; subst h3
    have hC : Tryd.prog.cellsOf 30 = 3 := by kernel_rfl
    have hall : ∀ i, i < len → ∃ x : S30, w.cell? (ad.add (i * 3 + 0)) = some (.int .u8 x.f0) ∧ w.cell? (ad.add (i * 3 + 1)) = some (.string x.f1) ∧ w.cell? (ad.add (i * 3 + 2)) = some (.int .i64 x.f2) := by
      intro i hil
      obtain ⟨cs, hc, ht⟩ := hi i (by rw [hmm]; simp only [if_true]; omega)
      rw [hC] at hc
      obtain ⟨ys, n', _, _, _, hyl, hfl⟩ := DataW.trod_struct Tryd.underlying30 ht
      obtain ⟨_, hcl, hat⟩ := World.cells?_some hc
      match cs, hcl, ys, hyl with
      | [c0, c1, c2], _, [y0, y1, y2], _ =>
        have g0 := hfl 0 _ rfl
        have g1 := hfl 1 _ rfl
        have g2 := hfl 2 _ rfl
        obtain ⟨x0, e0, _, _⟩ := DataW.trod_int Tryd.underlying5 (g0 : _ = some y0)
        obtain ⟨x1, e1, _, _⟩ := DataW.trod_string Tryd.underlying9 (g1 : _ = some y1)
        obtain ⟨x2, e2, _, _⟩ := DataW.trod_int Tryd.underlying3 (g2 : _ = some y2)
        have u0 : c0 = .int .u8 x0 := List.head_eq_of_cons_eq (show [c0] = [.int .u8 x0] from e0)
        have u1 : c1 = .string x1 := List.head_eq_of_cons_eq (show [c1] = [.string x1] from e1)
        have u2 : c2 = .int .i64 x2 := List.head_eq_of_cons_eq (show [c2] = [.int .i64 x2] from e2)
        clear e0 e1 e2 g0 g1 g2 hfl ht
        subst u0; subst u1; subst u2
        have a0 := hat 0 (by omega); have a1 := hat 1 (by omega); have a2 := hat 2 (by omega)
        rw [Go.Deep.add_add] at a0 a1 a2
        exact ⟨⟨x0, x1, x2⟩, a0, a1, a2⟩
    have hX : ∃ X : Nat → S30, ∀ i, i < len → w.cell? (ad.add (i * 3 + 0)) = some (.int .u8 (X i).f0) ∧ w.cell? (ad.add (i * 3 + 1)) = some (.string (X i).f1) ∧ w.cell? (ad.add (i * 3 + 2)) = some (.int .i64 (X i).f2) :=
      ⟨fun i => if hh : i < len then Classical.choose (hall i hh) else z30, fun i hh => by simp only [dif_pos hh]; exact Classical.choose_spec (hall i hh)⟩
    obtain ⟨X, hX⟩ := hX
    have hlen : ((List.range len).map X).length = len := by simp
    refine ⟨some ad, cap, (List.range len).map X, by rw [hlen], by rw [hlen]; exact hl, ?_⟩
    rw [hlen]
    refine ⟨hlen, by unfold maxLen at hm; omega, fun _ => ⟨ad, rfl, fun j x hj => ?_⟩⟩
    have hjl : j < len := by
      rcases Nat.lt_or_ge j len with q | q
      · exact q
      · rw [List.getElem?_eq_none (by rw [hlen]; exact q)] at hj; cases hj
    have hxe : x = X j := by
      rw [List.getElem?_map, List.getElem?_range hjl] at hj
      exact (Option.some.inj hj).symm
    subst hxe
    obtain ⟨q0, q1, q2⟩ := hX j hjl
    refine ⟨_, rfl, k30_mk w (X j), fun i u hu => ?_⟩
    show w.cell? (ad.add (j * 3 + i)) = some u
    match i, hu with
    | 0, hu => rw [q0]; exact hu
    | 1, hu => rw [q1]; exact hu
    | 2, hu => rw [q2]; exact hu
set_option maxRecDepth 100000 in
theorem open_boolsC {H : Type} {enc : TypeId × Value → H} {w : World} {b : Nat} {v : Value} {d : DataW H} {p : List MemPlace}
    (hv : Value.okWide Tryd.prog w .any b 42 v) (h : DataW.Trod enc Tryd.prog w 0 (fun _ => true) true 42 v d p) :
    ∃ (A : Option Addr) (c : Nat) (l : List Bool), v = .slice A l.length c ∧ l.length ≤ c ∧ Kd.C Kd.bool w A l.length l := by
  obtain ⟨a, len, cap, rfl⟩ := okWide_slice Tryd.underlying42 hv
  obtain ⟨fuel, hf⟩ := h
  rcases open_bools Tryd.underlying42 Tryd.underlying4 (by kernel_rfl) hf with ⟨h0, _⟩ | ⟨ad, len', cap', B, h0, _, hl, hm, _, hi⟩
  · have h0 : Value.slice a len cap = .slice none 0 0 := List.head_eq_of_cons_eq (show [Value.slice a len cap] = [.slice none 0 0] from h0)
    injection h0 with h1 h2 h3
    subst h1; subst h2; subst h3
    exact ⟨none, 0, [], rfl, Nat.le_refl _, Kd.C_nil _ w⟩
  · have h0 : Value.slice a len cap = .slice (some ad) len' cap' := List.head_eq_of_cons_eq (show [Value.slice a len cap] = [.slice (some ad) len' cap'] from h0)
    injection h0 with h1 h2 h3
    subst h1; subst h2; subst h3
    have hlen : ((List.range len).map B).length = len := by simp
    refine ⟨some ad, cap, (List.range len).map B, by rw [hlen], by rw [hlen]; exact hl, ?_⟩
    rw [hlen]
    refine ⟨hlen, by unfold maxLen at hm; omega, fun _ => ⟨ad, rfl, fun j x hj => ?_⟩⟩
    have hjl : j < len := by
      rcases Nat.lt_or_ge j len with q | q
      · exact q
      · rw [List.getElem?_eq_none (by rw [hlen]; exact q)] at hj; cases hj
    have hxe : x = B j := by
      rw [List.getElem?_map, List.getElem?_range hjl] at hj
      exact (Option.some.inj hj).symm
    subst hxe
    refine ⟨[.bool (B j)], rfl, rfl, fun i u hu => ?_⟩
    match i, hu with
    | 0, hu => show w.cell? (ad.add (j * 1 + 0)) = some u; rw [Nat.mul_one, Nat.add_zero, hi j (by omega)]; exact hu
end Go.Proofs.YtdccajohjknnbaaDoor.Pure
