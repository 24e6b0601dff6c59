/- strings.Join at this program, in the print's form. -/
import Derived.Test.YtdccajohjknnbaaDoorShelfB
import Derived.Test.YtdccajohjknnbaaDoorWWords
namespace Go.Proofs.YtdccajohjknnbaaDoor.Hand
open Go.RowKit Go.Proofs.YtdccajohjknnbaaDoorW.PrintWords
set_option linter.unusedVariables false
/-- a fact on a cell, put into the walk -/
theorem with_fact {P : Program} {ops : Array Oper} {Q : Exit → Act → World → Prop} {l : List Oper} {a : Act} {W : World} {p : Addr} {v : Value} (h : W.cell? p = some v) (k : W.cell? p = some v → wpList P ops Q l a W) : wpList P ops Q l a W := k h
theorem cell_spot {w : World} {a : Addr} {v : Value} (h : w.cell? a = some v) : a.spot = none := by
  unfold World.cell? at h
  split at h
  · split at h
    · cases h
    · next hs => exact Option.not_isSome_iff_eq_none.1 hs
  · cases h
/-- strings.Join, a slice of strings given by its cells. -/
def joinB (l : List ByteArray) (a : ByteArray) : ByteArray := ⟨(Lib.join (l.map (·.data.toList)) a.data.toList).toArray⟩
theorem join_any (A0 : Option Addr) (c0 : Nat) (l0 : List ByteArray) (a1 : ByteArray) (w : World) (hr0 : Kd.C Kd.string w A0 l0.length l0) (hc0 : l0.length ≤ c0)
    (hN : l0.length ≤ 140737488355328) (hlen : (Lib.join (l0.map (·.data.toList)) a1.data.toList).length ≤ 140737488355328) :
    Calls Tryd.prog 23 #[.slice A0 l0.length c0, .string a1] w fun e w' => e = .returned (.string (joinB l0 a1)) ∧ Below w.heap.size w w' := by
  by_cases h0 : l0 = []
  · subst h0
    refine (Tryd.strings_Join_none A0 c0 a1 w).mono ?_
    rintro e w' ⟨rfl, rfl⟩
    exact ⟨rfl, Below.refl _ _⟩
  · have hp : 0 < l0.length := List.length_pos_iff.2 h0
    obtain ⟨ad, hA, hx⟩ := Kd.at_string hr0 0 (by omega) (by omega)
    subst hA
    have hx0 : w.cell? ad = some (.string (rdOf ByteArray.empty l0 0)) := by simpa [Addr.add] using hx
    have hs := cell_spot hx0
    obtain ⟨bk, o, sp⟩ := ad
    simp only at hs
    subst hs
    refine Tryd.strings_Join bk o c0 l0 a1 w ?_ (World.block_lt_of_cell? w _ hx0) hN hc0 hlen
    intro j x hj
    have hjl : j < l0.length := by
      rcases Nat.lt_or_ge j l0.length with h | h
      · exact h
      · rw [List.getElem?_eq_none h] at hj; cases hj
    obtain ⟨ad2, hA2, hx2⟩ := Kd.at_string hr0 (j : Int) (by omega) (by omega)
    cases hA2
    have hr : rdOf ByteArray.empty l0 (j : Int) = x := by
      unfold rdOf
      rw [Int.toNat_natCast, List.getD_eq_getElem?_getD, hj, Option.getD_some]
    rw [hr, Int.toNat_natCast] at hx2
    rw [← hx2]
    unfold Addr.add
    by_cases hj0 : j = 0
    · subst hj0; simp
    · rw [if_neg hj0]
end Go.Proofs.YtdccajohjknnbaaDoor.Hand
