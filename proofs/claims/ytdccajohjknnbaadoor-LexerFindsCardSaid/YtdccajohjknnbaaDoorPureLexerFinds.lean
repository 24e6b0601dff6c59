/- LexerFinds: All and Join return the reference's results and errors (a text of at most 1,000 bytes, tokens that are not great); the plain law over the functions that the program computes, and the walk. -/
import Derived.Test.YtdccajohjknnbaaDoorPureG
namespace Go.Proofs.YtdccajohjknnbaaDoor.Pure
open Go.RowKit Go.Proofs.YtdccajohjknnbaaDoor.Hand Go.Proofs.YtdccajohjknnbaaDoor.Q Go.Proofs.YtdccajohjknnbaaDoorW.PrintWords Go.Proofs.YtdccajohjknnbaaDoorW.PrintLast Go.Proofs.YtdccajohjknnbaaDoorW.PrintMore
set_option linter.unusedVariables false
theorem LexerFinds (s : ByteArray) (l : List S30) : tailwaterlaw03_LexerFinds.f 4000 s l = some true := by
  unfold tailwaterlaw03_LexerFinds.f
  by_cases h1000 : (s.size : Int) > 1000
  · rw [if_pos h1000]; simp only [tailwaterlaw03_LexerFinds.j0, if_true]
  rw [if_neg h1000]
  obtain ⟨b, hb, hf⟩ := great_f l 4000 (by omega)
  rw [hb, Option.bind_some]
  simp only [tailwaterlaw03_LexerFinds.j0]
  cases b with
  | true => rw [if_pos rfl]
  | false =>
    obtain ⟨hl, hz⟩ := hf rfl
    obtain ⟨R, hR, _⟩ := all_some s
    have hlen : R.1.length ≤ 1000 := by
      by_cases h : s.size ≤ 400
      · obtain ⟨ts, m, e, hs⟩ := scan_total _ s.data.toList 0 0 (Nat.le_refl _)
        have h1 := (all_f s h hs 3999 (by omega)).symm.trans (hR 3999 (by omega))
        have h2 := (scan_end hs).2.2.2
        rw [data_length] at h2
        rw [← Option.some.inj h1]
        unfold res
        by_cases he : e = 0
        · rw [if_pos he]; show ts.length ≤ 1000; omega
        · rw [if_neg he]; exact Nat.zero_le _
      · have h1 := (all_great s (by omega) 3999).symm.trans (hR 3999 (by omega))
        rw [← Option.some.inj h1]; exact Nat.zero_le _
    rw [if_neg (by decide), refall_f s 3999 (by omega), hR 3999 (by omega), Option.bind_some, Option.bind_some, join_f l (fun t ht => by have := hz t ht; omega) 3999 (by omega), refjoin_f l hl hz 3999 (by omega), Option.bind_some, Option.bind_some, refsame_f R.1 (by omega) 3999 (by omega), Option.bind_some]
    rw [if_pos rfl, if_pos rfl, if_pos rfl, if_pos rfl, beq_self_eq_true]
theorem LexerFinds_walk (a0 : ByteArray) (A1 : Option Addr) (c1 : Nat) (l1 : List S30) (w : World) (w0 : a0.size ≤ 140737488351232) (hc1 : l1.length ≤ c1) (hr1 : Kd.C k30 w A1 l1.length l1) (hT : Tabs w) :
    Calls Tryd.prog 4 #[.string a0, .slice A1 l1.length c1] w fun e w' => e = .returned (.bool true) ∧ Below w.heap.size w w' :=
  tailwaterlaw03_LexerFinds.calls 4000 a0 A1 c1 l1 true w hr1 hc1 hT (LexerFinds a0 l1)
end Go.Proofs.YtdccajohjknnbaaDoor.Pure
