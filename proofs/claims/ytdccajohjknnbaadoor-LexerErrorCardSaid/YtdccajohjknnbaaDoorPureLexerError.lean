/- LexerError: an error is at the first byte of something that is no token: all in front of it has tokens, with it there are none (a text of at most 400 bytes); the plain law over the functions that the program computes. -/
import Derived.Test.YtdccajohjknnbaaDoorPureF
import Derived.Test.YtdccajohjknnbaaDoorQx12
namespace Go.Proofs.YtdccajohjknnbaaDoor.Pure
open Go.RowKit Go.Proofs.YtdccajohjknnbaaDoor.Hand Go.Proofs.YtdccajohjknnbaaDoor.Q Go.Proofs.YtdccajohjknnbaaDoorW.PrintWords Go.Proofs.YtdccajohjknnbaaDoorW.PrintLast Go.Proofs.YtdccajohjknnbaaDoorW.PrintMore
theorem LexerError : tailwaterlaw03_LexerError.Pure := by
  intro s hs
  refine ⟨410, ?_⟩
  unfold tailwaterlaw03_LexerError.f
  by_cases h : s.size ≤ 400
  · obtain ⟨ts, m, e, hsc⟩ := scan_total _ s.data.toList 0 0 (Nat.le_refl _)
    rw [all_f s h hsc 410 (by omega), Option.bind_some, if_neg (by omega)]
    unfold res
    by_cases he : e = 0
    · rw [if_pos he]
      simp only [tailwaterlaw03_LexerError.j0]
      rw [if_pos (by rfl), if_pos (by omega), alive_any 409 (by omega)]; rfl
    · rw [if_neg he]
      obtain ⟨A, c, r, ts', hL, hm, hc, hA, hor⟩ := err_inv hsc he
      rw [Nat.zero_add] at hm
      have hsz : s.size = A.length + (r.length + 1) := by rw [← data_length, hL, List.length_append, List.length_cons]
      have hbt : bt s (m : Int) = c.toNat := bt_list s m c (by rw [hL, hm]; simp)
      have hc1 : (kindOf (c.toNat : Int) == 1) = false := beq_f hc
      have hd : s.data.toList.drop m = c :: r := by rw [hL, hm]; simp
      have ht : s.data.toList.take m = A := by rw [hL, hm]; simp
      simp only [tailwaterlaw03_LexerError.j0]
      rw [if_neg (by rw [beq_f he]; decide), if_neg (by omega), if_neg (by omega), if_pos (by omega), if_pos (by omega), hbt]
      simp only [chars_Kind.f, Option.bind_some, tailwaterlaw03_LexerError.j1]
      rw [hc1, if_neg (by decide), if_pos (by omega), if_pos (by omega), Int.toNat_natCast]
      have e1 : (s.extract 0 m).data.toList = A := by rw [Lib.extract_data, List.drop_zero, Nat.sub_zero, ht]
      have e2 : (s.extract m s.size).data.toList = c :: r := by rw [Lib.extract_data, hd, List.take_of_length_le (by rw [List.length_cons]; omega)]
      have z1 : (s.extract 0 m).size = A.length := by rw [← data_length, e1]
      have z2 : (s.extract m s.size).size = r.length + 1 := by rw [← data_length, e2, List.length_cons]
      have a1 := all_f (s.extract 0 m) (by omega) (by rw [e1]; exact hA) 408 (by omega)
      rw [a1, Option.bind_some]
      unfold res
      rw [if_pos rfl]
      rcases hor with h4 | hck
      · obtain ⟨ts2, m2, e2', hsc2⟩ := scan_total _ (s.extract m s.size).data.toList 0 0 (Nat.le_refl _)
        rw [all_f (s.extract m s.size) (by omega) hsc2 408 (by omega), Option.bind_some, if_pos rfl, if_pos rfl, if_pos h4, alive_any 408 (by omega)]; rfl
      · have hb : Scan 0 0 (c :: r) [] 0 e := .bad hc (by decide) hck he
        rw [all_f (s.extract m s.size) (by omega) (by rw [e2]; exact hb) 408 (by omega), Option.bind_some, if_pos rfl, if_pos rfl]
        unfold res
        rw [if_neg he, alive_any 408 (by omega), if_pos rfl]
        by_cases h4 : e = 4
        · rw [if_pos h4]; rfl
        · rw [if_neg h4, if_pos (by rfl)]; rfl
  · rw [all_great s (by omega), Option.bind_some, if_pos (by omega)]
    simp only [tailwaterlaw03_LexerError.j0]
    rw [if_pos trivial, if_neg (by omega), if_pos trivial, if_pos trivial, if_pos (by rfl), alive_any 409 (by omega)]; rfl
end Go.Proofs.YtdccajohjknnbaaDoor.Pure
