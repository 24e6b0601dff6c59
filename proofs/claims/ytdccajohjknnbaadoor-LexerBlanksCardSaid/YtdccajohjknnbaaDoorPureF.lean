/- What the relation says of a text's tokens: blanks between, the byte of an error, a text in front. -/
import Derived.Test.YtdccajohjknnbaaDoorPureE
namespace Go.Proofs.YtdccajohjknnbaaDoor.Pure
open Go.RowKit Go.Proofs.YtdccajohjknnbaaDoor.Hand Go.Proofs.YtdccajohjknnbaaDoor.Q Go.Proofs.YtdccajohjknnbaaDoorW.PrintWords Go.Proofs.YtdccajohjknnbaaDoorW.PrintLast Go.Proofs.YtdccajohjknnbaaDoorW.PrintMore
theorem nil_inv {a n : Nat} {L : List UInt8} {ts : List S30} {m : Nat} {e : Int} (h : Scan a n L ts m e) : e = 0 → ts = [] → ∀ b ∈ L, kd b = 1 := by
  induction h with
  | done a n => intro _ _ b hb; cases hb
  | blank hb _ ih =>
    intro he ht b hm
    rcases List.mem_cons.1 hm with rfl | hm
    · exact hb
    · exact ih he ht b hm
  | many _ => intro he; exact absurd he (by decide)
  | bad _ _ _ he => intro h; exact absurd h he
  | tok _ _ _ _ _ => intro _ h; cases h
theorem cons_inv {a n : Nat} {L : List UInt8} {ts : List S30} {m : Nat} {e : Int} (h : Scan a n L ts m e) : ∀ (t : S30) (ts' : List S30), e = 0 → ts = t :: ts' → ∃ (B : List UInt8) (c : UInt8) (r : List UInt8),
    L = B ++ c :: r ∧ (∀ b ∈ B, kd b = 1) ∧ kd c ≠ 1 ∧ n ≠ 200 ∧ t = ⟨(tok (c :: r)).1, ba (tok (c :: r)).2, ((a + B.length : Nat) : Int)⟩ ∧ chk (tok (c :: r)).1 (tok (c :: r)).2 = 0 ∧
    Scan (a + B.length + (tok (c :: r)).2.length) (n + 1) ((c :: r).drop (tok (c :: r)).2.length) ts' m 0 := by
  induction h with
  | done a n => intro t ts' _ h; cases h
  | @blank a n c0 r0 ts m e hb _ ih =>
    intro t ts' he ht
    obtain ⟨B, c, r, hL, hB, hc, hn, hte, hck, hs⟩ := ih t ts' he ht
    refine ⟨c0 :: B, c, r, by rw [hL]; rfl, ?_, hc, hn, ?_, hck, ?_⟩
    · intro b hm
      rcases List.mem_cons.1 hm with rfl | hm
      · exact hb
      · exact hB b hm
    · rw [hte, List.length_cons, show a + 1 + B.length = a + (B.length + 1) by omega]
    · rw [List.length_cons, show a + (B.length + 1) = a + 1 + B.length by omega]; exact hs
  | many _ => intro t ts' he; exact absurd he (by decide)
  | bad _ _ _ he => intro t ts' h; exact absurd h he
  | @tok a n c r ts m e hb hn hck hs _ =>
    intro t ts' he ht
    subst he
    injection ht with h1 h2
    subst h1; subst h2
    exact ⟨[], c, r, rfl, (fun b hb => by cases hb), hb, hn, rfl, hck, hs⟩
theorem err_inv {a n : Nat} {L : List UInt8} {ts : List S30} {m : Nat} {e : Int} (h : Scan a n L ts m e) : e ≠ 0 → ∃ (A : List UInt8) (c : UInt8) (r : List UInt8) (ts' : List S30),
    L = A ++ c :: r ∧ m = a + A.length ∧ kd c ≠ 1 ∧ Scan a n A ts' m 0 ∧ (e = 4 ∨ chk (tok (c :: r)).1 (tok (c :: r)).2 = e) := by
  induction h with
  | done a n => intro h; exact absurd rfl h
  | @blank a n c0 r0 ts m e hb _ ih =>
    intro he
    obtain ⟨A, c, r, ts', hL, hm, hc, hs, hor⟩ := ih he
    exact ⟨c0 :: A, c, r, ts', by rw [hL]; rfl, by rw [hm, List.length_cons]; omega, hc, .blank hb hs, hor⟩
  | @many a c r hb => intro _; exact ⟨[], c, r, [], rfl, rfl, hb, .done _ _, .inl rfl⟩
  | @bad a n c r e hb hn hck he => intro _; exact ⟨[], c, r, [], rfl, rfl, hb, .done _ _, .inr hck⟩
  | @tok a n c0 r0 ts m e hb hn hck hs ih =>
    intro he
    obtain ⟨A, c, r, ts', hL, hm, hc, hs', hor⟩ := ih he
    have hT := tok_take (c0 :: r0)
    have hp := tok_pos hck
    cases hT2 : (tok (c0 :: r0)).2 with
    | nil => rw [hT2] at hp; cases hp
    | cons x T =>
      have hsplit : c0 :: r0 = (x :: T) ++ (A ++ c :: r) := by
        rw [← hL, ← hT2]
        conv => lhs; rw [← List.take_append_drop (tok (c0 :: r0)).2.length (c0 :: r0)]
        rw [← hT]
      have hx : x = c0 := by rw [List.cons_append] at hsplit; injection hsplit with h1 _; exact h1.symm
      subst hx
      have hcut : tok (x :: T ++ A) = tok (x :: r0) := by
        have h1 := tok_cut (c :: r) [] (fun _ _ h => by cases h) x (T ++ A)
        rw [List.append_nil] at h1
        have h2 : x :: (T ++ A) ++ c :: r = x :: r0 := by rw [hsplit]; simp
        rw [h2] at h1
        exact h1 (by rw [hT2, List.length_cons, List.length_cons, List.length_append]; omega)
      refine ⟨(x :: T) ++ A, c, r, ⟨(tok (x :: T ++ A)).1, ba (tok (x :: T ++ A)).2, (a : Int)⟩ :: ts', by rw [hsplit, List.append_assoc], ?_, hc, ?_, hor⟩
      · rw [hm, hT2, List.length_append]; omega
      · refine Scan.tok hb hn ?_ ?_
        · show chk (tok (x :: T ++ A)).1 (tok (x :: T ++ A)).2 = 0
          rw [hcut]; exact hck
        · show Scan (a + (tok (x :: T ++ A)).2.length) (n + 1) ((x :: T ++ A).drop (tok (x :: T ++ A)).2.length) ts' m 0
          rw [hcut, hT2, List.drop_left']
          · rw [hT2] at hs'; exact hs'
          · rfl
end Go.Proofs.YtdccajohjknnbaaDoor.Pure
