/- Join; the chapter's examples hold at any fuel; what a token's length depends on. -/
import Derived.Test.YtdccajohjknnbaaDoorPureC
import Derived.Test.YtdccajohjknnbaaDoorQx4
namespace Go.Proofs.YtdccajohjknnbaaDoor.Pure
open Go.RowKit Go.Proofs.YtdccajohjknnbaaDoor.Hand Go.Proofs.YtdccajohjknnbaaDoor.Q Go.Proofs.YtdccajohjknnbaaDoorW.PrintWords Go.Proofs.YtdccajohjknnbaaDoorW.PrintLast Go.Proofs.YtdccajohjknnbaaDoorW.PrintMore
def chkT (t : S30) : Int := chk t.f0 t.f1.data.toList
def sp : ByteArray := ⟨#[32]⟩
def em : ByteArray := ⟨#[]⟩
theorem rd_get (l : List S30) (i : Nat) (h : i < l.length) : rd_T30 l (i : Int) = l[i] := by simp [rd_T30, h]
theorem lens_le (l : List (List UInt8)) (b : Nat) (h : ∀ x ∈ l, x.length ≤ b) : Lib.lens l ≤ b * l.length := by
  induction l with
  | nil => exact Nat.le_refl _
  | cons x r ih =>
    have h1 := h x (List.mem_cons_self ..)
    have h2 := ih fun y hy => h y (List.mem_cons_of_mem _ hy)
    have : Lib.lens (x :: r) = x.length + Lib.lens r := by simp [Lib.lens]
    rw [this, List.length_cons, Nat.mul_add]; omega
theorem sjoin_f (l : List ByteArray) (hl : l.length ≤ 200) (hb : ∀ t ∈ l, t.size ≤ 1000000) : strings_Join.f l sp = some (joinB l sp) := by
  unfold strings_Join.f
  refine if_pos ⟨by omega, ?_⟩
  cases l with
  | nil => exact Nat.zero_le _
  | cons x r =>
    rw [List.map_cons, Lib.join_length]
    have h := lens_le ((x :: r).map (·.data.toList)) 1000000 (fun y hy => by
      obtain ⟨z, hz, rfl⟩ := List.mem_map.1 hy
      rw [data_length]; exact hb z hz)
    rw [List.map_cons, List.length_cons, List.length_map] at h
    rw [List.length_cons] at hl
    have : sp.data.toList.length = 1 := rfl
    rw [this, List.length_map]
    omega
def jn (l : List S30) : ByteArray × Int :=
  if l.length > 200 then (em, 4) else if l.all (fun t => chkT t == 0) = true then (if (joinB (l.map S30.f1) sp).size > 400 then (em, 18) else (joinB (l.map S30.f1) sp, 0)) else (em, 8)
theorem join_l0 (l : List S30) (hl : l.length ≤ 200) (hb : ∀ t ∈ l, t.f1.size ≤ 1000000) (d : Nat) : ∀ (k i : Nat), l.length - i = d → i ≤ l.length → d < k →
    lexer_Join.l0 k ((l.take i).map S30.f1) l (l.length : Int) (i : Int) = some (if (l.drop i).all (fun t => chkT t == 0) = true then (if (joinB (l.map S30.f1) sp).size > 400 then (em, 18) else (joinB (l.map S30.f1) sp, 0)) else (em, 8)) := by
  induction d with
  | zero =>
    intro k i hd hi hk
    obtain ⟨k, rfl⟩ : ∃ m, k = m + 1 := ⟨k - 1, by omega⟩
    have h := sjoin_f (l.map S30.f1) (by rw [List.length_map]; exact hl) (fun x hx => by obtain ⟨z, hz, rfl⟩ := List.mem_map.1 hx; exact hb z hz)
    unfold sp at h
    simp only [lexer_Join.l0]
    rw [if_neg (by omega), List.take_of_length_le (by omega), h, List.drop_of_length_le (by omega), if_pos List.all_nil]
    show (if ((joinB (l.map S30.f1) sp).size : Int) > 400 then some ((⟨#[]⟩ : ByteArray), (18 : Int)) else some (joinB (l.map S30.f1) sp, 0)) = _
    by_cases c : (joinB (l.map S30.f1) sp).size > 400
    · rw [if_pos (by omega), if_pos c]; rfl
    · rw [if_neg (by omega), if_neg c]
  | succ d ih =>
    intro k i hd hi hk
    obtain ⟨k, rfl⟩ : ∃ m, k = m + 1 := ⟨k - 1, by omega⟩
    have hlt : i < l.length := by omega
    have hih := ih k (i + 1) (by omega) (by omega) (by omega)
    have hw : wrap64 ((i : Int) + 1) = ((i + 1 : Nat) : Int) := by clear ih hih; unfold wrap64; omega
    have hz := hb l[i] (List.getElem_mem hlt)
    have hck := check_f k (by omega) l[i].f0 l[i].f1 l[i].f2 (by omega)
    have htl : (l.take i).map S30.f1 ++ [l[i].f1] = (l.take (i + 1)).map S30.f1 := by rw [List.take_succ_eq_append_getElem hlt, List.map_append]; rfl
    have hll : ((l.take i).map S30.f1).length < 8796093022208 := by rw [List.length_map, List.length_take]; omega
    rw [List.drop_eq_getElem_cons hlt, List.all_cons]
    simp only [lexer_Join.l0]
    rw [if_pos (by omega), if_pos (by omega), if_pos (by omega), rd_get l i hlt, hck, Option.bind_some]
    by_cases c : chk l[i].f0 l[i].f1.data.toList = 0
    · rw [if_pos c, if_pos hll, htl, hw, hih]
      have : (chkT l[i] == 0) = true := beq_t c
      rw [this, Bool.true_and]
    · rw [if_neg c]
      have : (chkT l[i] == 0) = false := beq_f c
      rw [this, Bool.false_and]; rfl
theorem join_f (l : List S30) (hb : ∀ t ∈ l, t.f1.size ≤ 1000000) (k : Nat) (hk : 201 ≤ k) : lexer_Join.f k l = some (jn l) := by
  unfold lexer_Join.f jn
  by_cases h : l.length > 200
  · rw [if_pos (by omega), if_pos h]; rfl
  · rw [if_neg (by omega), if_neg h]
    exact join_l0 l (by omega) hb l.length k 0 (by omega) (by omega) (by omega)
theorem scan_size {a n : Nat} {L : List UInt8} {ts : List S30} {m : Nat} {e : Int} (h : Scan a n L ts m e) : ∀ t ∈ ts, t.f1.size ≤ L.length := by
  induction h with
  | done a n => intro t ht; cases ht
  | blank hb _ ih => intro t ht; have := ih t ht; rw [List.length_cons]; omega
  | many _ => intro t ht; cases ht
  | bad _ _ _ he => intro t ht; cases ht
  | @tok a n c r ts m e _ _ hc _ ih =>
    intro t ht
    rcases List.mem_cons.1 ht with rfl | ht
    · rw [ba_size]; exact tok_len _
    · have := ih t ht; rw [List.length_drop] at this; omega
/-- what All gives, and that its tokens are no longer than the text -/
theorem all_some (s : ByteArray) : ∃ R : List S30 × Int × Int, (∀ k, 401 ≤ k → lexer_All.f k s = some R) ∧ ∀ t ∈ R.1, t.f1.size ≤ 400 := by
  by_cases h : s.size ≤ 400
  · obtain ⟨ts, m, e, hs⟩ := scan_total _ s.data.toList 0 0 (Nat.le_refl _)
    refine ⟨res ts m e, fun k hk => all_f s h hs k (by omega), ?_⟩
    unfold res
    by_cases he : e = 0
    · rw [if_pos he]; intro t ht; have := scan_size hs t ht; rw [data_length] at this; omega
    · rw [if_neg he]; intro t ht; cases ht
  · exact ⟨_, fun k _ => all_great s (by omega) k, fun t ht => by cases ht⟩
theorem joined_fuel (s : ByteArray) (k : Nat) (hk : 402 ≤ k) : tailwaterlaw03_joined.f k s = tailwaterlaw03_joined.f 402 s := by
  obtain ⟨k, rfl⟩ : ∃ m, k = m + 1 := ⟨k - 1, by omega⟩
  obtain ⟨R, hR, hz⟩ := all_some s
  unfold tailwaterlaw03_joined.f
  rw [hR (k + 1) (by omega), hR 402 (by omega), Option.bind_some, Option.bind_some]
  rw [join_f R.1 (fun t ht => by have := hz t ht; omega) (k + 1) (by omega), join_f R.1 (fun t ht => by have := hz t ht; omega) 402 (by omega)]
  rfl
theorem fails_fuel (s : ByteArray) (a e : Int) (k : Nat) (hk : 402 ≤ k) : tailwaterlaw03_fails.f k s a e = tailwaterlaw03_fails.f 402 s a e := by
  unfold tailwaterlaw03_fails.f
  rw [all_fuel s k (by omega), all_fuel s 402 (by omega)]
theorem alive_402 : tailwaterlaw03_alive.f 402 = some true := by kernel_rfl
theorem alive_any (k : Nat) (hk : 402 ≤ k) : tailwaterlaw03_alive.f k = some true := by
  rw [← alive_402]
  unfold tailwaterlaw03_alive.f
  rw [all_fuel _ k (by omega), all_fuel _ 402 (by omega), joined_fuel _ k hk, joined_fuel _ k hk, fails_fuel _ _ _ k hk, fails_fuel _ _ _ k hk]
/-! ### what a token depends on -/
theorem run_cut (q : Int) (hq : q ≠ 1) (B X : List UInt8) (hX : ∀ x X', X = x :: X' → kd x = 1) : ∀ A : List UInt8, (run q (A ++ B)).length ≤ A.length → run q (A ++ X) = run q (A ++ B) := by
  intro A
  induction A with
  | nil =>
    intro h
    rw [List.nil_append, List.nil_append] at *
    have h0 : run q B = [] := List.length_eq_zero_iff.1 (Nat.le_zero.1 h)
    rw [h0]
    cases X with
    | nil => rfl
    | cons x X' =>
      have := hX x X' rfl
      unfold run
      rw [List.takeWhile_cons_of_neg (p := fun b => kd b == q) (by rw [this]; simpa using fun e => hq e.symm)]
  | cons c r ih =>
    intro h
    unfold run at *
    rw [List.cons_append, List.cons_append] at *
    by_cases e : (kd c == q) = true
    · rw [List.takeWhile_cons_of_pos (p := fun b => kd b == q) e] at *
      rw [List.takeWhile_cons_of_pos (p := fun b => kd b == q) e]
      rw [List.length_cons, List.length_cons] at h
      rw [ih (by omega)]
    · rw [List.takeWhile_cons_of_neg (p := fun b => kd b == q) e] at *
      rw [List.takeWhile_cons_of_neg (p := fun b => kd b == q) e]
theorem symL_33 (c : UInt8) (h : kindOf c.toNat ≠ 4 ∨ (c.toNat : Int) = 33) : symL [c] = 0 := by
  simp only [symL]
  by_cases h4 : kindOf c.toNat ≠ 4
  · rw [if_pos h4]
  · rw [if_neg h4, if_pos (h.resolve_left h4)]
theorem symL_cut (B X : List UInt8) (hX : ∀ x X', X = x :: X' → kd x = 1) (c : UInt8) (A : List UInt8) (h : symL (c :: A ++ B) ≤ ((c :: A).length : Int)) : symL (c :: A ++ X) = symL (c :: A ++ B) := by
  cases A with
  | cons d A => simp only [List.cons_append, symL]
  | nil =>
    show symL (c :: X) = symL (c :: B)
    have h : symL (c :: B) ≤ 1 := h
    have hx : ∀ b l, X = b :: l → kindOf b.toNat = 4 → False := fun b l e h4 => by have h1 := hX b l e; unfold kd at h1; rw [h1] at h4; cases h4
    rcases symL_cases c B with hB | hB | ⟨b, l, rfl, hB, _⟩
    · rcases symL_cases c X with hc | hc | ⟨b, l, e, hc, _, h4, _⟩
      · rw [hB.1, hc.1]
      · have := symL_33 c hB.2; rw [hc.2.2.1] at this; cases this
      · exact absurd h4 (hx b l e)
    · rcases symL_cases c X with hc | hc | ⟨b, l, e, hc, _, h4, _⟩
      · have := symL_33 c hc.2; rw [hB.2.2.1] at this; cases this
      · rw [hB.1, hc.1]
      · exact absurd h4 (hx b l e)
    · rw [hB] at h; exact absurd h (by decide)
theorem tok_cut (B X : List UInt8) (hX : ∀ x X', X = x :: X' → kd x = 1) (c : UInt8) (A : List UInt8) (h : (tok (c :: A ++ B)).2.length ≤ (c :: A).length) : tok (c :: A ++ X) = tok (c :: A ++ B) := by
  rw [List.cons_append, List.cons_append] at *
  by_cases h2 : kd c = 2
  · simp only [tok, if_pos h2] at h ⊢
    rw [← List.cons_append, ← List.cons_append] at *
    rw [run_cut 2 (by decide) B X hX (c :: A) h]
  · by_cases h3 : kd c = 3
    · simp only [tok, if_neg h2, if_pos h3] at h ⊢
      rw [← List.cons_append, ← List.cons_append] at *
      rw [run_cut 3 (by decide) B X hX (c :: A) h]
    · simp only [tok, if_neg h2, if_neg h3] at h ⊢
      rw [← List.cons_append, ← List.cons_append] at *
      have hs := symL_le (c :: A ++ B)
      rw [List.length_take] at h
      have hle : symL (c :: A ++ B) ≤ ((c :: A).length : Int) := by omega
      rw [symL_cut B X hX c A hle, List.take_append_of_le_length (by omega), List.take_append_of_le_length (by omega)]
end Go.Proofs.YtdccajohjknnbaaDoor.Pure
