/- Lemmas of the proof (cut to what it uses, by wip/trim.py). -/
import Derived.Lib.ItoaNum
import Derived.Test.YtgmmngipnjmkfaaGreatDoorEb3
import Derived.Test.YtgmmngipnjmkfaaGreatDoorEb4
import Derived.Test.YtgmmngipnjmkfaaGreatDoorEb6
section
namespace Go.Proofs.YtgmmngipnjmkfaaGreatDoor.PureL
open Go.RowKit Go.Proofs.YtgmmngipnjmkfaaGreatDoor.Hand Go.Proofs.YtgmmngipnjmkfaaGreatDoor.Q Go.Proofs.YtgmmngipnjmkfaaGreatDoorW.PrintWords Go.Proofs.YtgmmngipnjmkfaaGreatDoorW.PrintLast Go.Proofs.YtgmmngipnjmkfaaGreatDoorW.PrintMore
def chkT (t : S33) : Int := chk t.f0 t.f1.data.toList
def sp : ByteArray := ⟨#[32]⟩
def em : ByteArray := ⟨#[]⟩
theorem rd_get (l : List S33) (i : Nat) (h : i < l.length) : rd_T33 l (i : Int) = l[i] := by simp [rd_T33, h]
theorem lens_le (l : List (List UInt8)) (b : Nat) (h : ∀ x ∈ l, x.length ≤ b) : Lib.lens l ≤ b * l.length := by
  induction l with
  | nil => exact Nat.le_refl _
  | cons x r ih =>
    have h1 := h x (List.mem_cons_self ..)
    have h2 := ih fun y hy => h y (List.mem_cons_of_mem _ hy)
    have : Lib.lens (x :: r) = x.length + Lib.lens r := by simp [Lib.lens]
    rw [this, List.length_cons, Nat.mul_add]; omega
theorem sjoin_f (l : List ByteArray) (B : Nat) (hl : l.length ≤ 200) (hB : (B + 1) * l.length ≤ 140737488355328) (hb : ∀ t ∈ l, t.size ≤ B) : strings_Join.f l sp = some (joinB l sp) := by
  unfold strings_Join.f
  refine if_pos ⟨by omega, ?_⟩
  cases l with
  | nil => exact Nat.zero_le _
  | cons x r =>
    rw [List.map_cons, Lib.join_length]
    have h := lens_le ((x :: r).map (·.data.toList)) B (fun y hy => by
      obtain ⟨z, hz, rfl⟩ := List.mem_map.1 hy
      rw [data_length]; exact hb z hz)
    rw [Nat.add_mul, Nat.one_mul] at hB
    rw [List.length_map] at h
    have h2 : ∀ m, m ≤ B * (x :: r).length → m + (x :: r).length ≤ 140737488355328 := fun m hm => by omega
    have h3 := h2 _ h
    rw [List.length_cons] at h3
    rw [List.map_cons] at h3
    have : sp.data.toList.length = 1 := rfl
    rw [this, List.length_map]
    omega
def jn (l : List S33) : ByteArray × Int :=
  if l.length > 200 then (em, 4) else if l.all (fun t => chkT t == 0) = true then (if (joinB (l.map S33.f1) sp).size > 400 then (em, 18) else (joinB (l.map S33.f1) sp, 0)) else (em, 8)
theorem join_l0 (l : List S33) (B : Nat) (hB2 : B ≤ 140737488351232) (hl : l.length ≤ 200) (hB : (B + 1) * l.length ≤ 140737488355328) (hb : ∀ t ∈ l, t.f1.size ≤ B) (d : Nat) : ∀ (k i : Nat), l.length - i = d → i ≤ l.length → d < k →
    lexer_Join.l0 k ((l.take i).map S33.f1) l (l.length : Int) (i : Int) = some (if (l.drop i).all (fun t => chkT t == 0) = true then (if (joinB (l.map S33.f1) sp).size > 400 then (em, 18) else (joinB (l.map S33.f1) sp, 0)) else (em, 8)) := by
  induction d with
  | zero =>
    intro k i hd hi hk
    obtain ⟨k, rfl⟩ : ∃ m, k = m + 1 := ⟨k - 1, by omega⟩
    have h := sjoin_f (l.map S33.f1) B (by rw [List.length_map]; exact hl) (by rw [List.length_map]; exact hB) (fun x hx => by obtain ⟨z, hz, rfl⟩ := List.mem_map.1 hx; exact hb z hz)
    unfold sp at h
    simp only [lexer_Join.l0]
    rw [if_neg (by omega), List.take_of_length_le (by omega), h, List.drop_of_length_le (by omega), if_pos List.all_nil]
    show (if ((joinB (l.map S33.f1) sp).size : Int) > 400 then some ((⟨#[]⟩ : ByteArray), (18 : Int)) else some (joinB (l.map S33.f1) sp, 0)) = _
    by_cases c : (joinB (l.map S33.f1) sp).size > 400
    · rw [if_pos (by omega), if_pos c]; rfl
    · rw [if_neg (by omega), if_neg c]
  | succ d ih =>
    intro k i hd hi hk
    obtain ⟨k, rfl⟩ : ∃ m, k = m + 1 := ⟨k - 1, by omega⟩
    have hlt : i < l.length := by omega
    have hih := ih k (i + 1) (by omega) (by omega) (by omega)
    have hw : wrap64 ((i : Int) + 1) = ((i + 1 : Nat) : Int) := by clear ih hih; unfold wrap64; omega
    have hz := hb l[i] (List.getElem_mem hlt)
    have hck := check_f k (by omega) l[i].f0 l[i].f1 l[i].f2 (by omega)
    have htl : (l.take i).map S33.f1 ++ [l[i].f1] = (l.take (i + 1)).map S33.f1 := by rw [List.take_succ_eq_append_getElem hlt, List.map_append]; rfl
    have hll : ((l.take i).map S33.f1).length < 8796093022208 := by rw [List.length_map, List.length_take]; omega
    rw [List.drop_eq_getElem_cons hlt, List.all_cons]
    simp only [lexer_Join.l0]
    rw [if_pos (by omega), if_pos (by omega), if_pos (by omega), rd_get l i hlt, hck, Option.bind_some]
    by_cases c : chk l[i].f0 l[i].f1.data.toList = 0
    · rw [if_pos c, if_pos hll, htl, hw, hih]
      have : (chkT l[i] == 0) = true := beq_t c
      rw [this, Bool.true_and]
    · rw [if_neg c]
      have : (chkT l[i] == 0) = false := beq_f c
      rw [this, Bool.false_and]; rfl
theorem join_f (l : List S33) (B : Nat) (hB2 : B ≤ 140737488351232) (hB : l.length ≤ 200 → (B + 1) * l.length ≤ 140737488355328) (hb : ∀ t ∈ l, t.f1.size ≤ B) (k : Nat) (hk : 201 ≤ k) : lexer_Join.f k l = some (jn l) := by
  unfold lexer_Join.f jn
  by_cases h : l.length > 200
  · rw [if_pos (by omega), if_pos h]; rfl
  · rw [if_neg (by omega), if_neg h]
    exact join_l0 l B hB2 (by omega) (hB (by omega)) hb l.length k 0 (by omega) (by omega) (by omega)
theorem scan_size {a n : Nat} {L : List UInt8} {ts : List S33} {m : Nat} {e : Int} (h : Scan a n L ts m e) : ∀ t ∈ ts, t.f1.size ≤ L.length := by
  induction h with
  | done a n => intro t ht; cases ht
  | blank hb _ ih => intro t ht; have := ih t ht; rw [List.length_cons]; omega
  | many _ => intro t ht; cases ht
  | bad _ _ _ he => intro t ht; cases ht
  | @tok a n c r ts m e _ _ hc _ ih =>
    intro t ht
    rcases List.mem_cons.1 ht with rfl | ht
    · rw [ba_size]; exact tok_len _
    · have := ih t ht; rw [List.length_drop] at this; omega
theorem run_cut (q : Int) (hq : q ≠ 1) (B X : List UInt8) (hX : ∀ x X', X = x :: X' → kd x = 1) : ∀ A : List UInt8, (run q (A ++ B)).length ≤ A.length → run q (A ++ X) = run q (A ++ B) := by
  intro A
  induction A with
  | nil =>
    intro h
    rw [List.nil_append, List.nil_append] at *
    have h0 : run q B = [] := List.length_eq_zero_iff.1 (Nat.le_zero.1 h)
    rw [h0]
    cases X with
    | nil => rfl
    | cons x X' =>
      have := hX x X' rfl
      unfold run
      rw [List.takeWhile_cons_of_neg (p := fun b => kd b == q) (by rw [this]; simpa using fun e => hq e.symm)]
  | cons c r ih =>
    intro h
    unfold run at *
    rw [List.cons_append, List.cons_append] at *
    by_cases e : (kd c == q) = true
    · rw [List.takeWhile_cons_of_pos (p := fun b => kd b == q) e] at *
      rw [List.takeWhile_cons_of_pos (p := fun b => kd b == q) e]
      rw [List.length_cons, List.length_cons] at h
      rw [ih (by omega)]
    · rw [List.takeWhile_cons_of_neg (p := fun b => kd b == q) e] at *
      rw [List.takeWhile_cons_of_neg (p := fun b => kd b == q) e]
theorem symL_33 (c : UInt8) (h : kindOf c.toNat ≠ 4 ∨ (c.toNat : Int) = 33) : symL [c] = 0 := by
  simp only [symL]
  by_cases h4 : kindOf c.toNat ≠ 4
  · rw [if_pos h4]
  · rw [if_neg h4, if_pos (h.resolve_left h4)]
theorem symL_cut (B X : List UInt8) (hX : ∀ x X', X = x :: X' → kd x = 1) (c : UInt8) (A : List UInt8) (h : symL (c :: A ++ B) ≤ ((c :: A).length : Int)) : symL (c :: A ++ X) = symL (c :: A ++ B) := by
  cases A with
  | cons d A => simp only [List.cons_append, symL]
  | nil =>
    show symL (c :: X) = symL (c :: B)
    have h : symL (c :: B) ≤ 1 := h
    have hx : ∀ b l, X = b :: l → kindOf b.toNat = 4 → False := fun b l e h4 => by have h1 := hX b l e; unfold kd at h1; rw [h1] at h4; cases h4
    rcases symL_cases c B with hB | hB | ⟨b, l, rfl, hB, _⟩
    · rcases symL_cases c X with hc | hc | ⟨b, l, e, hc, _, h4, _⟩
      · rw [hB.1, hc.1]
      · have := symL_33 c hB.2; rw [hc.2.2.1] at this; cases this
      · exact absurd h4 (hx b l e)
    · rcases symL_cases c X with hc | hc | ⟨b, l, e, hc, _, h4, _⟩
      · have := symL_33 c hc.2; rw [hB.2.2.1] at this; cases this
      · rw [hB.1, hc.1]
      · exact absurd h4 (hx b l e)
    · rw [hB] at h; exact absurd h (by decide)
theorem tok_cut (B X : List UInt8) (hX : ∀ x X', X = x :: X' → kd x = 1) (c : UInt8) (A : List UInt8) (h : (tok (c :: A ++ B)).2.length ≤ (c :: A).length) : tok (c :: A ++ X) = tok (c :: A ++ B) := by
  rw [List.cons_append, List.cons_append] at *
  by_cases h2 : kd c = 2
  · simp only [tok, if_pos h2] at h ⊢
    rw [← List.cons_append, ← List.cons_append] at *
    rw [run_cut 2 (by decide) B X hX (c :: A) h]
  · by_cases h3 : kd c = 3
    · simp only [tok, if_neg h2, if_pos h3] at h ⊢
      rw [← List.cons_append, ← List.cons_append] at *
      rw [run_cut 3 (by decide) B X hX (c :: A) h]
    · simp only [tok, if_neg h2, if_neg h3] at h ⊢
      rw [← List.cons_append, ← List.cons_append] at *
      have hs := symL_le (c :: A ++ B)
      rw [List.length_take] at h
      have hle : symL (c :: A ++ B) ≤ ((c :: A).length : Int) := by omega
      rw [symL_cut B X hX c A hle, List.take_append_of_le_length (by omega), List.take_append_of_le_length (by omega)]
set_option linter.unusedVariables false
theorem digB_kd (b : UInt8) : digB b = (kd b == 2) := by
  have h : ∀ n : Fin 256, digB (UInt8.ofNat n.val) = (kd (UInt8.ofNat n.val) == 2) := by decide +kernel
  have := h ⟨b.toNat, b.toNat_lt⟩
  simpa using this
theorem word_letters (t : List UInt8) (h : isWord (ba t) = true) : t.all (fun b => kd b == 3) = true := by
  have hall : wordList.all (fun w => w.data.toList.all fun b => kd b == 3) = true := by kernel_rfl
  have := List.all_eq_true.1 hall _ (isWord_iff.1 h)
  exact this
theorem run_all (q : Int) (t : List UInt8) (h : t.all (fun b => kd b == q) = true) : run q t = t := by
  unfold run
  induction t with
  | nil => rfl
  | cons c r ih =>
    rw [List.all_cons, Bool.and_eq_true] at h
    rw [List.takeWhile_cons_of_pos (p := fun b => kd b == q) h.1, ih h.2]
theorem tok_valid (q : Int) (t : List UInt8) (h : chk q t = 0) : tok t = (q, t) := by
  have hne := chk_pos h
  cases t with
  | nil => exact absurd rfl hne
  | cons c r =>
    unfold chk at h
    by_cases h1 : q = 1
    · rw [if_pos h1] at h
      have hd : (c :: r).all digB = true := by
        unfold readL at h
        rw [if_neg (by simp)] at h
        by_cases hd : (c :: r).all digB = true
        · exact hd
        · rw [if_neg hd] at h; exact absurd h (by decide)
      have hk : (c :: r).all (fun b => kd b == 2) = true := by
        rw [List.all_eq_true] at hd ⊢
        intro b hb; rw [← digB_kd]; exact hd b hb
      have hc : kd c = 2 := by have := List.all_eq_true.1 hk c (List.mem_cons_self ..); simpa using this
      simp only [tok, if_pos hc]
      rw [run_all 2 _ hk, h1]
    rw [if_neg h1] at h
    by_cases h2 : q = 2
    · rw [if_pos h2] at h
      have hw : isWord (ba (c :: r)) = true := by
        cases hw : isWord (ba (c :: r)) with
        | true => rfl
        | false => rw [hw] at h; exact absurd h (by decide)
      have hk := word_letters _ hw
      have hc : kd c = 3 := by have := List.all_eq_true.1 hk c (List.mem_cons_self ..); simpa using this
      simp only [tok, if_neg (show ¬ kd c = 2 by rw [hc]; decide), if_pos hc]
      rw [run_all 3 _ hk, h2]
    rw [if_neg h2] at h
    by_cases h3 : q = 3
    · rw [if_pos h3] at h
      have hs : symL (c :: r) > 0 ∧ symL (c :: r) = ((c :: r).length : Int) := by
        by_cases hs : symL (c :: r) > 0 ∧ symL (c :: r) = ((c :: r).length : Int)
        · exact hs
        · rw [if_neg hs] at h; exact absurd h (by decide)
      have hc : kd c = 4 := by
        rcases symL_cases c r with hx | hx | ⟨b, l, _, _, hx, _⟩
        · rw [hx.1] at hs; exact absurd hs.1 (by decide)
        · exact hx.2.1
        · exact hx
      simp only [tok, if_neg (show ¬ kd c = 2 by rw [hc]; decide), if_neg (show ¬ kd c = 3 by rw [hc]; decide)]
      rw [hs.2, Int.toNat_natCast, List.take_length, h3]
    · rw [if_neg h3] at h; exact absurd h (by decide)
theorem kd_sp : kd 32 = 1 := by decide
theorem chk_head (q : Int) (c : UInt8) (r : List UInt8) (h : chk q (c :: r) = 0) : kd c ≠ 1 := by
  intro hk
  have ht := tok_valid q _ h
  simp only [tok, if_neg (show ¬ kd c = 2 by rw [hk]; decide), if_neg (show ¬ kd c = 3 by rw [hk]; decide)] at ht
  have h2 := (Prod.mk.inj ht).2
  rcases symL_cases c r with hx | hx | ⟨b, l, _, _, hx, _⟩
  · rw [hx.1] at h2; cases h2
  · have := hx.2.1; unfold kd at hk; rw [hk] at this; cases this
  · unfold kd at hk; rw [hk] at hx; cases hx
end Go.Proofs.YtgmmngipnjmkfaaGreatDoor.PureL
end
section
namespace Go.Proofs.YtgmmngipnjmkfaaGreatDoor.Pure
open Go.Proofs.YtgmmngipnjmkfaaGreatDoor.Q
def opB (k : Int) : List UInt8 :=
  if k = 7 then [42] else if k = 8 then [43] else if k = 9 then [45] else if k = 10 then [60, 60] else if k = 11 then [62, 62] else if k = 12 then [60] else if k = 13 then [60, 61] else if k = 14 then [62] else if k = 15 then [62, 61]
  else if k = 16 then [61] else if k = 17 then [33, 61] else if k = 18 then [97, 110, 100] else [111, 114]
def fldB (k : Int) : List UInt8 := if k = 2 then [107] else if k = 3 then [116] else [118]
def brB (p : Bool) (s : List UInt8) : List UInt8 := if p then 40 :: (s ++ [41]) else s
def tbytes : Tr → Bool → List UInt8
  | .leaf k n _, _ => if k = 1 then Lib.itoa n else fldB k
  | .un k _ a, p => brB p ((if k = 5 then [45, 32] else [110, 111, 116, 32]) ++ tbytes a true)
  | .bin k _ a b, p => brB p (tbytes a true ++ ([32] ++ (opB k ++ ([32] ++ tbytes b true))))
def rdN (l : List Nd) (i : Int) : Nd := l.getD i.toNat z43
def textN : Nat → List Nd → Int → Bool → List UInt8
  | 0, _, _, _ => []
  | k + 1, l, a, p =>
    if (rdN l a).f0 = 1 then Lib.itoa (rdN l a).f1 else if (rdN l a).f0 ≤ 4 then fldB (rdN l a).f0
    else if (rdN l a).f0 ≤ 6 then brB p ((if (rdN l a).f0 = 5 then [45, 32] else [110, 111, 116, 32]) ++ textN k l (rdN l a).f2 true)
    else brB p (textN k l (rdN l a).f2 true ++ ([32] ++ (opB (rdN l a).f0 ++ ([32] ++ textN k l (rdN l a).f3 true))))
def Lies (l : List Nd) (o : Nat) (t : Tr) : Prop := ∃ pre post, l = pre ++ (t.flat o ++ post) ∧ pre.length = o
theorem lies_root (t : Tr) : Lies (t.flat 0) 0 t := ⟨[], [], by simp, rfl⟩
theorem rdN_app {l pre post : List Nd} {x : Nd} (h : l = pre ++ (x :: post)) (i : Int) (hi : i = (pre.length : Int)) : rdN l i = x := by
  subst h; subst hi; unfold rdN
  rw [Int.toNat_natCast, List.getD_eq_getElem?_getD, List.getElem?_append_right (Nat.le_refl _), Nat.sub_self]; rfl
theorem lies_len {l : List Nd} {o : Nat} {t : Tr} (h : Lies l o t) : o + t.size ≤ l.length := by
  obtain ⟨pre, post, rfl, h⟩ := h
  rw [List.length_append, List.length_append, t.flat_len]; omega
theorem lies_leaf {l : List Nd} {o : Nat} {k n p : Int} (h : Lies l o (.leaf k n p)) : rdN l (o : Int) = ⟨k, n, 0, 0, p⟩ := by
  obtain ⟨pre, post, e, h⟩ := h
  exact rdN_app (post := post) (by simpa [Tr.flat] using e) _ (by omega)
theorem lies_un {l : List Nd} {o : Nat} {k p : Int} {a : Tr} (h : Lies l o (.un k p a)) : Lies l o a ∧ rdN l (((o + a.size : Nat)) : Int) = ⟨k, 0, ((o + a.size : Nat) : Int) - 1, 0, p⟩ := by
  obtain ⟨pre, post, e, h⟩ := h
  refine ⟨⟨pre, [⟨k, 0, ((o + a.size : Nat) : Int) - 1, 0, p⟩] ++ post, by rw [e]; simp only [Tr.flat, List.append_assoc], h⟩, rdN_app (pre := pre ++ a.flat o) (post := post) (by rw [e]; simp [Tr.flat]) _ (by rw [List.length_append, a.flat_len]; omega)⟩
theorem lies_bin {l : List Nd} {o : Nat} {k p : Int} {a b : Tr} (h : Lies l o (.bin k p a b)) : Lies l o a ∧ Lies l (o + a.size) b ∧ rdN l (((o + a.size + b.size : Nat)) : Int) = ⟨k, 0, ((o + a.size : Nat) : Int) - 1, ((o + a.size + b.size : Nat) : Int) - 1, p⟩ := by
  obtain ⟨pre, post, e, h⟩ := h
  refine ⟨⟨pre, b.flat (o + a.size) ++ ([⟨k, 0, ((o + a.size : Nat) : Int) - 1, ((o + a.size + b.size : Nat) : Int) - 1, p⟩] ++ post), by rw [e]; simp only [Tr.flat, List.append_assoc], h⟩, ⟨pre ++ a.flat o, [⟨k, 0, ((o + a.size : Nat) : Int) - 1, ((o + a.size + b.size : Nat) : Int) - 1, p⟩] ++ post, by rw [e]; simp only [Tr.flat, List.append_assoc], by rw [List.length_append, a.flat_len]; omega⟩,
    rdN_app (pre := pre ++ (a.flat o ++ b.flat (o + a.size))) (post := post) (by rw [e]; simp [Tr.flat]) _ (by rw [List.length_append, List.length_append, a.flat_len, b.flat_len]; omega)⟩
theorem textN_tree : ∀ (t : Tr), t.WF → ∀ (k : Nat) (l : List Nd) (o : Nat) (p : Bool), t.depth ≤ k → Lies l o t → textN k l (((o + t.size : Nat) : Int) - 1) p = tbytes t p
  | .leaf kd n ps, hw, k, l, o, p, hk, h => by
    obtain ⟨k, rfl⟩ : ∃ m, k = m + 1 := ⟨k - 1, by simp [Tr.depth] at hk; omega⟩
    obtain ⟨h1, h2, _⟩ := hw
    rw [show ((o + (Tr.leaf kd n ps).size : Nat) : Int) - 1 = (o : Int) by simp [Tr.size]]
    simp only [textN, lies_leaf h]
    simp only [tbytes]
    by_cases h3 : kd = 1
    · rw [if_pos h3, if_pos h3]
    · rw [if_neg h3, if_neg h3, if_pos h2]
  | .un kd ps a, hw, k, l, o, p, hk, h => by
    obtain ⟨k, rfl⟩ : ∃ m, k = m + 1 := ⟨k - 1, by simp [Tr.depth] at hk; omega⟩
    obtain ⟨h1, _, _, h4⟩ := hw
    obtain ⟨ha, hr⟩ := lies_un h
    rw [show ((o + (Tr.un kd ps a).size : Nat) : Int) - 1 = ((o + a.size : Nat) : Int) by simp only [Tr.size]; omega]
    simp only [textN, hr]
    simp only [tbytes]
    rw [if_neg (by omega), if_neg (by omega), if_pos (by omega), textN_tree a h4 k l o true (by simp [Tr.depth] at hk; omega) ha]
  | .bin kd ps a b, hw, k, l, o, p, hk, h => by
    obtain ⟨k, rfl⟩ : ∃ m, k = m + 1 := ⟨k - 1, by simp [Tr.depth] at hk; omega⟩
    obtain ⟨h1, _, _, _, h5, h6⟩ := hw
    obtain ⟨ha, hb, hr⟩ := lies_bin h
    simp only [Tr.depth] at hk
    rw [show ((o + (Tr.bin kd ps a b).size : Nat) : Int) - 1 = ((o + a.size + b.size : Nat) : Int) by simp only [Tr.size]; omega]
    simp only [textN, hr]
    simp only [tbytes]
    rw [if_neg (by omega), if_neg (by omega), if_neg (by omega), textN_tree a h5 k l o true (by omega) ha, textN_tree b h6 k l (o + a.size) true (by omega) hb]
theorem nDigits_le : ∀ (k u : Nat), 1 ≤ k → u < 10 ^ k → Lib.nDigits u ≤ k
  | 0, _, h, _ => by omega
  | k + 1, u, _, h => by
    by_cases h1 : u < 10
    · rw [Lib.nDigits_small h1]; omega
    · rw [Lib.nDigits_big h1]
      have hk : 1 ≤ k := by
        rcases Nat.eq_zero_or_pos k with h0 | h0
        · subst h0; simp at h; omega
        · exact h0
      have := nDigits_le k (u / 10) hk (by rw [Nat.pow_succ] at h; omega)
      omega
theorem itoa_len {n : Int} (h0 : 0 ≤ n) (h1 : n ≤ 9223372036854775807) : (Lib.itoa n).length ≤ 19 := by
  unfold Lib.itoa
  rw [if_neg (by omega), Lib.decDigits_length]
  exact nDigits_le 19 _ (by omega) (by omega)
theorem ite_len {c : Prop} [Decidable c] {a b : List UInt8} {n : Nat} (ha : a.length ≤ n) (hb : b.length ≤ n) : (if c then a else b).length ≤ n := by split <;> assumption
theorem opB_len (k : Int) : (opB k).length ≤ 3 := by
  unfold opB
  repeat (refine ite_len (by decide) ?_)
  decide
theorem fldB_len (k : Int) : (fldB k).length ≤ 1 := by
  unfold fldB
  repeat (refine ite_len (by decide) ?_)
  decide
theorem brB_len (p : Bool) (s : List UInt8) : (brB p s).length ≤ s.length + 2 := by
  unfold brB
  cases p <;> simp
theorem tbytes_len : ∀ (t : Tr), t.WF → ∀ p, (tbytes t p).length ≤ 19 * t.size
  | .leaf kd n ps, hw, p => by
    obtain ⟨h1, h2, h3, h4, _⟩ := hw
    have h5 := itoa_len h3 h4
    have h6 := fldB_len kd
    simp only [tbytes, Tr.size]
    split <;> omega
  | .un kd ps a, hw, p => by
    have h1 := tbytes_len a hw.2.2.2 true
    have h2 := brB_len p ((if kd = 5 then [45, 32] else [110, 111, 116, 32]) ++ tbytes a true)
    have h3 : (if kd = 5 then [45, 32] else [110, 111, 116, 32] : List UInt8).length ≤ 4 := by split <;> simp
    simp only [tbytes, Tr.size]
    rw [List.length_append] at h2
    omega
  | .bin kd ps a b, hw, p => by
    have h1 := tbytes_len a hw.2.2.2.2.1 true
    have h2 := tbytes_len b hw.2.2.2.2.2 true
    have h3 := opB_len kd
    have h4 := brB_len p (tbytes a true ++ ([32] ++ (opB kd ++ ([32] ++ tbytes b true))))
    simp only [tbytes, Tr.size]
    simp only [List.length_append, List.length_cons, List.length_nil] at h4
    omega
end Go.Proofs.YtgmmngipnjmkfaaGreatDoor.Pure
end
section
namespace Go.Proofs.YtgmmngipnjmkfaaGreatDoor.Q
open Go.Proofs.YtgmmngipnjmkfaaGreatDoor.Hand
open Go.RowKit Go.Proofs.YtgmmngipnjmkfaaGreatDoorW.PrintWords Go.Proofs.YtgmmngipnjmkfaaGreatDoorW.PrintLast Go.Proofs.YtgmmngipnjmkfaaGreatDoorW.PrintMore
attribute [local go_sem] max2_int min2_int max_two min_two max_three min_three max_four min_four
set_option linter.unusedVariables false
set_option linter.unusedSimpArgs false
mutual
def nodes_moved.l0 : Nat → Int → List (S43) → Int → Int → Option ((List (S43)))
  | 0, _, _, _, _ => none
  | k + 1, x1, x5, x12, x13 => if x13 < x12 then (if 0 ≤ x13 then (if x13 < (x5.length : Int) then ((nodes_Parts.f ((rd_T43 x5 x13).f0)).bind fun bt144 => (if bt144.1 > 0 then (nodes_moved.j1 k x1 (x5.set (x13 : Int).toNat (⟨(rd_T43 x5 x13).f0, (rd_T43 x5 x13).f1, wrap64 (((rd_T43 x5 x13).f2) + x1), (rd_T43 x5 x13).f3, (rd_T43 x5 x13).f4⟩ : S43)) x13 bt144.1 x12 x13) else (nodes_moved.j1 k x1 x5 x13 bt144.1 x12 x13))) else (none)) else (none)) else (some x5)
def nodes_moved.j1 : Nat → Int → List (S43) → Int → Int → Int → Int → Option ((List (S43)))
  | 0, _, _, _, _, _, _ => none
  | k + 1, x1, x5, x6, x7, x12, x13 => if x7 > 1 then (if 0 ≤ x6 then (if x6 < (x5.length : Int) then (nodes_moved.l0 k x1 (x5.set (x6 : Int).toNat (⟨(rd_T43 x5 x6).f0, (rd_T43 x5 x6).f1, (rd_T43 x5 x6).f2, wrap64 (((rd_T43 x5 x6).f3) + x1), (rd_T43 x5 x6).f4⟩ : S43)) x12 (wrap64 (x13 + 1))) else (none)) else (none)) else (nodes_moved.l0 k x1 x5 x12 (wrap64 (x13 + 1)))
end
def nodes_moved.f (k : Nat) (l0 : List (S43)) (a1 : Int) : Option ((List (S43))) := (api_Node.f l0).bind fun t140 => (nodes_moved.l0 k a1 t140 (t140.length : Int) 0)
set_option maxHeartbeats 8000000 in
set_option maxRecDepth 100000 in
theorem nodes_moved.calls (k : Nat) (A0 : Option Addr) (c0 : Nat) (l0 : List (S43)) (a1 : Int) (r : List (S43)) (w : World) (hr0 : Kd.C k43 w A0 l0.length l0) (hc0 : l0.length ≤ c0) (h : nodes_moved.f k l0 a1 = some r) :
 Calls Tryz.prog 37 #[.slice A0 l0.length c0, .int .i64 a1] w fun e w' => ∃ v0_ : Value, e = .returned (v0_) ∧ Kd.R k43 43 w' w.heap.size (fun _ => True) v0_ r ∧ Below w.heap.size w w' := by
 have HR0 := Aside0.mk hr0
 have HC0 := Aside0.mk hc0
 clear hr0 hc0
 have HB := Aside0.mk (Below.refl w.heap.size w)
 have H : ((api_Node.f l0).bind fun t140 => (nodes_moved.l0 k a1 t140 (t140.length : Int) 0)) = some r := h
 clear h
 replace H := Option.bind_eq_some_iff.mp H
 obtain ⟨t140, A30, H⟩ := H
 replace H : (nodes_moved.l0 k a1 t140 (t140.length : Int) 0) = some r := H
 have A3 := Aside0.mk A30
 clear A30
 have H' := Aside0.mk H
 clear H
 go_enter Tryz.func37, Tryz.ntmps37
 go_wp2_with (first | ((with_reducible refine gate_callee (f := 56) rfl ?_); refine goesL_ (some 10) rfl rfl Tryz.func56 (by kernel_rfl) rfl #[.slice A0 l0.length c0] rfl (by (try simp only [List.map_toArray, List.map_cons, List.map_nil]); first | done | rfl | (simp only [List.length_drop, List.length_take]; rfl)) ?_; (with_reducible refine (api_Node.calls _ _ l0 t140 _ ?side1 ?side2 A3.out).mono ?_); (case side1 => repeat (first | exact HR0.out | (with_reducible refine Kd.C_alloc ?_ _) | (with_reducible refine Kd.C_drewN ?_ _) | (with_reducible refine Kd.C_drew ?_))); (case side2 => exact HC0.out); rintro e w4 ⟨v141, rfl, ho0, hb⟩; refine ⟨_, rfl, ?_⟩; have n0_ := Aside0.mk (Kd.R_lower ho0 (below_size (by repeat (first | (with_reducible first | exact HB.out | apply below_alloc | apply pw_below_drewN | apply below_drew1) | exact HB.out)))); have n1_ := Aside0.mk (below_step (by repeat (first | (with_reducible first | exact HB.out | apply below_alloc | apply pw_below_drewN | apply below_drew1) | exact HB.out)) hb); clear HB; have HO142 := n0_; have HB := n1_; clear n0_ n1_; (try clear hb); (try clear hb2); (try clear hk); (try clear hi); (try clear ho0); obtain ⟨Ao5, co5, eo5⟩ := Kd.R_slice HO142.out; subst eo5))
 go_loopg [13] k (fun kq v13 w' => ∃ (x5_1 : List (S43)) (x13_1 : Int), v13 = .int .i64 x13_1 ∧ Aside0 (nodes_moved.l0 kq a1 x5_1 (t140.length : Int) x13_1 = some r) ∧ Aside0 (kq ≤ k) ∧ Aside0 (Kd.R k43 43 w' w.heap.size (fun _ => True) (.slice Ao5 t140.length co5) x5_1) ∧ Aside0 (Below w.heap.size w w'))
 case atStart => exact ⟨(t140), (0), (by first | rfl | (simp; done) | (simp [*]; done)), H', ⟨Nat.le_refl _⟩, ⟨by (with_reducible repeat (first | apply Kd.R_alloc | apply Kd.R_drewN | apply Kd.R_drew)); exact HO142.out⟩, ⟨by repeat (first | (with_reducible first | exact HB.out | apply below_alloc | apply pw_below_drewN | apply below_drew1) | exact HB.out)⟩⟩
 case round =>
  clear H'
  try clear p2
  try clear c3
  try clear c5
  obtain ⟨x5_1, x13_1, rfl, HA, HK1, HO_5, HB⟩ := hrel
  have hl5_1 := (Kd.R_reads' HO_5.out).1
  rw [hl5_1] at HO_5
  (try simp only [hl5_1])
  cases gk with
  | zero => exact absurd HA.out (by simp [nodes_moved.l0])
  | succ k1 =>
   have H := HA.out
   clear HA
   simp only [nodes_moved.l0] at H
   by_cases c6 : x13_1 < (t140.length : Int)
   ·rw [if_pos c6] at H
    have c6b0 : decide (x13_1 < (t140.length : Int)) = true := decide_eq_true c6
    clear c6
    by_cases c7 : 0 ≤ x13_1
    ·rw [if_pos c7] at H
     have c7b0 : decide (0 ≤ x13_1) = true := decide_eq_true c7
     clear c7
     by_cases c8 : x13_1 < (x5_1.length : Int)
     ·rw [if_pos c8] at H
      have c8b0 : decide (x13_1 < (x5_1.length : Int)) = true := decide_eq_true c8
      clear c8
      replace H := Option.bind_eq_some_iff.mp H
      obtain ⟨⟨t144, t145⟩, A90, H⟩ := H
      replace H : (if t144 > 0 then (nodes_moved.j1 k1 a1 (x5_1.set (x13_1 : Int).toNat (⟨(rd_T43 x5_1 x13_1).f0, (rd_T43 x5_1 x13_1).f1, wrap64 (((rd_T43 x5_1 x13_1).f2) + a1), (rd_T43 x5_1 x13_1).f3, (rd_T43 x5_1 x13_1).f4⟩ : S43)) x13_1 t144 (t140.length : Int) x13_1) else (nodes_moved.j1 k1 a1 x5_1 x13_1 t144 (t140.length : Int) x13_1)) = some r := H
      have A9 := Aside0.mk A90
      clear A90
      have HC10 := Aside0.mk H
      clear H
      have p143 : 0 ≤ (x13_1 : Int) := of_decide_eq_true (by first | (with_reducible assumption) | assumption)
      have q143 : x13_1 < (x5_1.length : Int) := of_decide_eq_true (by first | (with_reducible assumption) | assumption)
      obtain ⟨ad143, e143, hx143_0, hx143_1, hx143_2, hx143_3, hx143_4⟩ := at_T43 (Kd.R_reads' HO_5.out).2.2 x13_1 p143 q143
      cases e143
      replace p143 := eq_true p143
      replace q143 := eq_true q143
      go_upto_if 26 with (first | ((with_reducible refine gate_callee (f := 36) rfl ?_); refine goesL_ (some 22) rfl rfl Tryz.func36 (by kernel_rfl) rfl #[.int .u8 ((rd_T43 x5_1 x13_1).f0)] rfl (by (try simp only [List.map_toArray, List.map_cons, List.map_nil]); first | done | rfl | (simp only [List.length_drop, List.length_take]; rfl)) ?_; (with_reducible refine (nodes_Parts.calls ((rd_T43 x5_1 x13_1).f0) t144 t145 _ A9.out).mono ?_); rintro e w11 ⟨rfl, hb⟩; refine ⟨_, rfl, ?_⟩; have n0_ := Aside0.mk (Kd.R_below (by (with_reducible repeat (first | apply Kd.R_alloc | apply Kd.R_drewN | apply Kd.R_drew)); exact HO_5.out) hb); have n1_ := Aside0.mk (below_step (by repeat (first | (with_reducible first | exact HB.out | apply below_alloc | apply pw_below_drewN | apply below_drew1) | exact HB.out)) hb); clear HO_5; clear HB; have HO_5 := n0_; have HB := n1_; clear n0_ n1_; (try clear hb); (try clear hb2); (try clear hk); (try clear hi)))
      (try simp only [Act.put, List.setIfInBounds_toArray, List.set_cons_zero, List.set_cons_succ])
      go_cut [] (fun wc => ∃ (kq : Nat) (x5_9 : List (S43)), Aside0 (nodes_moved.j1 kq a1 x5_9 x13_1 t144 (t140.length : Int) x13_1 = some r) ∧ Aside0 (kq ≤ k1) ∧ Aside0 (Kd.R k43 43 wc w.heap.size (fun _ => True) (.slice (some ad143) x5_1.length co5) x5_9) ∧ Aside0 (Below w.heap.size w wc))
      case first =>
       have H := HC10.out
       clear HC10
       by_cases c12 : t144 > 0
       ·rw [if_pos c12] at H
        have c12b0 : decide (0 < t144) = true := decide_eq_true c12
        clear c12
        (first | rw [c12b0] | (simp only [i64_w, i32_w]; rw [c12b0]) | skip)
        obtain ⟨y147, hy147⟩ : ∃ y_ : List (S43), y_ = (x5_1.set (x13_1 : Int).toNat (⟨(rd_T43 x5_1 x13_1).f0, (rd_T43 x5_1 x13_1).f1, wrap64 (((rd_T43 x5_1 x13_1).f2) + a1), (rd_T43 x5_1 x13_1).f3, (rd_T43 x5_1 x13_1).f4⟩ : S43)) := ⟨_, rfl⟩
        replace H : (nodes_moved.j1 k1 a1 y147 x13_1 t144 (t140.length : Int) x13_1) = some r := by first | (rw [hy147]; with_reducible exact H) | (have H2_ := (Option.bind_some _ _).symm.trans H; rw [hy147]; with_reducible exact H2_) | (have H2_ := (Option.bind_some _ _).symm.trans H; with_reducible exact H2_) | with_reducible exact H | (rw [hy147]; exact H) | exact H
        have Ny147 := Aside0.mk hy147
        clear hy147
        have H' := Aside0.mk H
        clear H
        have p146 : 0 ≤ (x13_1 : Int) := of_decide_eq_true (by first | (with_reducible assumption) | assumption)
        have q146 : x13_1 < (x5_1.length : Int) := of_decide_eq_true (by first | (with_reducible assumption) | assumption)
        obtain ⟨ad146, e146, hx146_0, hx146_1, hx146_2, hx146_3, hx146_4⟩ := at_T43 (Kd.R_reads' HO_5.out).2.2 x13_1 p146 q146
        obtain rfl : ad143 = ad146 := (by injection e146)
        replace p146 := eq_true p146
        replace q146 := eq_true q146
        have p13 : 0 ≤ (x13_1 : Int) := of_decide_eq_true (by first | (with_reducible assumption) | assumption)
        have q13 : (x13_1 : Int) < ((x5_1.length : Int) : Int) := of_decide_eq_true (by first | (with_reducible assumption) | assumption)
        obtain ⟨go13, co13, eo13, gb13, gl13, cl13, HG13⟩ := Kd.R_form HO_5.out (by omega)
        (first | cases eo13 | (injection eo13 with ea_ en_ ec_; (first | subst ea_ | (injection ea_ with ea_; subst ea_)); subst ec_; clear en_))
        have GB13 := Aside0.mk gb13
        have GG13 := Aside0.mk HG13
        clear gb13 gl13 HG13
        (first | simp only [add_plain] at hx143_0 | skip)
        (first | simp only [add_plain] at hx143_1 | skip)
        (first | simp only [add_plain] at hx143_2 | skip)
        (first | simp only [add_plain] at hx143_3 | skip)
        (first | simp only [add_plain] at hx143_4 | skip)
        (first | simp only [add_plain] at hx146_0 | skip)
        (first | simp only [add_plain] at hx146_1 | skip)
        (first | simp only [add_plain] at hx146_2 | skip)
        (first | simp only [add_plain] at hx146_3 | skip)
        (first | simp only [add_plain] at hx146_4 | skip)
        obtain ⟨ce13, hcl13, hM13, hcc13, hfr13⟩ := Kd.R_elem HO_5.out z43 (x13_1 : Int) p13 q13
        obtain rfl := k43_openM hM13
        have hx13_0 : w11.cell? ⟨go13, (x13_1 : Int).toNat * 5, none⟩ = some (.int .u8 ((rd_T43 x5_1 x13_1).f0)) := hcc13 0 _ rfl
        have hx13_1 : w11.cell? ⟨go13, (x13_1 : Int).toNat * 5 + 1, none⟩ = some (.int .i64 ((rd_T43 x5_1 x13_1).f1)) := hcc13 1 _ rfl
        have hx13_2 : w11.cell? ⟨go13, (x13_1 : Int).toNat * 5 + 2, none⟩ = some (.int .i64 ((rd_T43 x5_1 x13_1).f2)) := hcc13 2 _ rfl
        have hx13_3 : w11.cell? ⟨go13, (x13_1 : Int).toNat * 5 + 3, none⟩ = some (.int .i64 ((rd_T43 x5_1 x13_1).f3)) := hcc13 3 _ rfl
        have hx13_4 : w11.cell? ⟨go13, (x13_1 : Int).toNat * 5 + 4, none⟩ = some (.int .i64 ((rd_T43 x5_1 x13_1).f4)) := hcc13 4 _ rfl
        have hf13_0 : w11.frozen? ⟨go13, (x13_1 : Int).toNat * 5, none⟩ = false := hfr13 0
        have hf13_1 : w11.frozen? ⟨go13, (x13_1 : Int).toNat * 5 + 1, none⟩ = false := hfr13 1
        have hf13_2 : w11.frozen? ⟨go13, (x13_1 : Int).toNat * 5 + 2, none⟩ = false := hfr13 2
        have hf13_3 : w11.frozen? ⟨go13, (x13_1 : Int).toNat * 5 + 3, none⟩ = false := hfr13 3
        have hf13_4 : w11.frozen? ⟨go13, (x13_1 : Int).toNat * 5 + 4, none⟩ = false := hfr13 4
        clear hcl13 hcc13 hfr13 hM13
        replace p13 := eq_true p13
        replace q13 := eq_true q13
        have HX14 := Aside0.mk (show Kd.R k43 43 w11 w.heap.size (fun _ => True) (.slice (some ⟨go13, 0, none⟩) x5_1.length co5) x5_1 from (by (with_reducible repeat (first | apply Kd.R_alloc | apply Kd.R_drewN | apply Kd.R_drew)); exact HO_5.out))
        obtain ⟨ce14, hcl14, hM14, hcc14, hfr14⟩ := Kd.R_elem HX14.out z43 (x13_1 : Int) (of_decide_eq_true (by first | (with_reducible assumption) | assumption)) (by have h_ : (x13_1 : Int) < ((x5_1.length : Int) : Int) := of_decide_eq_true (by first | (with_reducible assumption) | assumption); first | exact h_ | (have e_ := (Kd.R_reads' HO_5.out).1; omega) | simpa using h_)
        obtain rfl := k43_openM hM14
        have HP14 := Kd.R_seg HX14.out (x13_1 : Int) (of_decide_eq_true (by first | (with_reducible assumption) | assumption)) (by have h_ : (x13_1 : Int) < ((x5_1.length : Int) : Int) := of_decide_eq_true (by first | (with_reducible assumption) | assumption); first | exact h_ | (have e_ := (Kd.R_reads' HO_5.out).1; omega) | simpa using h_) (seg := [.int .i64 (wrap64 (((rd_T43 x5_1 x13_1).f2) + a1))]) (j := 2) hcl14 hcc14 (show 3 ≤ 5 from by decide) (x' := (⟨(rd_T43 x5_1 x13_1).f0, (rd_T43 x5_1 x13_1).f1, wrap64 (((rd_T43 x5_1 x13_1).f2) + a1), (rd_T43 x5_1 x13_1).f3, (rd_T43 x5_1 x13_1).f4⟩ : S43)) (k43_mkM _ _ _ (⟨(rd_T43 x5_1 x13_1).f0, (rd_T43 x5_1 x13_1).f1, wrap64 (((rd_T43 x5_1 x13_1).f2) + a1), (rd_T43 x5_1 x13_1).f3, (rd_T43 x5_1 x13_1).f4⟩ : S43) ) (fun _ hk => hk)
        have hx14_2 := hcc14 2 _ rfl
        (try simp only [show (k43).sz = 5 from rfl, Nat.mul_one, Nat.add_zero] at hx14_2)
        have hf14_2 := hfr14 2
        (try simp only [show (k43).sz = 5 from rfl, Nat.mul_one, Nat.add_zero] at hf14_2)
        clear hcl14 hcc14 hfr14 hM14
        go_wp2_with (first | ((with_reducible refine gate_store (t := 3) (p := 35) rfl ?_); refine store_event (t := 3) (p := 35) (v := ?vo_w15) (w1 := (w11.setCell ⟨go13, (x13_1 : Int).toNat * 5 + 2, none⟩ (.int .i64 (wrap64 (((rd_T43 x5_1 x13_1).f2) + a1))))) ?hg ?ho ?hn ?hr ?_; (case ho => rfl); (case hg => rfl); (case hn => rfl); (case hr => first | (go_simp; done) | (go_simp; rfl)); intro w15 hw; have hg : w11.grownBy w15 (some go13) := (by rw [hw]; exact HP14.2); have hp_ : Kd.R k43 43 w15 w.heap.size (fun _ => True) (.slice (some ⟨go13, 0, none⟩) x5_1.length co5) y147 := (by rw [hw, Ny147.out]; exact HP14.1); clear HP14; have n0_ := Aside0.mk (hp_); have n1_ := Aside0.mk ((by rw [hw]; exact below_set (HB.out) GB13.out : Below w.heap.size w w15)); clear HO_5; clear HB; have HO_5 := n0_; have HB := n1_; clear n0_ n1_; clear hg hw hp_))
        go_meet
        case rel => exact ⟨_, (y147), H', ⟨by have := HK1.out; first | omega | exact Nat.le_refl _⟩, ⟨by (try simp only [hl5_1]); (with_reducible repeat (first | apply Kd.R_alloc | apply Kd.R_drewN | apply Kd.R_drew)); exact HO_5.out⟩, ⟨by repeat (first | (with_reducible first | exact HB.out | apply below_alloc | apply pw_below_drewN | apply below_drew1) | exact HB.out)⟩⟩
       ·rw [if_neg c12] at H
        have c12b0 : decide (0 < t144) = false := decide_eq_false c12
        clear c12
        (first | rw [c12b0] | (simp only [i64_w, i32_w]; rw [c12b0]) | skip)
        have H' := Aside0.mk H
        clear H
        go_wp2
        go_meet
        case rel => exact ⟨_, (x5_1), H', ⟨by have := HK1.out; first | omega | exact Nat.le_refl _⟩, ⟨by (try simp only [hl5_1]); (with_reducible repeat (first | apply Kd.R_alloc | apply Kd.R_drewN | apply Kd.R_drew)); exact HO_5.out⟩, ⟨by repeat (first | (with_reducible first | exact HB.out | apply below_alloc | apply pw_below_drewN | apply below_drew1) | exact HB.out)⟩⟩
      case rest =>
       clear HC10
       try clear c1
       try clear p1
       try clear q1
       try clear hx1
       try clear p2
       try clear c3
       try clear c5
       try clear c6
       try clear c6b0
       try clear p6
       try clear c7
       try clear c7b0
       try clear c8
       try clear c8b0
       try clear c12
       try clear c12b0
       try clear c13
       try clear p13
       try clear q13
       try clear hx13
       try clear hf13
       try clear c14
       try clear p14
       try clear q14
       try clear hx14
       try clear hf14
       try clear hx13_0
       try clear hx13_1
       try clear hx13_2
       try clear hx13_3
       try clear hx13_4
       try clear hx143_0
       try clear hx143_1
       try clear hx143_2
       try clear hx143_3
       try clear hx143_4
       try clear hx146_0
       try clear hx146_1
       try clear hx146_2
       try clear hx146_3
       try clear hx146_4
       try clear hx14_2
       try clear p13
       try clear p143
       try clear p146
       try clear p2
       try clear q13
       try clear q143
       try clear q146
       obtain ⟨kq, x5_9, HA, HJ9, HO_5, HB⟩ := hcut
       have hl5_9 := (Kd.R_reads' HO_5.out).1
       rw [hl5_9] at HO_5
       (try simp only [hl5_9])
       cases kq with
       | zero => exact absurd HA.out (by simp [nodes_moved.j1])
       | succ kj9 =>
        have H := HA.out
        clear HA
        simp only [nodes_moved.j1] at H
        by_cases c16 : t144 > 1
        ·rw [if_pos c16] at H
         have c16b0 : decide (1 < t144) = true := decide_eq_true c16
         clear c16
         by_cases c17 : 0 ≤ x13_1
         ·rw [if_pos c17] at H
          have c17b0 : decide (0 ≤ x13_1) = true := decide_eq_true c17
          clear c17
          by_cases c18 : x13_1 < (x5_9.length : Int)
          ·rw [if_pos c18] at H
           have c18b0 : decide (x13_1 < (x5_9.length : Int)) = true := decide_eq_true c18
           clear c18
           obtain ⟨y149, hy149⟩ : ∃ y_ : List (S43), y_ = (x5_9.set (x13_1 : Int).toNat (⟨(rd_T43 x5_9 x13_1).f0, (rd_T43 x5_9 x13_1).f1, (rd_T43 x5_9 x13_1).f2, wrap64 (((rd_T43 x5_9 x13_1).f3) + a1), (rd_T43 x5_9 x13_1).f4⟩ : S43)) := ⟨_, rfl⟩
           replace H : (nodes_moved.l0 kj9 a1 y149 (t140.length : Int) (wrap64 (x13_1 + 1))) = some r := by first | (rw [hy149]; with_reducible exact H) | (have H2_ := (Option.bind_some _ _).symm.trans H; rw [hy149]; with_reducible exact H2_) | (have H2_ := (Option.bind_some _ _).symm.trans H; with_reducible exact H2_) | with_reducible exact H | (rw [hy149]; exact H) | exact H
           have Ny149 := Aside0.mk hy149
           clear hy149
           have H' := Aside0.mk H
           clear H
           have p148 : 0 ≤ (x13_1 : Int) := of_decide_eq_true (by first | (with_reducible assumption) | assumption)
           have q148 : x13_1 < (x5_9.length : Int) := of_decide_eq_true (by first | (with_reducible assumption) | assumption)
           obtain ⟨ad148, e148, hx148_0, hx148_1, hx148_2, hx148_3, hx148_4⟩ := at_T43 (Kd.R_reads' HO_5.out).2.2 x13_1 p148 q148
           obtain rfl : ad143 = ad148 := (by injection e148)
           replace p148 := eq_true p148
           replace q148 := eq_true q148
           have p19 : 0 ≤ (x13_1 : Int) := of_decide_eq_true (by first | (with_reducible assumption) | assumption)
           have q19 : (x13_1 : Int) < ((x5_9.length : Int) : Int) := of_decide_eq_true (by first | (with_reducible assumption) | assumption)
           obtain ⟨go19, co19, eo19, gb19, gl19, cl19, HG19⟩ := Kd.R_form HO_5.out (by omega)
           (first | cases eo19 | (injection eo19 with ea_ en_ ec_; (first | subst ea_ | (injection ea_ with ea_; subst ea_)); subst ec_; clear en_))
           have GB19 := Aside0.mk gb19
           have GG19 := Aside0.mk HG19
           clear gb19 gl19 HG19
           (first | simp only [add_plain] at hx148_0 | skip)
           (first | simp only [add_plain] at hx148_1 | skip)
           (first | simp only [add_plain] at hx148_2 | skip)
           (first | simp only [add_plain] at hx148_3 | skip)
           (first | simp only [add_plain] at hx148_4 | skip)
           obtain ⟨ce19, hcl19, hM19, hcc19, hfr19⟩ := Kd.R_elem HO_5.out z43 (x13_1 : Int) p19 q19
           obtain rfl := k43_openM hM19
           have hx19_0 : wc.cell? ⟨go19, (x13_1 : Int).toNat * 5, none⟩ = some (.int .u8 ((rd_T43 x5_9 x13_1).f0)) := hcc19 0 _ rfl
           have hx19_1 : wc.cell? ⟨go19, (x13_1 : Int).toNat * 5 + 1, none⟩ = some (.int .i64 ((rd_T43 x5_9 x13_1).f1)) := hcc19 1 _ rfl
           have hx19_2 : wc.cell? ⟨go19, (x13_1 : Int).toNat * 5 + 2, none⟩ = some (.int .i64 ((rd_T43 x5_9 x13_1).f2)) := hcc19 2 _ rfl
           have hx19_3 : wc.cell? ⟨go19, (x13_1 : Int).toNat * 5 + 3, none⟩ = some (.int .i64 ((rd_T43 x5_9 x13_1).f3)) := hcc19 3 _ rfl
           have hx19_4 : wc.cell? ⟨go19, (x13_1 : Int).toNat * 5 + 4, none⟩ = some (.int .i64 ((rd_T43 x5_9 x13_1).f4)) := hcc19 4 _ rfl
           have hf19_0 : wc.frozen? ⟨go19, (x13_1 : Int).toNat * 5, none⟩ = false := hfr19 0
           have hf19_1 : wc.frozen? ⟨go19, (x13_1 : Int).toNat * 5 + 1, none⟩ = false := hfr19 1
           have hf19_2 : wc.frozen? ⟨go19, (x13_1 : Int).toNat * 5 + 2, none⟩ = false := hfr19 2
           have hf19_3 : wc.frozen? ⟨go19, (x13_1 : Int).toNat * 5 + 3, none⟩ = false := hfr19 3
           have hf19_4 : wc.frozen? ⟨go19, (x13_1 : Int).toNat * 5 + 4, none⟩ = false := hfr19 4
           clear hcl19 hcc19 hfr19 hM19
           replace p19 := eq_true p19
           replace q19 := eq_true q19
           have HX20 := Aside0.mk (show Kd.R k43 43 wc w.heap.size (fun _ => True) (.slice (some ⟨go19, 0, none⟩) x5_9.length co5) x5_9 from (by (with_reducible repeat (first | apply Kd.R_alloc | apply Kd.R_drewN | apply Kd.R_drew)); exact HO_5.out))
           obtain ⟨ce20, hcl20, hM20, hcc20, hfr20⟩ := Kd.R_elem HX20.out z43 (x13_1 : Int) (of_decide_eq_true (by first | (with_reducible assumption) | assumption)) (by have h_ : (x13_1 : Int) < ((x5_9.length : Int) : Int) := of_decide_eq_true (by first | (with_reducible assumption) | assumption); first | exact h_ | (have e_ := (Kd.R_reads' HO_5.out).1; omega) | simpa using h_)
           obtain rfl := k43_openM hM20
           have HP20 := Kd.R_seg HX20.out (x13_1 : Int) (of_decide_eq_true (by first | (with_reducible assumption) | assumption)) (by have h_ : (x13_1 : Int) < ((x5_9.length : Int) : Int) := of_decide_eq_true (by first | (with_reducible assumption) | assumption); first | exact h_ | (have e_ := (Kd.R_reads' HO_5.out).1; omega) | simpa using h_) (seg := [.int .i64 (wrap64 (((rd_T43 x5_9 x13_1).f3) + a1))]) (j := 3) hcl20 hcc20 (show 4 ≤ 5 from by decide) (x' := (⟨(rd_T43 x5_9 x13_1).f0, (rd_T43 x5_9 x13_1).f1, (rd_T43 x5_9 x13_1).f2, wrap64 (((rd_T43 x5_9 x13_1).f3) + a1), (rd_T43 x5_9 x13_1).f4⟩ : S43)) (k43_mkM _ _ _ (⟨(rd_T43 x5_9 x13_1).f0, (rd_T43 x5_9 x13_1).f1, (rd_T43 x5_9 x13_1).f2, wrap64 (((rd_T43 x5_9 x13_1).f3) + a1), (rd_T43 x5_9 x13_1).f4⟩ : S43) ) (fun _ hk => hk)
           have hx20_3 := hcc20 3 _ rfl
           (try simp only [show (k43).sz = 5 from rfl, Nat.mul_one, Nat.add_zero] at hx20_3)
           have hf20_3 := hfr20 3
           (try simp only [show (k43).sz = 5 from rfl, Nat.mul_one, Nat.add_zero] at hf20_3)
           clear hcl20 hcc20 hfr20 hM20
           go_wp2_with (first | ((with_reducible refine gate_store (t := 3) (p := 46) rfl ?_); refine store_event (t := 3) (p := 46) (v := ?vo_w21) (w1 := (wc.setCell ⟨go19, (x13_1 : Int).toNat * 5 + 3, none⟩ (.int .i64 (wrap64 (((rd_T43 x5_9 x13_1).f3) + a1))))) ?hg ?ho ?hn ?hr ?_; (case ho => rfl); (case hg => rfl); (case hn => rfl); (case hr => first | (go_simp; done) | (go_simp; rfl)); intro w21 hw; have hg : wc.grownBy w21 (some go19) := (by rw [hw]; exact HP20.2); have hp_ : Kd.R k43 43 w21 w.heap.size (fun _ => True) (.slice (some ⟨go19, 0, none⟩) x5_9.length co5) y149 := (by rw [hw, Ny149.out]; exact HP20.1); clear HP20; have n0_ := Aside0.mk (hp_); have n1_ := Aside0.mk ((by rw [hw]; exact below_set (HB.out) GB19.out : Below w.heap.size w w21)); clear HO_5; clear HB; have HO_5 := n0_; have HB := n1_; clear n0_ n1_; clear hg hw hp_))
           (try simp only [← hl5_1, ← hl5_9])
           go_roundg kj9
           case measure => have := HK1.out; have := HJ9.out; omega
           case rel => exact ⟨(y149), (wrap64 (x13_1 + 1)), (by first | rfl | (simp; done) | (simp [*]; done)), H', ⟨by have := HK1.out; have := HJ9.out; omega⟩, ⟨by (try simp only [hl5_1]); (try simp only [hl5_9]); (with_reducible repeat (first | apply Kd.R_alloc | apply Kd.R_drewN | apply Kd.R_drew)); exact HO_5.out⟩, ⟨by repeat (first | (with_reducible first | exact HB.out | apply below_alloc | apply pw_below_drewN | apply below_drew1) | exact HB.out)⟩⟩
          ·rw [if_neg c18] at H
           exact absurd H (by simp)
         ·rw [if_neg c17] at H
          exact absurd H (by simp)
        ·rw [if_neg c16] at H
         have c16b0 : decide (1 < t144) = false := decide_eq_false c16
         clear c16
         have H' := Aside0.mk H
         clear H
         go_wp2
         (try simp only [← hl5_1, ← hl5_9])
         go_roundg kj9
         case measure => have := HK1.out; have := HJ9.out; omega
         case rel => exact ⟨(x5_9), (wrap64 (x13_1 + 1)), (by first | rfl | (simp; done) | (simp [*]; done)), H', ⟨by have := HK1.out; have := HJ9.out; omega⟩, ⟨by (try simp only [hl5_1]); (try simp only [hl5_9]); (with_reducible repeat (first | apply Kd.R_alloc | apply Kd.R_drewN | apply Kd.R_drew)); exact HO_5.out⟩, ⟨by repeat (first | (with_reducible first | exact HB.out | apply below_alloc | apply pw_below_drewN | apply below_drew1) | exact HB.out)⟩⟩
     ·rw [if_neg c8] at H
      exact absurd H (by simp)
    ·rw [if_neg c7] at H
     exact absurd H (by simp)
   ·rw [if_neg c6] at H
    have c6b0 : decide (x13_1 < (t140.length : Int)) = false := decide_eq_false c6
    try rw [hl5_1] at c6b0
    clear c6
    obtain rfl := Option.some.inj H
    go_wp2
    go_ret
    exact ⟨_, by first | rfl | (simp [errW_none, errW_some] <;> rfl) | (simp [*, errW_none, errW_some] <;> rfl), by (with_reducible repeat (first | apply Kd.R_alloc | apply Kd.R_drewN | apply Kd.R_drew)); exact HO_5.out, by repeat (first | (with_reducible first | exact HB.out | apply below_alloc | apply pw_below_drewN | apply below_drew1) | exact HB.out)⟩
mutual
def nodes_Node.j0 : Nat → Int → Int → Int → List (List (S43)) → Bool → Option ((List (S43)) × Int)
  | 0, _, _, _, _, _ => none
  | k + 1, x0, x1, x2, x3, x50 => if x50 = true then (some (([] : List (S43)), 2)) else (nodes_Node.l0 k ([] : List (S43)) x3 (x3.length : Int) 0 x0 x1 0 0 x2)
def nodes_Node.l0 : Nat → List (S43) → List (List (S43)) → Int → Int → Int → Int → Int → Int → Int → Option ((List (S43)) × Int)
  | 0, _, _, _, _, _, _, _, _, _ => none
  | k + 1, x13, x55, x56, x57, x153000, x153001, x153002, x153003, x153004 => if x57 < x56 then (if 0 ≤ x57 then (if x57 < (x55.length : Int) then ((nodes_Check.f (rd_L7 x55 x57)).bind fun t154 => (if t154 = 0 then ((nodes_moved.f k (rd_L7 x55 x57) (x13.length : Int)).bind fun t155 => (if x13.length + t155.length < 3518437208883 then ((some (x13 ++ t155 : List (S43))).bind fun y158 => (if x57 = 0 then (nodes_Node.l0 k y158 x55 x56 (wrap64 (x57 + 1)) x153000 x153001 (wrap64 ((y158.length : Int) - 1)) x153003 x153004) else (nodes_Node.l0 k y158 x55 x56 (wrap64 (x57 + 1)) x153000 x153001 x153002 (wrap64 ((y158.length : Int) - 1)) x153004))) else (none))) else (some (([] : List (S43)), t154)))) else (none)) else (none)) else (if x13.length < 3518437208883 then ((some (x13 ++ [(⟨x153000, x153001, x153002, x153003, x153004⟩ : S43)] : List (S43))).bind fun y161 => ((nodes_Check.f y161).bind fun t164 => (if t164 = 0 then (some (y161, 0)) else (some (([] : List (S43)), t164))))) else (none))
end
def nodes_Node.f (k : Nat) (a0 : Int) (a1 : Int) (a2 : Int) (l3 : List (List (S43))) : Option ((List (S43)) × Int) := (nodes_Parts.f a0).bind fun bt150 => (if bt150.2 = 0 then (if bt150.1 = (l3.length : Int) then (if a1 < 0 then (nodes_Node.j0 k a0 a1 a2 l3 true) else (if a1 > 0 then (if a0 = 1 then (if a2 < 0 then (nodes_Node.j0 k a0 a1 a2 l3 true) else (nodes_Node.j0 k a0 a1 a2 l3 (decide (a2 > 400)))) else (nodes_Node.j0 k a0 a1 a2 l3 true)) else (if a2 < 0 then (nodes_Node.j0 k a0 a1 a2 l3 true) else (nodes_Node.j0 k a0 a1 a2 l3 (decide (a2 > 400)))))) else (nodes_Node.j0 k a0 a1 a2 l3 true)) else (nodes_Node.j0 k a0 a1 a2 l3 true))
set_option maxHeartbeats 8000000 in
set_option maxRecDepth 100000 in
theorem nodes_Node.calls (k : Nat) (a0 : Int) (a1 : Int) (a2 : Int) (A3 : Option Addr) (c3 : Nat) (l3 : List (List (S43))) (r1 : List (S43)) (r2 : Int) (w : World) (hr3 : Kd.C (Kd.slice 43 k43) w A3 l3.length l3) (hc3 : l3.length ≤ c3) (h : nodes_Node.f k a0 a1 a2 l3 = some (r1, r2)) :
 Calls Tryz.prog 23 #[.int .u8 a0, .int .i64 a1, .int .i64 a2, .slice A3 l3.length c3] w fun e w' => ∃ v0_ : Value, e = .returned (.tuple #[v0_, .int .i64 r2]) ∧ Kd.R k43 43 w' w.heap.size (fun _ => True) v0_ r1 ∧ Below w.heap.size w w' := by
 have hu43 := Tryz.underlying43
 have HR3 := Aside0.mk hr3
 have HC3 := Aside0.mk hc3
 clear hr3 hc3
 have HB := Aside0.mk (Below.refl w.heap.size w)
 have H : ((nodes_Parts.f a0).bind fun bt150 => (if bt150.2 = 0 then (if bt150.1 = (l3.length : Int) then (if a1 < 0 then (nodes_Node.j0 k a0 a1 a2 l3 true) else (if a1 > 0 then (if a0 = 1 then (if a2 < 0 then (nodes_Node.j0 k a0 a1 a2 l3 true) else (nodes_Node.j0 k a0 a1 a2 l3 (decide (a2 > 400)))) else (nodes_Node.j0 k a0 a1 a2 l3 true)) else (if a2 < 0 then (nodes_Node.j0 k a0 a1 a2 l3 true) else (nodes_Node.j0 k a0 a1 a2 l3 (decide (a2 > 400)))))) else (nodes_Node.j0 k a0 a1 a2 l3 true)) else (nodes_Node.j0 k a0 a1 a2 l3 true))) = some (r1, r2) := h
 clear h
 replace H := Option.bind_eq_some_iff.mp H
 obtain ⟨⟨t150, t151⟩, A50, H⟩ := H
 replace H : (if t151 = 0 then (if t150 = (l3.length : Int) then (if a1 < 0 then (nodes_Node.j0 k a0 a1 a2 l3 true) else (if a1 > 0 then (if a0 = 1 then (if a2 < 0 then (nodes_Node.j0 k a0 a1 a2 l3 true) else (nodes_Node.j0 k a0 a1 a2 l3 (decide (a2 > 400)))) else (nodes_Node.j0 k a0 a1 a2 l3 true)) else (if a2 < 0 then (nodes_Node.j0 k a0 a1 a2 l3 true) else (nodes_Node.j0 k a0 a1 a2 l3 (decide (a2 > 400)))))) else (nodes_Node.j0 k a0 a1 a2 l3 true)) else (nodes_Node.j0 k a0 a1 a2 l3 true)) = some (r1, r2) := H
 have A5 := Aside0.mk A50
 clear A50
 have HC6 := Aside0.mk H
 clear H
 go_enter Tryz.func23, Tryz.ntmps23
 go_upto_region 2 with (first | ((with_reducible refine gate_callee (f := 36) rfl ?_); refine goesL_ (some 20) rfl rfl Tryz.func36 (by kernel_rfl) rfl #[.int .u8 a0] rfl (by (try simp only [List.map_toArray, List.map_cons, List.map_nil]); first | done | rfl | (simp only [List.length_drop, List.length_take]; rfl)) ?_; (with_reducible refine (nodes_Parts.calls a0 t150 t151 _ A5.out).mono ?_); rintro e w7 ⟨rfl, hb⟩; refine ⟨_, rfl, ?_⟩; have n0_ := Aside0.mk (below_step (by repeat (first | (with_reducible first | exact HB.out | apply below_alloc | apply pw_below_drewN | apply below_drew1) | exact HB.out)) hb); clear HB; have HB := n0_; clear n0_; (try clear hb); (try clear hb2); (try clear hk); (try clear hi)))
 (try simp only [Act.put, List.setIfInBounds_toArray, List.set_cons_zero, List.set_cons_succ])
 go_cut [50] (fun v50 wc => ∃ (kq : Nat) (x50_5 : Bool), v50 = .bool x50_5 ∧ Aside0 (nodes_Node.j0 kq a0 a1 a2 l3 x50_5 = some (r1, r2)) ∧ Aside0 (kq ≤ k) ∧ Aside0 (Below w.heap.size w wc))
 case first =>
  have H := HC6.out
  clear HC6
  by_cases c8 : t151 = 0
  ·rw [if_pos c8] at H
   have c8b0 : (t151 == 0) = true := beq_iff_eq.mpr c8
   have c8b1 : (t151 != 0) = false := bne_eq_false_iff_eq.mpr c8
   clear c8
   (first | rw [c8b0] | (simp only [i64_w, i32_w]; rw [c8b0]) | skip)
   by_cases c9 : t150 = (l3.length : Int)
   ·rw [if_pos c9] at H
    have c9b0 : (t150 == (l3.length : Int)) = true := beq_iff_eq.mpr c9
    have c9b1 : (t150 != (l3.length : Int)) = false := bne_eq_false_iff_eq.mpr c9
    clear c9
    by_cases c10 : a1 < 0
    ·rw [if_pos c10] at H
     have c10b0 : decide (a1 < 0) = true := decide_eq_true c10
     clear c10
     have H' := Aside0.mk H
     clear H
     go_wp2
     go_meet
     case rel => exact ⟨_, (true), (by first | rfl | (simp; done) | (simp [*]; done)), H', ⟨by first | omega | exact Nat.le_refl _⟩, ⟨by repeat (first | (with_reducible first | exact HB.out | apply below_alloc | apply pw_below_drewN | apply below_drew1) | exact HB.out)⟩⟩
    ·rw [if_neg c10] at H
     have c10b0 : decide (a1 < 0) = false := decide_eq_false c10
     clear c10
     by_cases c11 : a1 > 0
     ·rw [if_pos c11] at H
      have c11b0 : decide (0 < a1) = true := decide_eq_true c11
      clear c11
      by_cases c12 : a0 = 1
      ·rw [if_pos c12] at H
       have c12b0 : (a0 == 1) = true := beq_iff_eq.mpr c12
       have c12b1 : (a0 != 1) = false := bne_eq_false_iff_eq.mpr c12
       clear c12
       by_cases c13 : a2 < 0
       ·rw [if_pos c13] at H
        have c13b0 : decide (a2 < 0) = true := decide_eq_true c13
        clear c13
        have H' := Aside0.mk H
        clear H
        go_wp2
        go_meet
        case rel => exact ⟨_, (true), (by first | rfl | (simp; done) | (simp [*]; done)), H', ⟨by first | omega | exact Nat.le_refl _⟩, ⟨by repeat (first | (with_reducible first | exact HB.out | apply below_alloc | apply pw_below_drewN | apply below_drew1) | exact HB.out)⟩⟩
       ·rw [if_neg c13] at H
        have c13b0 : decide (a2 < 0) = false := decide_eq_false c13
        clear c13
        have H' := Aside0.mk H
        clear H
        go_wp2
        go_meet
        case rel => exact ⟨_, (decide (a2 > 400)), (by first | rfl | (simp; done) | (simp [*]; done)), H', ⟨by first | omega | exact Nat.le_refl _⟩, ⟨by repeat (first | (with_reducible first | exact HB.out | apply below_alloc | apply pw_below_drewN | apply below_drew1) | exact HB.out)⟩⟩
      ·rw [if_neg c12] at H
       have c12b0 : (a0 == 1) = false := beq_eq_false_iff_ne.mpr c12
       have c12b1 : (a0 != 1) = true := bne_iff_ne.mpr c12
       have H' := Aside0.mk H
       clear H
       go_wp2
       go_meet
       case rel => exact ⟨_, (true), (by first | rfl | (simp; done) | (simp [*]; done)), H', ⟨by first | omega | exact Nat.le_refl _⟩, ⟨by repeat (first | (with_reducible first | exact HB.out | apply below_alloc | apply pw_below_drewN | apply below_drew1) | exact HB.out)⟩⟩
     ·rw [if_neg c11] at H
      have c11b0 : decide (0 < a1) = false := decide_eq_false c11
      clear c11
      by_cases c14 : a2 < 0
      ·rw [if_pos c14] at H
       have c14b0 : decide (a2 < 0) = true := decide_eq_true c14
       clear c14
       have H' := Aside0.mk H
       clear H
       go_wp2
       go_meet
       case rel => exact ⟨_, (true), (by first | rfl | (simp; done) | (simp [*]; done)), H', ⟨by first | omega | exact Nat.le_refl _⟩, ⟨by repeat (first | (with_reducible first | exact HB.out | apply below_alloc | apply pw_below_drewN | apply below_drew1) | exact HB.out)⟩⟩
      ·rw [if_neg c14] at H
       have c14b0 : decide (a2 < 0) = false := decide_eq_false c14
       clear c14
       have H' := Aside0.mk H
       clear H
       go_wp2
       go_meet
       case rel => exact ⟨_, (decide (a2 > 400)), (by first | rfl | (simp; done) | (simp [*]; done)), H', ⟨by first | omega | exact Nat.le_refl _⟩, ⟨by repeat (first | (with_reducible first | exact HB.out | apply below_alloc | apply pw_below_drewN | apply below_drew1) | exact HB.out)⟩⟩
   ·rw [if_neg c9] at H
    have c9b0 : (t150 == (l3.length : Int)) = false := beq_eq_false_iff_ne.mpr c9
    have c9b1 : (t150 != (l3.length : Int)) = true := bne_iff_ne.mpr c9
    have H' := Aside0.mk H
    clear H
    go_wp2
    go_meet
    case rel => exact ⟨_, (true), (by first | rfl | (simp; done) | (simp [*]; done)), H', ⟨by first | omega | exact Nat.le_refl _⟩, ⟨by repeat (first | (with_reducible first | exact HB.out | apply below_alloc | apply pw_below_drewN | apply below_drew1) | exact HB.out)⟩⟩
  ·rw [if_neg c8] at H
   have c8b0 : (t151 == 0) = false := beq_eq_false_iff_ne.mpr c8
   have c8b1 : (t151 != 0) = true := bne_iff_ne.mpr c8
   (first | rw [c8b0] | (simp only [i64_w, i32_w]; rw [c8b0]) | skip)
   have H' := Aside0.mk H
   clear H
   go_wp2
   go_meet
   case rel => exact ⟨_, (true), (by first | rfl | (simp; done) | (simp [*]; done)), H', ⟨by first | omega | exact Nat.le_refl _⟩, ⟨by repeat (first | (with_reducible first | exact HB.out | apply below_alloc | apply pw_below_drewN | apply below_drew1) | exact HB.out)⟩⟩
 case rest =>
  clear HC6
  try clear c1
  try clear c2
  try clear p2
  try clear c3
  try clear c8
  try clear c8b0
  try clear c8b1
  try clear c9
  try clear c9b0
  try clear c9b1
  try clear c10
  try clear c10b0
  try clear c11
  try clear c11b0
  try clear c12
  try clear c12b0
  try clear c12b1
  try clear c13
  try clear c13b0
  try clear c14
  try clear c14b0
  obtain ⟨kq, x50_5, rfl, HA, HJ5, HB⟩ := hcut
  cases kq with
  | zero => exact absurd HA.out (by simp [nodes_Node.j0])
  | succ kj5 =>
   have H := HA.out
   clear HA
   simp only [nodes_Node.j0] at H
   by_cases c15 : x50_5 = true
   ·subst c15
    have H1 : (some (([] : List (S43)), 2)) = some (r1, r2) := by rw [if_pos rfl] at H; exact H
    clear H
    have H := H1
    clear H1
    simp only [Option.some.injEq, Prod.mk.injEq] at H
    obtain ⟨rfl, rfl⟩ := H
    go_wp2
    go_ret2
    exact ⟨_, by first | rfl | (simp [errW_none, errW_some] <;> rfl) | (simp [*, errW_none, errW_some] <;> rfl), by first | exact Kd.R_nil _ _ _ _ _ | exact Kd.N_nil _ _ _ _ _ | exact Kd.V_nil _ _ _ _ _ | exact Kd.Q_nil _ _ _ _ _ | exact Kd.S_nil _ _ _ _ _, by repeat (first | (with_reducible first | exact HB.out | apply below_alloc | apply pw_below_drewN | apply below_drew1) | exact HB.out)⟩
   ·replace c15 := Bool.eq_false_iff.mpr c15
    subst c15
    have H1 : (nodes_Node.l0 kj5 ([] : List (S43)) l3 (l3.length : Int) 0 a0 a1 0 0 a2) = some (r1, r2) := by rw [if_neg (show ¬ (false = true) by decide)] at H; exact H
    clear H
    have H := H1
    clear H1
    have H' := Aside0.mk H
    clear H
    go_wp2_with (first | ((with_reducible refine gate_dst (N := 12) rfl ?_); (try (refine gate_guard (by rfl) ?_; dsimp only)); refine box_event ?hg (N := 12) ?hd (cs := #[.int .u8 0, .int .i64 0, .int .i64 0, .int .i64 0, .int .i64 0]) (t := 43) ?hr ?_; (case hd => rfl); (case hg => rfl); (case hr => first | (go_simp; done) | (go_simp; rfl)); intro gb152 hg w16 hbox hb; have n0_ := Aside0.mk (below_step (by repeat (first | (with_reducible first | exact HB.out | apply below_alloc | apply pw_below_drewN | apply below_drew1) | exact HB.out)) hb); have n1_ := Aside0.mk (hbox); have n2_ := Aside0.mk ((by rw [hg]; exact (below_size (by repeat (first | (with_reducible first | exact HB.out | apply below_alloc | apply pw_below_drewN | apply below_drew1) | exact HB.out))) : w.heap.size ≤ gb152)); have n3_ := Aside0.mk ((by rw [hg]; exact (below_size (by repeat (first | (with_reducible first | exact HB.out | apply below_alloc | apply pw_below_drewN | apply below_drew1) | exact HB.out))) : w.heap.size ≤ gb152)); clear HB; have HB := n0_; have BK152 := n1_; have GW152 := n2_; have GE152 := n3_; clear n0_ n1_ n2_ n3_; clear hb hbox hg; have hcz17_0 : w16.cell? ⟨gb152, 0, none⟩ = some (.int .u8 0) := (blk_cell BK152.out 0).trans rfl; have hcz17_1 : w16.cell? ⟨gb152, 1, none⟩ = some (.int .i64 0) := (blk_cell BK152.out 1).trans rfl; have hcz17_2 : w16.cell? ⟨gb152, 2, none⟩ = some (.int .i64 0) := (blk_cell BK152.out 2).trans rfl; have hcz17_3 : w16.cell? ⟨gb152, 3, none⟩ = some (.int .i64 0) := (blk_cell BK152.out 3).trans rfl; have hcz17_4 : w16.cell? ⟨gb152, 4, none⟩ = some (.int .i64 0) := (blk_cell BK152.out 4).trans rfl; have hfz17_0 := blk_frozen BK152.out 0; have hfz17_1 := blk_frozen BK152.out 1; have hfz17_2 := blk_frozen BK152.out 2; have hfz17_3 := blk_frozen BK152.out 3; have hfz17_4 := blk_frozen BK152.out 4))
    go_loopg [13, 57] kj5 (fun kq v13 v57 w' => ∃ (x13_2 : List (S43)) (x57_2 : Int) (x153002_2 : Int) (x153003_2 : Int), v57 = .int .i64 x57_2 ∧ Aside0 (nodes_Node.l0 kq x13_2 l3 (l3.length : Int) x57_2 a0 a1 x153002_2 x153003_2 a2 = some (r1, r2)) ∧ Aside0 (kq ≤ kj5) ∧ Aside0 (Kd.R k43 43 w' w.heap.size (fun k_ => k_ ≠ gb152) v13 x13_2) ∧ Aside0 (w'.heap[gb152]? = some (.cells #[.int .u8 a0, .int .i64 a1, .int .i64 x153002_2, .int .i64 x153003_2, .int .i64 a2] 43 (0, 0))) ∧ Aside0 (Below w.heap.size w w'))
    case atStart => exact ⟨(([] : List (S43))), (0), (0), (0), (by first | rfl | (simp; done) | (simp [*]; done)), H', ⟨Nat.le_refl _⟩, ⟨by first | exact Kd.R_nil _ _ _ _ _ | exact Kd.N_nil _ _ _ _ _ | exact Kd.V_nil _ _ _ _ _ | exact Kd.Q_nil _ _ _ _ _ | exact Kd.S_nil _ _ _ _ _⟩, ⟨by (with_reducible repeat (first | refine blk_drewN ?_ _ | refine blk_drew ?_ | refine blk_alloc ?_ _)); refine blk_put (cs := #[.int .u8 a0, .int .i64 a1, .int .i64 0, .int .i64 0, .int .i64 0]) ?_ 4 _ rfl; (with_reducible repeat (first | refine blk_drewN ?_ _ | refine blk_drew ?_ | refine blk_alloc ?_ _)); refine blk_put (cs := #[.int .u8 a0, .int .i64 a1, .int .i64 0, .int .i64 0, .int .i64 0]) ?_ 3 _ rfl; (with_reducible repeat (first | refine blk_drewN ?_ _ | refine blk_drew ?_ | refine blk_alloc ?_ _)); refine blk_put (cs := #[.int .u8 a0, .int .i64 a1, .int .i64 0, .int .i64 0, .int .i64 0]) ?_ 2 _ rfl; (with_reducible repeat (first | refine blk_drewN ?_ _ | refine blk_drew ?_ | refine blk_alloc ?_ _)); refine blk_put (cs := #[.int .u8 a0, .int .i64 0, .int .i64 0, .int .i64 0, .int .i64 0]) ?_ 1 _ rfl; (with_reducible repeat (first | refine blk_drewN ?_ _ | refine blk_drew ?_ | refine blk_alloc ?_ _)); refine blk_put (cs := #[.int .u8 0, .int .i64 0, .int .i64 0, .int .i64 0, .int .i64 0]) ?_ 0 _ rfl; (with_reducible repeat (first | refine blk_drewN ?_ _ | refine blk_drew ?_ | refine blk_alloc ?_ _)); exact BK152.out⟩, ⟨by repeat (first | (with_reducible first | exact HB.out | apply below_alloc | apply pw_below_drewN | apply below_drew1 | refine below_set ?_ GE152.out) | exact HB.out)⟩⟩
    case round =>
     clear H'
     try clear c1
     try clear c2
     try clear p2
     try clear c3
     try clear c8
     try clear c8b0
     try clear c8b1
     try clear c9
     try clear c9b0
     try clear c9b1
     try clear c10
     try clear c10b0
     try clear c11
     try clear c11b0
     try clear c12
     try clear c12b0
     try clear c12b1
     try clear c13
     try clear c13b0
     try clear c14
     try clear c14b0
     try clear c15
     try clear hcz17_0
     try clear hcz17_1
     try clear hcz17_2
     try clear hcz17_3
     try clear hcz17_4
     try clear hfz17_0
     try clear hfz17_1
     try clear hfz17_2
     try clear hfz17_3
     try clear hfz17_4
     try clear p2
     obtain ⟨x13_2, x57_2, x153002_2, x153003_2, rfl, HA, HK2, HO_13, BK152, HB⟩ := hrel
     cases gk with
     | zero => exact absurd HA.out (by simp [nodes_Node.l0])
     | succ k2 =>
      have H := HA.out
      clear HA
      simp only [nodes_Node.l0] at H
      by_cases c18 : x57_2 < (l3.length : Int)
      ·rw [if_pos c18] at H
       have c18b0 : decide (x57_2 < (l3.length : Int)) = true := decide_eq_true c18
       clear c18
       by_cases c19 : 0 ≤ x57_2
       ·rw [if_pos c19] at H
        have c19b0 : decide (0 ≤ x57_2) = true := decide_eq_true c19
        clear c19
        by_cases c20 : x57_2 < (l3.length : Int)
        ·rw [if_pos c20] at H
         have c20b0 : decide (x57_2 < (l3.length : Int)) = true := decide_eq_true c20
         clear c20
         replace H := Option.bind_eq_some_iff.mp H
         obtain ⟨t154, A210, H⟩ := H
         replace H : (if t154 = 0 then ((nodes_moved.f k2 (rd_L7 l3 x57_2) (x13_2.length : Int)).bind fun t155 => (if x13_2.length + t155.length < 3518437208883 then ((some (x13_2 ++ t155 : List (S43))).bind fun y158 => (if x57_2 = 0 then (nodes_Node.l0 k2 y158 l3 (l3.length : Int) (wrap64 (x57_2 + 1)) a0 a1 (wrap64 ((y158.length : Int) - 1)) x153003_2 a2) else (nodes_Node.l0 k2 y158 l3 (l3.length : Int) (wrap64 (x57_2 + 1)) a0 a1 x153002_2 (wrap64 ((y158.length : Int) - 1)) a2))) else (none))) else (some (([] : List (S43)), t154))) = some (r1, r2) := H
         have A21 := Aside0.mk A210
         clear A210
         by_cases c22 : t154 = 0
         ·rw [if_pos c22] at H
          have c22b0 : (t154 == 0) = true := beq_iff_eq.mpr c22
          have c22b1 : (t154 != 0) = false := bne_eq_false_iff_eq.mpr c22
          clear c22
          replace H := Option.bind_eq_some_iff.mp H
          obtain ⟨t155, A230, H⟩ := H
          replace H : (if x13_2.length + t155.length < 3518437208883 then ((some (x13_2 ++ t155 : List (S43))).bind fun y158 => (if x57_2 = 0 then (nodes_Node.l0 k2 y158 l3 (l3.length : Int) (wrap64 (x57_2 + 1)) a0 a1 (wrap64 ((y158.length : Int) - 1)) x153003_2 a2) else (nodes_Node.l0 k2 y158 l3 (l3.length : Int) (wrap64 (x57_2 + 1)) a0 a1 x153002_2 (wrap64 ((y158.length : Int) - 1)) a2))) else (none)) = some (r1, r2) := H
          have A23 := Aside0.mk A230
          clear A230
          by_cases c24 : x13_2.length + t155.length < 3518437208883
          ·rw [if_pos c24] at H
           have LMc24 := Aside0.mk c24
           clear c24
           obtain ⟨y158, hy158⟩ : ∃ y_ : List (S43), y_ = (x13_2 ++ t155) := ⟨_, rfl⟩
           replace H : (if x57_2 = 0 then (nodes_Node.l0 k2 y158 l3 (l3.length : Int) (wrap64 (x57_2 + 1)) a0 a1 (wrap64 ((y158.length : Int) - 1)) x153003_2 a2) else (nodes_Node.l0 k2 y158 l3 (l3.length : Int) (wrap64 (x57_2 + 1)) a0 a1 x153002_2 (wrap64 ((y158.length : Int) - 1)) a2)) = some (r1, r2) := by first | (rw [hy158]; with_reducible exact H) | (have H2_ := (Option.bind_some _ _).symm.trans H; rw [hy158]; with_reducible exact H2_) | (have H2_ := (Option.bind_some _ _).symm.trans H; with_reducible exact H2_) | with_reducible exact H | (rw [hy158]; exact H) | exact H
           have Ny158 := Aside0.mk hy158
           clear hy158
           by_cases c25 : x57_2 = 0
           ·rw [if_pos c25] at H
            have c25b0 : (x57_2 == 0) = true := beq_iff_eq.mpr c25
            have c25b1 : (x57_2 != 0) = false := bne_eq_false_iff_eq.mpr c25
            clear c25
            have H' := Aside0.mk H
            clear H
            have p153 : 0 ≤ (x57_2 : Int) := of_decide_eq_true (by first | (with_reducible assumption) | assumption)
            have q153 : x57_2 < (l3.length : Int) := of_decide_eq_true (by first | (with_reducible assumption) | assumption)
            obtain ⟨ad153, A153_0, c153_0, e153, hx153_0, hl153_0, hi153_0⟩ := at_L7 HR3.out x57_2 p153 q153
            cases e153
            replace hx153_0 := (HB.out.cell (World.block_lt_of_cell? w _ hx153_0)).trans hx153_0
            have HR153_0 := Aside0.mk hi153_0
            have HC153_0 := Aside0.mk hl153_0
            clear hi153_0 hl153_0
            replace p153 := eq_true p153
            replace q153 := eq_true q153
            go_wp2_with (first | ((with_reducible refine gate_callee (f := 15) rfl ?_); refine goesL_ (some 63) rfl rfl Tryz.func15 (by kernel_rfl) rfl #[.slice A153_0 (rd_L7 l3 x57_2).length c153_0] rfl (by (try simp only [List.map_toArray, List.map_cons, List.map_nil]); first | done | rfl | (simp only [List.length_drop, List.length_take]; rfl)) ?_; (with_reducible refine (nodes_Check.calls _ _ (rd_L7 l3 x57_2) t154 _ ?side1 ?side2 A21.out).mono ?_); (case side1 => repeat (first | exact (Kd.C_below HR153_0.out HB.out) | (with_reducible refine Kd.C_alloc ?_ _) | (with_reducible refine Kd.C_drewN ?_ _) | (with_reducible refine Kd.C_drew ?_))); (case side2 => exact HC153_0.out); rintro e w26 ⟨rfl, hb⟩; refine ⟨_, rfl, ?_⟩; have n0_ := Aside0.mk (Kd.R_below (by (with_reducible repeat (first | apply Kd.R_alloc | apply Kd.R_drewN | apply Kd.R_drew)); exact HO_13.out) hb); have n1_ := Aside0.mk (blk_below (g := gb152) (o := .cells #[.int .u8 a0, .int .i64 a1, .int .i64 x153002_2, .int .i64 x153003_2, .int .i64 a2] 43 (0, 0)) (by (with_reducible repeat (first | refine blk_drewN ?_ _ | refine blk_drew ?_ | refine blk_alloc ?_ _)); exact BK152.out) hb); have n2_ := Aside0.mk (below_step (by repeat (first | (with_reducible first | exact HB.out | apply below_alloc | apply pw_below_drewN | apply below_drew1 | refine below_set ?_ GE152.out) | exact HB.out)) hb); clear HO_13; clear BK152; clear HB; have HO_13 := n0_; have BK152 := n1_; have HB := n2_; clear n0_ n1_ n2_; (try clear hb); (try clear hb2); (try clear hk); (try clear hi); obtain ⟨Ao27, co27, eo27⟩ := Kd.R_slice HO_13.out; subst eo27) | ((with_reducible refine gate_callee (f := 37) rfl ?_); refine goesL_ (some 71) rfl rfl Tryz.func37 (by kernel_rfl) rfl #[.slice A153_0 (rd_L7 l3 x57_2).length c153_0, .int .i64 (x13_2.length : Int)] rfl (by (try simp only [List.map_toArray, List.map_cons, List.map_nil]); first | done | rfl | (simp only [List.length_drop, List.length_take]; rfl)) ?_; (with_reducible refine (nodes_moved.calls k2 _ _ (rd_L7 l3 x57_2) (x13_2.length : Int) t155 _ ?side1 ?side2 A23.out).mono ?_); (case side1 => repeat (first | exact (Kd.C_below HR153_0.out HB.out) | (with_reducible refine Kd.C_alloc ?_ _) | (with_reducible refine Kd.C_drewN ?_ _) | (with_reducible refine Kd.C_drew ?_))); (case side2 => exact HC153_0.out); rintro e w28 ⟨v156, rfl, ho0, hb⟩; refine ⟨_, rfl, ?_⟩; have n0_ := Aside0.mk (Kd.R_elder' (by (with_reducible repeat (first | apply Kd.R_alloc | apply Kd.R_drewN | apply Kd.R_drew)); exact HO_13.out) (Kd.R_base ho0) hb); have n1_ := Aside0.mk (Kd.R_lower (Kd.R_newB (Kd.R_new' ho0 (Kd.R_lt (by (with_reducible repeat (first | apply Kd.R_alloc | apply Kd.R_drewN | apply Kd.R_drew)); exact HO_13.out))) (g := gb152) (o := .cells #[.int .u8 a0, .int .i64 a1, .int .i64 x153002_2, .int .i64 x153003_2, .int .i64 a2] 43 (0, 0)) (by (with_reducible repeat (first | refine blk_drewN ?_ _ | refine blk_drew ?_ | refine blk_alloc ?_ _)); exact BK152.out)) (below_size (by repeat (first | (with_reducible first | exact HB.out | apply below_alloc | apply pw_below_drewN | apply below_drew1 | refine below_set ?_ GE152.out) | exact HB.out)))); have n2_ := Aside0.mk (blk_below (g := gb152) (o := .cells #[.int .u8 a0, .int .i64 a1, .int .i64 x153002_2, .int .i64 x153003_2, .int .i64 a2] 43 (0, 0)) (by (with_reducible repeat (first | refine blk_drewN ?_ _ | refine blk_drew ?_ | refine blk_alloc ?_ _)); exact BK152.out) hb); have n3_ := Aside0.mk (below_step (by repeat (first | (with_reducible first | exact HB.out | apply below_alloc | apply pw_below_drewN | apply below_drew1 | refine below_set ?_ GE152.out) | exact HB.out)) hb); clear HO_13; clear BK152; clear HB; have HO_13 := n0_; have HO157 := n1_; have BK152 := n2_; have HB := n3_; clear n0_ n1_ n2_ n3_; (try clear hb); (try clear hb2); (try clear hk); (try clear hi); (try clear ho0); obtain ⟨Ao30, co30, eo30⟩ := Kd.R_slice HO157.out; subst eo30) | ((with_reducible refine gate_builtin (b := .append) (xs := #[.tmp 67, .tmp 71]) rfl ?_); (try (refine gate_guard (by rfl) ?_; dsimp only)); at_builtin; refine Kd.R_append_rows k43 (w0 := w) w.heap.size rfl (.tmp 67) (.tmp 71) 29 43 (.agg #[(.int .u8 0), (.int .i64 0), (.int .i64 0), (.int .i64 0), (.int .i64 0)]) 40 rfl Tryz.underlying29 info43 rfl (by decide) (by omega) (.slice Ao27 x13_2.length co27) x13_2 t155 _ _ _ (fun k_ => some k_ ≠ (.slice Ao30 t155.length co30 : Value).ownBlock ∧ k_ ≠ gb152) (fun _ => False) rfl rfl ?aO ?aR (fun _ _ h => h) (fun _ h => h.elim) ?aF ?aB ?aS ?aL ?_; (case aR => repeat (first | exact (Kd.R_reads' HO157.out).2.2 | (with_reducible refine Kd.C_alloc ?_ _) | (with_reducible refine Kd.C_drewN ?_ _) | (with_reducible refine Kd.C_drew ?_))); (case aB => exact (by repeat (first | (with_reducible first | exact HB.out | apply below_alloc | apply pw_below_drewN | apply below_drew1 | refine below_set ?_ GE152.out) | exact HB.out))); (case aF => exact (fun k_ hk => ⟨Kd.fresh' (Kd.R_lt (by (with_reducible repeat (first | apply Kd.R_alloc | apply Kd.R_drewN | apply Kd.R_drew)); exact HO157.out)) k_ hk, Kd.freshB (g := gb152) (o := .cells #[.int .u8 a0, .int .i64 a1, .int .i64 x153002_2, .int .i64 x153003_2, .int .i64 a2] 43 (0, 0)) (by (with_reducible repeat (first | refine blk_drewN ?_ _ | refine blk_drew ?_ | refine blk_alloc ?_ _)); exact BK152.out) k_ hk⟩)); (case aO => exact (by (with_reducible repeat (first | apply Kd.R_alloc | apply Kd.R_drewN | apply Kd.R_drew)); exact Kd.R_mono HO_13.out (fun _ hk => ⟨hk.2, hk.1⟩))); (case aS => exact (below_size (by repeat (first | (with_reducible first | exact HB.out | apply below_alloc | apply pw_below_drewN | apply below_drew1 | refine below_set ?_ GE152.out) | exact HB.out)))); (case aL => have := LMc24.out; omega); intro v159 w29 ho hb hg hat; rw [← Ny158.out] at ho; have n0_ := Aside0.mk (blk_grown (g := gb152) (o := .cells #[.int .u8 a0, .int .i64 a1, .int .i64 x153002_2, .int .i64 x153003_2, .int .i64 a2] 43 (0, 0)) (by (with_reducible repeat (first | refine blk_drewN ?_ _ | refine blk_drew ?_ | refine blk_alloc ?_ _)); exact BK152.out) hg (Kd.R_away HO_13.out (fun _ hk => hk.1))); have n1_ := Aside0.mk (Kd.R_after (ok := (fun k_ => k_ ≠ gb152)) (by (with_reducible repeat (first | apply Kd.R_alloc | apply Kd.R_drewN | apply Kd.R_drew)); exact Kd.R_mono HO157.out (fun _ hk => ⟨hk.2, hk.1.2⟩)) hg hat); have n2_ := Aside0.mk (hb); have n3_ := Aside0.mk (ho); clear BK152; clear HO157; clear HB; clear HO_13; have BK152 := n0_; have HO157 := n1_; have HB := n2_; have HO160 := n3_; clear n0_ n1_ n2_ n3_; clear ho hb hg hat; obtain ⟨Ao31, co31, eo31⟩ := Kd.R_slice HO160.out; subst eo31; have hcz32_0 : w29.cell? ⟨gb152, 0, none⟩ = some (.int .u8 a0) := (blk_cell BK152.out 0).trans rfl; have hcz32_1 : w29.cell? ⟨gb152, 1, none⟩ = some (.int .i64 a1) := (blk_cell BK152.out 1).trans rfl; have hcz32_2 : w29.cell? ⟨gb152, 2, none⟩ = some (.int .i64 x153002_2) := (blk_cell BK152.out 2).trans rfl; have hcz32_3 : w29.cell? ⟨gb152, 3, none⟩ = some (.int .i64 x153003_2) := (blk_cell BK152.out 3).trans rfl; have hcz32_4 : w29.cell? ⟨gb152, 4, none⟩ = some (.int .i64 a2) := (blk_cell BK152.out 4).trans rfl; have hfz32_0 := blk_frozen BK152.out 0; have hfz32_1 := blk_frozen BK152.out 1; have hfz32_2 := blk_frozen BK152.out 2; have hfz32_3 := blk_frozen BK152.out 3; have hfz32_4 := blk_frozen BK152.out 4))
            go_roundg k2
            case measure => have := HJ5.out; have := HK2.out; omega
            case rel => exact ⟨(y158), (wrap64 (x57_2 + 1)), (wrap64 ((y158.length : Int) - 1)), (x153003_2), (by first | rfl | (simp; done) | (simp [*]; done)), H', ⟨by have := HJ5.out; have := HK2.out; omega⟩, ⟨by (with_reducible repeat (first | apply Kd.R_alloc | apply Kd.R_drewN | apply Kd.R_drew)); exact Kd.R_mono (Kd.R_far (p := ⟨gb152, 2, none⟩) (Kd.R_mono HO160.out (fun k_ hk => (⟨hk, hk.2⟩ : _ ∧ k_ ≠ gb152))) (fun _ hk => hk.2) (.int .i64 (wrap64 ((y158.length : Int) - 1)))) (fun _ hk => hk.1.2)⟩, ⟨by (with_reducible repeat (first | refine blk_drewN ?_ _ | refine blk_drew ?_ | refine blk_alloc ?_ _)); refine blk_put (cs := #[.int .u8 a0, .int .i64 a1, .int .i64 x153002_2, .int .i64 x153003_2, .int .i64 a2]) ?_ 2 _ rfl; (with_reducible repeat (first | refine blk_drewN ?_ _ | refine blk_drew ?_ | refine blk_alloc ?_ _)); exact BK152.out⟩, ⟨by repeat (first | (with_reducible first | exact HB.out | apply below_alloc | apply pw_below_drewN | apply below_drew1 | refine below_set ?_ GE152.out) | exact HB.out)⟩⟩
           ·rw [if_neg c25] at H
            have c25b0 : (x57_2 == 0) = false := beq_eq_false_iff_ne.mpr c25
            have c25b1 : (x57_2 != 0) = true := bne_iff_ne.mpr c25
            have H' := Aside0.mk H
            clear H
            have p153 : 0 ≤ (x57_2 : Int) := of_decide_eq_true (by first | (with_reducible assumption) | assumption)
            have q153 : x57_2 < (l3.length : Int) := of_decide_eq_true (by first | (with_reducible assumption) | assumption)
            obtain ⟨ad153, A153_0, c153_0, e153, hx153_0, hl153_0, hi153_0⟩ := at_L7 HR3.out x57_2 p153 q153
            cases e153
            replace hx153_0 := (HB.out.cell (World.block_lt_of_cell? w _ hx153_0)).trans hx153_0
            have HR153_0 := Aside0.mk hi153_0
            have HC153_0 := Aside0.mk hl153_0
            clear hi153_0 hl153_0
            replace p153 := eq_true p153
            replace q153 := eq_true q153
            go_wp2_with (first | ((with_reducible refine gate_callee (f := 15) rfl ?_); refine goesL_ (some 63) rfl rfl Tryz.func15 (by kernel_rfl) rfl #[.slice A153_0 (rd_L7 l3 x57_2).length c153_0] rfl (by (try simp only [List.map_toArray, List.map_cons, List.map_nil]); first | done | rfl | (simp only [List.length_drop, List.length_take]; rfl)) ?_; (with_reducible refine (nodes_Check.calls _ _ (rd_L7 l3 x57_2) t154 _ ?side1 ?side2 A21.out).mono ?_); (case side1 => repeat (first | exact (Kd.C_below HR153_0.out HB.out) | (with_reducible refine Kd.C_alloc ?_ _) | (with_reducible refine Kd.C_drewN ?_ _) | (with_reducible refine Kd.C_drew ?_))); (case side2 => exact HC153_0.out); rintro e w33 ⟨rfl, hb⟩; refine ⟨_, rfl, ?_⟩; have n0_ := Aside0.mk (Kd.R_below (by (with_reducible repeat (first | apply Kd.R_alloc | apply Kd.R_drewN | apply Kd.R_drew)); exact HO_13.out) hb); have n1_ := Aside0.mk (blk_below (g := gb152) (o := .cells #[.int .u8 a0, .int .i64 a1, .int .i64 x153002_2, .int .i64 x153003_2, .int .i64 a2] 43 (0, 0)) (by (with_reducible repeat (first | refine blk_drewN ?_ _ | refine blk_drew ?_ | refine blk_alloc ?_ _)); exact BK152.out) hb); have n2_ := Aside0.mk (below_step (by repeat (first | (with_reducible first | exact HB.out | apply below_alloc | apply pw_below_drewN | apply below_drew1 | refine below_set ?_ GE152.out) | exact HB.out)) hb); clear HO_13; clear BK152; clear HB; have HO_13 := n0_; have BK152 := n1_; have HB := n2_; clear n0_ n1_ n2_; (try clear hb); (try clear hb2); (try clear hk); (try clear hi); obtain ⟨Ao34, co34, eo34⟩ := Kd.R_slice HO_13.out; subst eo34) | ((with_reducible refine gate_callee (f := 37) rfl ?_); refine goesL_ (some 71) rfl rfl Tryz.func37 (by kernel_rfl) rfl #[.slice A153_0 (rd_L7 l3 x57_2).length c153_0, .int .i64 (x13_2.length : Int)] rfl (by (try simp only [List.map_toArray, List.map_cons, List.map_nil]); first | done | rfl | (simp only [List.length_drop, List.length_take]; rfl)) ?_; (with_reducible refine (nodes_moved.calls k2 _ _ (rd_L7 l3 x57_2) (x13_2.length : Int) t155 _ ?side1 ?side2 A23.out).mono ?_); (case side1 => repeat (first | exact (Kd.C_below HR153_0.out HB.out) | (with_reducible refine Kd.C_alloc ?_ _) | (with_reducible refine Kd.C_drewN ?_ _) | (with_reducible refine Kd.C_drew ?_))); (case side2 => exact HC153_0.out); rintro e w35 ⟨v156, rfl, ho0, hb⟩; refine ⟨_, rfl, ?_⟩; have n0_ := Aside0.mk (Kd.R_elder' (by (with_reducible repeat (first | apply Kd.R_alloc | apply Kd.R_drewN | apply Kd.R_drew)); exact HO_13.out) (Kd.R_base ho0) hb); have n1_ := Aside0.mk (Kd.R_lower (Kd.R_newB (Kd.R_new' ho0 (Kd.R_lt (by (with_reducible repeat (first | apply Kd.R_alloc | apply Kd.R_drewN | apply Kd.R_drew)); exact HO_13.out))) (g := gb152) (o := .cells #[.int .u8 a0, .int .i64 a1, .int .i64 x153002_2, .int .i64 x153003_2, .int .i64 a2] 43 (0, 0)) (by (with_reducible repeat (first | refine blk_drewN ?_ _ | refine blk_drew ?_ | refine blk_alloc ?_ _)); exact BK152.out)) (below_size (by repeat (first | (with_reducible first | exact HB.out | apply below_alloc | apply pw_below_drewN | apply below_drew1 | refine below_set ?_ GE152.out) | exact HB.out)))); have n2_ := Aside0.mk (blk_below (g := gb152) (o := .cells #[.int .u8 a0, .int .i64 a1, .int .i64 x153002_2, .int .i64 x153003_2, .int .i64 a2] 43 (0, 0)) (by (with_reducible repeat (first | refine blk_drewN ?_ _ | refine blk_drew ?_ | refine blk_alloc ?_ _)); exact BK152.out) hb); have n3_ := Aside0.mk (below_step (by repeat (first | (with_reducible first | exact HB.out | apply below_alloc | apply pw_below_drewN | apply below_drew1 | refine below_set ?_ GE152.out) | exact HB.out)) hb); clear HO_13; clear BK152; clear HB; have HO_13 := n0_; have HO157 := n1_; have BK152 := n2_; have HB := n3_; clear n0_ n1_ n2_ n3_; (try clear hb); (try clear hb2); (try clear hk); (try clear hi); (try clear ho0); obtain ⟨Ao37, co37, eo37⟩ := Kd.R_slice HO157.out; subst eo37) | ((with_reducible refine gate_builtin (b := .append) (xs := #[.tmp 67, .tmp 71]) rfl ?_); (try (refine gate_guard (by rfl) ?_; dsimp only)); at_builtin; refine Kd.R_append_rows k43 (w0 := w) w.heap.size rfl (.tmp 67) (.tmp 71) 29 43 (.agg #[(.int .u8 0), (.int .i64 0), (.int .i64 0), (.int .i64 0), (.int .i64 0)]) 40 rfl Tryz.underlying29 info43 rfl (by decide) (by omega) (.slice Ao34 x13_2.length co34) x13_2 t155 _ _ _ (fun k_ => some k_ ≠ (.slice Ao37 t155.length co37 : Value).ownBlock ∧ k_ ≠ gb152) (fun _ => False) rfl rfl ?aO ?aR (fun _ _ h => h) (fun _ h => h.elim) ?aF ?aB ?aS ?aL ?_; (case aR => repeat (first | exact (Kd.R_reads' HO157.out).2.2 | (with_reducible refine Kd.C_alloc ?_ _) | (with_reducible refine Kd.C_drewN ?_ _) | (with_reducible refine Kd.C_drew ?_))); (case aB => exact (by repeat (first | (with_reducible first | exact HB.out | apply below_alloc | apply pw_below_drewN | apply below_drew1 | refine below_set ?_ GE152.out) | exact HB.out))); (case aF => exact (fun k_ hk => ⟨Kd.fresh' (Kd.R_lt (by (with_reducible repeat (first | apply Kd.R_alloc | apply Kd.R_drewN | apply Kd.R_drew)); exact HO157.out)) k_ hk, Kd.freshB (g := gb152) (o := .cells #[.int .u8 a0, .int .i64 a1, .int .i64 x153002_2, .int .i64 x153003_2, .int .i64 a2] 43 (0, 0)) (by (with_reducible repeat (first | refine blk_drewN ?_ _ | refine blk_drew ?_ | refine blk_alloc ?_ _)); exact BK152.out) k_ hk⟩)); (case aO => exact (by (with_reducible repeat (first | apply Kd.R_alloc | apply Kd.R_drewN | apply Kd.R_drew)); exact Kd.R_mono HO_13.out (fun _ hk => ⟨hk.2, hk.1⟩))); (case aS => exact (below_size (by repeat (first | (with_reducible first | exact HB.out | apply below_alloc | apply pw_below_drewN | apply below_drew1 | refine below_set ?_ GE152.out) | exact HB.out)))); (case aL => have := LMc24.out; omega); intro v159 w36 ho hb hg hat; rw [← Ny158.out] at ho; have n0_ := Aside0.mk (blk_grown (g := gb152) (o := .cells #[.int .u8 a0, .int .i64 a1, .int .i64 x153002_2, .int .i64 x153003_2, .int .i64 a2] 43 (0, 0)) (by (with_reducible repeat (first | refine blk_drewN ?_ _ | refine blk_drew ?_ | refine blk_alloc ?_ _)); exact BK152.out) hg (Kd.R_away HO_13.out (fun _ hk => hk.1))); have n1_ := Aside0.mk (Kd.R_after (ok := (fun k_ => k_ ≠ gb152)) (by (with_reducible repeat (first | apply Kd.R_alloc | apply Kd.R_drewN | apply Kd.R_drew)); exact Kd.R_mono HO157.out (fun _ hk => ⟨hk.2, hk.1.2⟩)) hg hat); have n2_ := Aside0.mk (hb); have n3_ := Aside0.mk (ho); clear BK152; clear HO157; clear HB; clear HO_13; have BK152 := n0_; have HO157 := n1_; have HB := n2_; have HO160 := n3_; clear n0_ n1_ n2_ n3_; clear ho hb hg hat; obtain ⟨Ao38, co38, eo38⟩ := Kd.R_slice HO160.out; subst eo38; have hcz39_0 : w36.cell? ⟨gb152, 0, none⟩ = some (.int .u8 a0) := (blk_cell BK152.out 0).trans rfl; have hcz39_1 : w36.cell? ⟨gb152, 1, none⟩ = some (.int .i64 a1) := (blk_cell BK152.out 1).trans rfl; have hcz39_2 : w36.cell? ⟨gb152, 2, none⟩ = some (.int .i64 x153002_2) := (blk_cell BK152.out 2).trans rfl; have hcz39_3 : w36.cell? ⟨gb152, 3, none⟩ = some (.int .i64 x153003_2) := (blk_cell BK152.out 3).trans rfl; have hcz39_4 : w36.cell? ⟨gb152, 4, none⟩ = some (.int .i64 a2) := (blk_cell BK152.out 4).trans rfl; have hfz39_0 := blk_frozen BK152.out 0; have hfz39_1 := blk_frozen BK152.out 1; have hfz39_2 := blk_frozen BK152.out 2; have hfz39_3 := blk_frozen BK152.out 3; have hfz39_4 := blk_frozen BK152.out 4))
            go_roundg k2
            case measure => have := HJ5.out; have := HK2.out; omega
            case rel => exact ⟨(y158), (wrap64 (x57_2 + 1)), (x153002_2), (wrap64 ((y158.length : Int) - 1)), (by first | rfl | (simp; done) | (simp [*]; done)), H', ⟨by have := HJ5.out; have := HK2.out; omega⟩, ⟨by (with_reducible repeat (first | apply Kd.R_alloc | apply Kd.R_drewN | apply Kd.R_drew)); exact Kd.R_mono (Kd.R_far (p := ⟨gb152, 3, none⟩) (Kd.R_mono HO160.out (fun k_ hk => (⟨hk, hk.2⟩ : _ ∧ k_ ≠ gb152))) (fun _ hk => hk.2) (.int .i64 (wrap64 ((y158.length : Int) - 1)))) (fun _ hk => hk.1.2)⟩, ⟨by (with_reducible repeat (first | refine blk_drewN ?_ _ | refine blk_drew ?_ | refine blk_alloc ?_ _)); refine blk_put (cs := #[.int .u8 a0, .int .i64 a1, .int .i64 x153002_2, .int .i64 x153003_2, .int .i64 a2]) ?_ 3 _ rfl; (with_reducible repeat (first | refine blk_drewN ?_ _ | refine blk_drew ?_ | refine blk_alloc ?_ _)); exact BK152.out⟩, ⟨by repeat (first | (with_reducible first | exact HB.out | apply below_alloc | apply pw_below_drewN | apply below_drew1 | refine below_set ?_ GE152.out) | exact HB.out)⟩⟩
          ·rw [if_neg c24] at H
           exact absurd H (by simp)
         ·rw [if_neg c22] at H
          have c22b0 : (t154 == 0) = false := beq_eq_false_iff_ne.mpr c22
          have c22b1 : (t154 != 0) = true := bne_iff_ne.mpr c22
          simp only [Option.some.injEq, Prod.mk.injEq] at H
          obtain ⟨rfl, rfl⟩ := H
          have p153 : 0 ≤ (x57_2 : Int) := of_decide_eq_true (by first | (with_reducible assumption) | assumption)
          have q153 : x57_2 < (l3.length : Int) := of_decide_eq_true (by first | (with_reducible assumption) | assumption)
          obtain ⟨ad153, A153_0, c153_0, e153, hx153_0, hl153_0, hi153_0⟩ := at_L7 HR3.out x57_2 p153 q153
          cases e153
          replace hx153_0 := (HB.out.cell (World.block_lt_of_cell? w _ hx153_0)).trans hx153_0
          have HR153_0 := Aside0.mk hi153_0
          have HC153_0 := Aside0.mk hl153_0
          clear hi153_0 hl153_0
          replace p153 := eq_true p153
          replace q153 := eq_true q153
          go_wp2_with (first | ((with_reducible refine gate_callee (f := 15) rfl ?_); refine goesL_ (some 63) rfl rfl Tryz.func15 (by kernel_rfl) rfl #[.slice A153_0 (rd_L7 l3 x57_2).length c153_0] rfl (by (try simp only [List.map_toArray, List.map_cons, List.map_nil]); first | done | rfl | (simp only [List.length_drop, List.length_take]; rfl)) ?_; (with_reducible refine (nodes_Check.calls _ _ (rd_L7 l3 x57_2) t154 _ ?side1 ?side2 A21.out).mono ?_); (case side1 => repeat (first | exact (Kd.C_below HR153_0.out HB.out) | (with_reducible refine Kd.C_alloc ?_ _) | (with_reducible refine Kd.C_drewN ?_ _) | (with_reducible refine Kd.C_drew ?_))); (case side2 => exact HC153_0.out); rintro e w40 ⟨rfl, hb⟩; refine ⟨_, rfl, ?_⟩; have n0_ := Aside0.mk (Kd.R_below (by (with_reducible repeat (first | apply Kd.R_alloc | apply Kd.R_drewN | apply Kd.R_drew)); exact HO_13.out) hb); have n1_ := Aside0.mk (blk_below (g := gb152) (o := .cells #[.int .u8 a0, .int .i64 a1, .int .i64 x153002_2, .int .i64 x153003_2, .int .i64 a2] 43 (0, 0)) (by (with_reducible repeat (first | refine blk_drewN ?_ _ | refine blk_drew ?_ | refine blk_alloc ?_ _)); exact BK152.out) hb); have n2_ := Aside0.mk (below_step (by repeat (first | (with_reducible first | exact HB.out | apply below_alloc | apply pw_below_drewN | apply below_drew1 | refine below_set ?_ GE152.out) | exact HB.out)) hb); clear HO_13; clear BK152; clear HB; have HO_13 := n0_; have BK152 := n1_; have HB := n2_; clear n0_ n1_ n2_; (try clear hb); (try clear hb2); (try clear hk); (try clear hi)))
          go_ret2
          exact ⟨_, by first | rfl | (simp [errW_none, errW_some] <;> rfl) | (simp [*, errW_none, errW_some] <;> rfl), by first | exact Kd.R_nil _ _ _ _ _ | exact Kd.N_nil _ _ _ _ _ | exact Kd.V_nil _ _ _ _ _ | exact Kd.Q_nil _ _ _ _ _ | exact Kd.S_nil _ _ _ _ _, by repeat (first | (with_reducible first | exact HB.out | apply below_alloc | apply pw_below_drewN | apply below_drew1 | refine below_set ?_ GE152.out) | exact HB.out)⟩
        ·rw [if_neg c20] at H
         exact absurd H (by simp)
       ·rw [if_neg c19] at H
        exact absurd H (by simp)
      ·rw [if_neg c18] at H
       have c18b0 : decide (x57_2 < (l3.length : Int)) = false := decide_eq_false c18
       clear c18
       by_cases c41 : x13_2.length < 3518437208883
       ·rw [if_pos c41] at H
        have LMc41 := Aside0.mk c41
        clear c41
        obtain ⟨y161, hy161⟩ : ∃ y_ : List (S43), y_ = (x13_2 ++ [(⟨a0, a1, x153002_2, x153003_2, a2⟩ : S43)]) := ⟨_, rfl⟩
        replace H : ((nodes_Check.f y161).bind fun t164 => (if t164 = 0 then (some (y161, 0)) else (some (([] : List (S43)), t164)))) = some (r1, r2) := by first | (rw [hy161]; with_reducible exact H) | (have H2_ := (Option.bind_some _ _).symm.trans H; rw [hy161]; with_reducible exact H2_) | (have H2_ := (Option.bind_some _ _).symm.trans H; with_reducible exact H2_) | with_reducible exact H | (rw [hy161]; exact H) | exact H
        have Ny161 := Aside0.mk hy161
        clear hy161
        replace H := Option.bind_eq_some_iff.mp H
        obtain ⟨t164, A420, H⟩ := H
        replace H : (if t164 = 0 then (some (y161, 0)) else (some (([] : List (S43)), t164))) = some (r1, r2) := H
        have A42 := Aside0.mk A420
        clear A420
        by_cases c43 : t164 = 0
        ·rw [if_pos c43] at H
         have c43b0 : (t164 == 0) = true := beq_iff_eq.mpr c43
         have c43b1 : (t164 != 0) = false := bne_eq_false_iff_eq.mpr c43
         clear c43
         simp only [Option.some.injEq, Prod.mk.injEq] at H
         obtain ⟨rfl, rfl⟩ := H
         have hcz44_0 : wr.cell? ⟨gb152, 0, none⟩ = some (.int .u8 a0) := (blk_cell BK152.out 0).trans rfl
         have hcz44_1 : wr.cell? ⟨gb152, 1, none⟩ = some (.int .i64 a1) := (blk_cell BK152.out 1).trans rfl
         have hcz44_2 : wr.cell? ⟨gb152, 2, none⟩ = some (.int .i64 x153002_2) := (blk_cell BK152.out 2).trans rfl
         have hcz44_3 : wr.cell? ⟨gb152, 3, none⟩ = some (.int .i64 x153003_2) := (blk_cell BK152.out 3).trans rfl
         have hcz44_4 : wr.cell? ⟨gb152, 4, none⟩ = some (.int .i64 a2) := (blk_cell BK152.out 4).trans rfl
         have hfz44_0 := blk_frozen BK152.out 0
         have hfz44_1 := blk_frozen BK152.out 1
         have hfz44_2 := blk_frozen BK152.out 2
         have hfz44_3 := blk_frozen BK152.out 3
         have hfz44_4 := blk_frozen BK152.out 4
         go_wp2_with (first | ((with_reducible refine gate_builtin (b := .append) (xs := #[.tmp 84, .tmp 86]) rfl ?_); (try (refine gate_guard (by rfl) ?_; dsimp only)); at_builtin; refine Kd.R_append k43 (w0 := w) w.heap.size rfl (.tmp 84) (.tmp 86) 29 43 (.agg #[(.int .u8 0), (.int .i64 0), (.int .i64 0), (.int .i64 0), (.int .i64 0)]) 40 rfl Tryz.underlying29 info43 rfl (by decide) (by omega) u13 x13_2 (⟨a0, a1, x153002_2, x153003_2, a2⟩ : S43) [.int .u8 a0, .int .i64 a1, .int .i64 x153002_2, .int .i64 x153003_2, .int .i64 a2] (fun k_ => k_ ≠ gb152) (fun _ => False) rfl rfl ?aP (fun _ hk => hk.elim) ?aF ?aO ?aB ?aS ?aL ?_; (case aP => exact k43_mkM _ _ _ (⟨a0, a1, x153002_2, x153003_2, a2⟩ : S43)); (case aB => exact (by repeat (first | (with_reducible first | exact HB.out | apply below_alloc | apply pw_below_drewN | apply below_drew1 | refine below_set ?_ GE152.out) | exact HB.out))); (case aF => exact (fun k_ hk => Kd.freshB (g := gb152) (o := .cells #[.int .u8 a0, .int .i64 a1, .int .i64 x153002_2, .int .i64 x153003_2, .int .i64 a2] 43 (0, 0)) (by (with_reducible repeat (first | refine blk_drewN ?_ _ | refine blk_drew ?_ | refine blk_alloc ?_ _)); exact BK152.out) k_ hk)); (case aO => exact (by (with_reducible repeat (first | apply Kd.R_alloc | apply Kd.R_drewN | apply Kd.R_drew)); exact HO_13.out)); (case aS => exact (below_size (by repeat (first | (with_reducible first | exact HB.out | apply below_alloc | apply pw_below_drewN | apply below_drew1 | refine below_set ?_ GE152.out) | exact HB.out)))); (case aL => have := LMc41.out; omega); intro v162 w45 ho hb hg hat; rw [← Ny161.out] at ho; have n0_ := Aside0.mk (blk_grown (g := gb152) (o := .cells #[.int .u8 a0, .int .i64 a1, .int .i64 x153002_2, .int .i64 x153003_2, .int .i64 a2] 43 (0, 0)) (by (with_reducible repeat (first | refine blk_drewN ?_ _ | refine blk_drew ?_ | refine blk_alloc ?_ _)); exact BK152.out) hg (Kd.R_away HO_13.out (fun _ hk => hk))); have n1_ := Aside0.mk (hb); have n2_ := Aside0.mk (ho); clear BK152; clear HB; clear HO_13; have BK152 := n0_; have HB := n1_; have HO163 := n2_; clear n0_ n1_ n2_; clear ho hb hg hat; obtain ⟨Ao46, co46, eo46⟩ := Kd.R_slice HO163.out; subst eo46) | ((with_reducible refine gate_callee (f := 15) rfl ?_); refine goesL_ (some 89) rfl rfl Tryz.func15 (by kernel_rfl) rfl #[.slice Ao46 y161.length co46] rfl (by (try simp only [List.map_toArray, List.map_cons, List.map_nil]); first | done | rfl | (simp only [List.length_drop, List.length_take]; rfl)) ?_; (with_reducible refine (nodes_Check.calls _ _ y161 t164 _ ?side1 ?side2 A42.out).mono ?_); (case side1 => repeat (first | exact (Kd.R_reads' HO163.out).2.2 | (with_reducible refine Kd.C_alloc ?_ _) | (with_reducible refine Kd.C_drewN ?_ _) | (with_reducible refine Kd.C_drew ?_))); (case side2 => exact (Kd.R_reads' HO163.out).2.1); rintro e w47 ⟨rfl, hb⟩; refine ⟨_, rfl, ?_⟩; have n0_ := Aside0.mk (Kd.R_below (by (with_reducible repeat (first | apply Kd.R_alloc | apply Kd.R_drewN | apply Kd.R_drew)); exact HO163.out) hb); have n1_ := Aside0.mk (blk_below (g := gb152) (o := .cells #[.int .u8 a0, .int .i64 a1, .int .i64 x153002_2, .int .i64 x153003_2, .int .i64 a2] 43 (0, 0)) (by (with_reducible repeat (first | refine blk_drewN ?_ _ | refine blk_drew ?_ | refine blk_alloc ?_ _)); exact BK152.out) hb); have n2_ := Aside0.mk (below_step (by repeat (first | (with_reducible first | exact HB.out | apply below_alloc | apply pw_below_drewN | apply below_drew1 | refine below_set ?_ GE152.out) | exact HB.out)) hb); clear HO163; clear BK152; clear HB; have HO163 := n0_; have BK152 := n1_; have HB := n2_; clear n0_ n1_ n2_; (try clear hb); (try clear hb2); (try clear hk); (try clear hi)))
         go_ret2
         exact ⟨_, by first | rfl | (simp [errW_none, errW_some] <;> rfl) | (simp [*, errW_none, errW_some] <;> rfl), by (with_reducible repeat (first | apply Kd.R_alloc | apply Kd.R_drewN | apply Kd.R_drew)); exact Kd.R_mono HO163.out (fun _ hk => trivial), by repeat (first | (with_reducible first | exact HB.out | apply below_alloc | apply pw_below_drewN | apply below_drew1 | refine below_set ?_ GE152.out) | exact HB.out)⟩
        ·rw [if_neg c43] at H
         have c43b0 : (t164 == 0) = false := beq_eq_false_iff_ne.mpr c43
         have c43b1 : (t164 != 0) = true := bne_iff_ne.mpr c43
         simp only [Option.some.injEq, Prod.mk.injEq] at H
         obtain ⟨rfl, rfl⟩ := H
         have hcz48_0 : wr.cell? ⟨gb152, 0, none⟩ = some (.int .u8 a0) := (blk_cell BK152.out 0).trans rfl
         have hcz48_1 : wr.cell? ⟨gb152, 1, none⟩ = some (.int .i64 a1) := (blk_cell BK152.out 1).trans rfl
         have hcz48_2 : wr.cell? ⟨gb152, 2, none⟩ = some (.int .i64 x153002_2) := (blk_cell BK152.out 2).trans rfl
         have hcz48_3 : wr.cell? ⟨gb152, 3, none⟩ = some (.int .i64 x153003_2) := (blk_cell BK152.out 3).trans rfl
         have hcz48_4 : wr.cell? ⟨gb152, 4, none⟩ = some (.int .i64 a2) := (blk_cell BK152.out 4).trans rfl
         have hfz48_0 := blk_frozen BK152.out 0
         have hfz48_1 := blk_frozen BK152.out 1
         have hfz48_2 := blk_frozen BK152.out 2
         have hfz48_3 := blk_frozen BK152.out 3
         have hfz48_4 := blk_frozen BK152.out 4
         go_wp2_with (first | ((with_reducible refine gate_builtin (b := .append) (xs := #[.tmp 84, .tmp 86]) rfl ?_); (try (refine gate_guard (by rfl) ?_; dsimp only)); at_builtin; refine Kd.R_append k43 (w0 := w) w.heap.size rfl (.tmp 84) (.tmp 86) 29 43 (.agg #[(.int .u8 0), (.int .i64 0), (.int .i64 0), (.int .i64 0), (.int .i64 0)]) 40 rfl Tryz.underlying29 info43 rfl (by decide) (by omega) u13 x13_2 (⟨a0, a1, x153002_2, x153003_2, a2⟩ : S43) [.int .u8 a0, .int .i64 a1, .int .i64 x153002_2, .int .i64 x153003_2, .int .i64 a2] (fun k_ => k_ ≠ gb152) (fun _ => False) rfl rfl ?aP (fun _ hk => hk.elim) ?aF ?aO ?aB ?aS ?aL ?_; (case aP => exact k43_mkM _ _ _ (⟨a0, a1, x153002_2, x153003_2, a2⟩ : S43)); (case aB => exact (by repeat (first | (with_reducible first | exact HB.out | apply below_alloc | apply pw_below_drewN | apply below_drew1 | refine below_set ?_ GE152.out) | exact HB.out))); (case aF => exact (fun k_ hk => Kd.freshB (g := gb152) (o := .cells #[.int .u8 a0, .int .i64 a1, .int .i64 x153002_2, .int .i64 x153003_2, .int .i64 a2] 43 (0, 0)) (by (with_reducible repeat (first | refine blk_drewN ?_ _ | refine blk_drew ?_ | refine blk_alloc ?_ _)); exact BK152.out) k_ hk)); (case aO => exact (by (with_reducible repeat (first | apply Kd.R_alloc | apply Kd.R_drewN | apply Kd.R_drew)); exact HO_13.out)); (case aS => exact (below_size (by repeat (first | (with_reducible first | exact HB.out | apply below_alloc | apply pw_below_drewN | apply below_drew1 | refine below_set ?_ GE152.out) | exact HB.out)))); (case aL => have := LMc41.out; omega); intro v162 w49 ho hb hg hat; rw [← Ny161.out] at ho; have n0_ := Aside0.mk (blk_grown (g := gb152) (o := .cells #[.int .u8 a0, .int .i64 a1, .int .i64 x153002_2, .int .i64 x153003_2, .int .i64 a2] 43 (0, 0)) (by (with_reducible repeat (first | refine blk_drewN ?_ _ | refine blk_drew ?_ | refine blk_alloc ?_ _)); exact BK152.out) hg (Kd.R_away HO_13.out (fun _ hk => hk))); have n1_ := Aside0.mk (hb); have n2_ := Aside0.mk (ho); clear BK152; clear HB; clear HO_13; have BK152 := n0_; have HB := n1_; have HO163 := n2_; clear n0_ n1_ n2_; clear ho hb hg hat; obtain ⟨Ao50, co50, eo50⟩ := Kd.R_slice HO163.out; subst eo50) | ((with_reducible refine gate_callee (f := 15) rfl ?_); refine goesL_ (some 89) rfl rfl Tryz.func15 (by kernel_rfl) rfl #[.slice Ao50 y161.length co50] rfl (by (try simp only [List.map_toArray, List.map_cons, List.map_nil]); first | done | rfl | (simp only [List.length_drop, List.length_take]; rfl)) ?_; (with_reducible refine (nodes_Check.calls _ _ y161 t164 _ ?side1 ?side2 A42.out).mono ?_); (case side1 => repeat (first | exact (Kd.R_reads' HO163.out).2.2 | (with_reducible refine Kd.C_alloc ?_ _) | (with_reducible refine Kd.C_drewN ?_ _) | (with_reducible refine Kd.C_drew ?_))); (case side2 => exact (Kd.R_reads' HO163.out).2.1); rintro e w51 ⟨rfl, hb⟩; refine ⟨_, rfl, ?_⟩; have n0_ := Aside0.mk (Kd.R_below (by (with_reducible repeat (first | apply Kd.R_alloc | apply Kd.R_drewN | apply Kd.R_drew)); exact HO163.out) hb); have n1_ := Aside0.mk (blk_below (g := gb152) (o := .cells #[.int .u8 a0, .int .i64 a1, .int .i64 x153002_2, .int .i64 x153003_2, .int .i64 a2] 43 (0, 0)) (by (with_reducible repeat (first | refine blk_drewN ?_ _ | refine blk_drew ?_ | refine blk_alloc ?_ _)); exact BK152.out) hb); have n2_ := Aside0.mk (below_step (by repeat (first | (with_reducible first | exact HB.out | apply below_alloc | apply pw_below_drewN | apply below_drew1 | refine below_set ?_ GE152.out) | exact HB.out)) hb); clear HO163; clear BK152; clear HB; have HO163 := n0_; have BK152 := n1_; have HB := n2_; clear n0_ n1_ n2_; (try clear hb); (try clear hb2); (try clear hk); (try clear hi)))
         go_ret2
         exact ⟨_, by first | rfl | (simp [errW_none, errW_some] <;> rfl) | (simp [*, errW_none, errW_some] <;> rfl), by first | exact Kd.R_nil _ _ _ _ _ | exact Kd.N_nil _ _ _ _ _ | exact Kd.V_nil _ _ _ _ _ | exact Kd.Q_nil _ _ _ _ _ | exact Kd.S_nil _ _ _ _ _, by repeat (first | (with_reducible first | exact HB.out | apply below_alloc | apply pw_below_drewN | apply below_drew1 | refine below_set ?_ GE152.out) | exact HB.out)⟩
       ·rw [if_neg c41] at H
        exact absurd H (by simp)
end Go.Proofs.YtgmmngipnjmkfaaGreatDoor.Q
end
