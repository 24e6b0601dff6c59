/- What lexer.All gives, as a relation over the bytes of a text; All, check and token compute it. -/
import Derived.Test.YtdccajohjknnbaaDoorPureB
import Derived.Test.YtdccajohjknnbaaDoorPlainInts
import Derived.Test.YtdccajohjknnbaaDoorQx3
namespace Go.Proofs.YtdccajohjknnbaaDoor.Pure
open Go.RowKit Go.Proofs.YtdccajohjknnbaaDoor.Hand Go.Proofs.YtdccajohjknnbaaDoor.Q Go.Proofs.YtdccajohjknnbaaDoorW.PrintWords Go.Proofs.YtdccajohjknnbaaDoorW.PrintLast Go.Proofs.YtdccajohjknnbaaDoorW.PrintMore
def ba (l : List UInt8) : ByteArray := ⟨l.toArray⟩
theorem ba_data (l : List UInt8) : (ba l).data.toList = l := rfl
theorem ba_of {t : ByteArray} {l : List UInt8} (h : t.data.toList = l) : t = ba l := by subst h; rfl
theorem ba_size (l : List UInt8) : (ba l).size = l.length := by rw [← data_length, ba_data]
def kd (b : UInt8) : Int := kindOf b.toNat
def run (q : Int) (L : List UInt8) : List UInt8 := L.takeWhile fun b => kd b == q
def tok : List UInt8 → Int × List UInt8
  | [] => (3, [])
  | c :: r => if kd c = 2 then (1, run 2 (c :: r)) else if kd c = 3 then (2, run 3 (c :: r)) else (3, (c :: r).take (symL (c :: r)).toNat)
def chk (q : Int) (t : List UInt8) : Int :=
  if q = 1 then (readL t).2 else if q = 2 then (if isWord (ba t) = true then 0 else 32) else if q = 3 then (if symL t > 0 ∧ symL t = (t.length : Int) then 0 else 32) else 32
inductive Scan : Nat → Nat → List UInt8 → List S30 → Nat → Int → Prop
  | done (a n : Nat) : Scan a n [] [] a 0
  | blank {a n : Nat} {c : UInt8} {r : List UInt8} {ts : List S30} {m : Nat} {e : Int} : kd c = 1 → Scan (a + 1) n r ts m e → Scan a n (c :: r) ts m e
  | many {a : Nat} {c : UInt8} {r : List UInt8} : kd c ≠ 1 → Scan a 200 (c :: r) [] a 4
  | bad {a n : Nat} {c : UInt8} {r : List UInt8} {e : Int} : kd c ≠ 1 → n ≠ 200 → chk (tok (c :: r)).1 (tok (c :: r)).2 = e → e ≠ 0 → Scan a n (c :: r) [] a e
  | tok {a n : Nat} {c : UInt8} {r : List UInt8} {ts : List S30} {m : Nat} {e : Int} : kd c ≠ 1 → n ≠ 200 → chk (tok (c :: r)).1 (tok (c :: r)).2 = 0 →
      Scan (a + (tok (c :: r)).2.length) (n + 1) ((c :: r).drop (tok (c :: r)).2.length) ts m e → Scan a n (c :: r) (⟨(tok (c :: r)).1, ba (tok (c :: r)).2, (a : Int)⟩ :: ts) m e
theorem run_take (q : Int) (L : List UInt8) : run q L = L.take (run q L).length := by
  unfold run
  induction L with
  | nil => rfl
  | cons c r ih =>
    by_cases h : (kd c == q) = true
    · rw [List.takeWhile_cons_of_pos (p := fun b => kd b == q) h, List.length_cons, List.take_succ_cons, ← ih]
    · rw [List.takeWhile_cons_of_neg (p := fun b => kd b == q) h]; rfl
theorem run_len (q : Int) (L : List UInt8) : (run q L).length ≤ L.length := by
  have := congrArg List.length (run_take q L)
  rw [List.length_take] at this; omega
theorem take_len (L : List UInt8) (n : Nat) : L.take n = L.take (L.take n).length := by
  rw [List.length_take]
  rcases Nat.le_total n L.length with h | h
  · rw [Nat.min_eq_left h]
  · rw [Nat.min_eq_right h, List.take_of_length_le h, List.take_length]
theorem tok_take (L : List UInt8) : (tok L).2 = L.take (tok L).2.length := by
  cases L with
  | nil => rfl
  | cons c r =>
    by_cases h2 : kd c = 2
    · simp only [tok, if_pos h2]; exact run_take _ _
    · by_cases h3 : kd c = 3
      · simp only [tok, if_neg h2, if_pos h3]; exact run_take _ _
      · simp only [tok, if_neg h2, if_neg h3]
        exact take_len _ _
theorem tok_len (L : List UInt8) : (tok L).2.length ≤ L.length := by
  have := congrArg List.length (tok_take L)
  rw [List.length_take] at this; omega
theorem chk_pos {q : Int} {t : List UInt8} (h : chk q t = 0) : t ≠ [] := by
  rintro rfl
  unfold chk at h
  by_cases h1 : q = 1
  · rw [if_pos h1] at h; exact absurd h (by decide)
  rw [if_neg h1] at h
  by_cases h2 : q = 2
  · rw [if_pos h2] at h
    have : isWord (ba []) = false := by kernel_rfl
    rw [this] at h; exact absurd h (by decide)
  rw [if_neg h2] at h
  by_cases h3 : q = 3
  · rw [if_pos h3] at h; exact absurd h (by decide)
  · rw [if_neg h3] at h; exact absurd h (by decide)
theorem tok_pos {L : List UInt8} (h : chk (tok L).1 (tok L).2 = 0) : 0 < (tok L).2.length := List.length_pos_iff.2 (chk_pos h)
theorem scan_total (d : Nat) : ∀ (L : List UInt8) (a n : Nat), L.length ≤ d → ∃ ts m e, Scan a n L ts m e := by
  induction d with
  | zero =>
    intro L a n h
    obtain rfl := List.length_eq_zero_iff.1 (Nat.le_zero.1 h)
    exact ⟨_, _, _, .done a n⟩
  | succ d ih =>
    intro L a n h
    cases L with
    | nil => exact ⟨_, _, _, .done a n⟩
    | cons c r =>
      by_cases hb : kd c = 1
      · obtain ⟨ts, m, e, hs⟩ := ih r (a + 1) n (by rw [List.length_cons] at h; omega)
        exact ⟨_, _, _, .blank hb hs⟩
      · by_cases hn : n = 200
        · subst hn; exact ⟨_, _, _, .many hb⟩
        · by_cases hc : chk (tok (c :: r)).1 (tok (c :: r)).2 = 0
          · have hp := tok_pos hc
            obtain ⟨ts, m, e, hs⟩ := ih ((c :: r).drop (tok (c :: r)).2.length) (a + (tok (c :: r)).2.length) (n + 1) (by rw [List.length_drop]; omega)
            exact ⟨_, _, _, .tok hb hn hc hs⟩
          · exact ⟨_, _, _, .bad hb hn rfl hc⟩
theorem scan_end {a n : Nat} {L : List UInt8} {ts : List S30} {m : Nat} {e : Int} (h : Scan a n L ts m e) : a ≤ m ∧ (e = 0 → m = a + L.length) ∧ (e ≠ 0 → m < a + L.length) ∧ ts.length ≤ L.length := by
  induction h with
  | done a n => exact ⟨Nat.le_refl _, fun _ => rfl, fun h => absurd rfl h, Nat.le_refl _⟩
  | blank hb _ ih =>
    rw [List.length_cons]
    exact ⟨by omega, fun h => by have := ih.2.1 h; omega, fun h => by have := ih.2.2.1 h; omega, by have := ih.2.2.2; omega⟩
  | many _ => exact ⟨Nat.le_refl _, fun h => absurd h (by decide), fun _ => by rw [List.length_cons]; omega, by simp⟩
  | bad _ _ _ he => exact ⟨Nat.le_refl _, fun h => absurd h he, fun _ => by rw [List.length_cons]; omega, by simp⟩
  | @tok a n c r ts m e _ _ hc _ ih =>
    have hp := tok_pos hc
    have hl := tok_len (c :: r)
    rw [List.length_drop] at ih
    refine ⟨by omega, fun h => by have := ih.2.1 h; omega, fun h => by have := ih.2.2.1 h; omega, ?_⟩
    have := ih.2.2.2
    show ts.length + 1 ≤ _
    omega
/-! ### the program's functions -/
theorem same_l0 (t : ByteArray) (ht : t.size ≤ 1000000) (c : UInt8) (r : List UInt8) (e : t.data.toList = c :: r) (d : Nat) : ∀ (k i : Nat), t.size - i = d → i ≤ t.size → d < k →
    lexer_same.l0 k t (i : Int) = some ((i + (run (kd c) (t.data.toList.drop i)).length : Nat) : Int) := by
  have h0 : bt t 0 = c.toNat := bt_list t 0 c (by rw [e]; rfl)
  have hp : (0 : Int) < (t.size : Int) := by rw [← data_length, e, List.length_cons]; omega
  induction d with
  | zero =>
    intro k i hd hi hk
    obtain ⟨k, rfl⟩ : ∃ m, k = m + 1 := ⟨k - 1, by omega⟩
    simp only [lexer_same.l0]; rw [if_neg (by omega), List.drop_of_length_le (by rw [data_length]; omega)]; rfl
  | succ d ih =>
    intro k i hd hi hk
    obtain ⟨k, rfl⟩ : ∃ m, k = m + 1 := ⟨k - 1, by omega⟩
    have hlt : i < t.data.toList.length := by rw [data_length]; omega
    have hih := ih k (i + 1) (by omega) (by omega) (by omega)
    have hb : bt t (i : Int) = (t.data.toList[i]).toNat := bt_list t i _ (List.getElem?_eq_getElem hlt)
    rw [List.drop_eq_getElem_cons hlt]
    simp only [lexer_same.l0, chars_Kind.f, Option.bind_some]
    rw [if_pos (by omega), if_pos (by omega), if_pos hp, hb, h0]
    have hw : wrap64 ((i : Int) + 1) = ((i + 1 : Nat) : Int) := by clear hih ih; unfold wrap64; omega
    by_cases q : kindOf ((t.data.toList[i]).toNat : Int) = kindOf (c.toNat : Int)
    · rw [if_pos q, hw, hih]
      unfold run
      rw [List.takeWhile_cons_of_pos (by simpa [kd] using q), List.length_cons]
      congr 2; omega
    · rw [if_neg q]
      unfold run
      rw [List.takeWhile_cons_of_neg (by simpa [kd] using q)]; rfl
theorem same_f (t : ByteArray) (ht : t.size ≤ 1000000) (c : UInt8) (r : List UInt8) (e : t.data.toList = c :: r) (k : Nat) (hk : t.size ≤ k) : lexer_same.f k t = some ((run (kd c) (c :: r)).length : Int) := by
  have hz : t.size = r.length + 1 := by rw [← data_length, e, List.length_cons]
  have h := same_l0 t ht c r e (t.size - 1) k 1 rfl (by omega) (by omega)
  unfold lexer_same.f
  refine (show lexer_same.l0 k t 1 = lexer_same.l0 k t ((1 : Nat) : Int) from rfl).trans (h.trans ?_)
  rw [e, List.drop_one, List.tail_cons]
  unfold run
  rw [List.takeWhile_cons_of_pos (by simp), List.length_cons]
  congr 2; omega
theorem ext_ba (s : ByteArray) (a b : Nat) : s.extract a b = ba ((s.data.toList.drop a).take (b - a)) := ba_of (Lib.extract_data ..)
theorem symL_le (L : List UInt8) : 0 ≤ symL L ∧ symL L ≤ (L.length : Int) := by
  match L with
  | [] => exact ⟨Int.le_refl _, Int.le_refl _⟩
  | a :: r =>
    rcases symL_cases a r with h | h | ⟨b, l, rfl, h, _⟩
    · rw [h.1]; exact ⟨by omega, by omega⟩
    · rw [h.1, List.length_cons]; exact ⟨by omega, by omega⟩
    · rw [h, List.length_cons, List.length_cons]; exact ⟨by omega, by omega⟩
theorem symbol_zero (t : ByteArray) : chars_Symbol.f t 0 = some (symL t.data.toList, 0) := by
  unfold chars_Symbol.f
  rw [if_neg (by omega), symT_L, Lib.extract_data]
  simp only [Int.toNat_zero, List.drop_zero, Nat.sub_zero]
  rw [List.take_of_length_le (by rw [data_length]; exact Nat.le_refl _)]
theorem token_f (t : ByteArray) (ht : t.size ≤ 1000000) (c : UInt8) (r : List UInt8) (e : t.data.toList = c :: r) (k : Nat) (hk : t.size ≤ k) : lexer_token.f k t = some ((tok (c :: r)).1, ba (tok (c :: r)).2, 0) := by
  have h0 : bt t 0 = c.toNat := bt_list t 0 c (by rw [e]; rfl)
  have hz : t.size = r.length + 1 := by rw [← data_length, e, List.length_cons]
  have hR : ∀ q, ((run q (c :: r)).length : Int) ≤ (t.size : Int) := fun q => by have := run_len q (c :: r); rw [List.length_cons] at this; omega
  unfold lexer_token.f
  rw [if_pos (by omega), h0]
  simp only [chars_Kind.f, Option.bind_some]
  have hext : ∀ n : Nat, t.extract 0 ((n : Int)).toNat = ba ((c :: r).take n) := fun n => by rw [Int.toNat_natCast, ext_ba, e, List.drop_zero, Nat.sub_zero]
  by_cases h2 : kindOf (c.toNat : Int) = 2
  · have k2 : kd c = 2 := h2
    rw [if_pos h2, same_f t ht c r e k hk, k2]
    simp only [Option.bind_some]
    rw [if_pos (by omega), if_pos (hR 2), hext, ← run_take]
    simp only [tok, if_pos k2]
  · have k2 : ¬ kd c = 2 := h2
    rw [if_neg h2]
    by_cases h3 : kindOf (c.toNat : Int) = 3
    · have k3 : kd c = 3 := h3
      rw [if_pos h3, same_f t ht c r e k hk, k3]
      simp only [Option.bind_some]
      rw [if_pos (by omega), if_pos (hR 3), hext, ← run_take]
      simp only [tok, if_neg k2, if_pos k3]
    · have k3 : ¬ kd c = 3 := h3
      have hs := symL_le (c :: r)
      rw [if_neg h3, symbol_zero, e]
      simp only [Option.bind_some]
      rw [List.length_cons] at hs
      rw [if_pos hs.1, if_pos (by omega), ext_ba, e, List.drop_zero, Nat.sub_zero]
      simp only [tok, if_neg k2, if_neg k3]
theorem check_f (k : Nat) (hk : 0 < k) (q : Int) (t : ByteArray) (a : Int) (ht : t.size ≤ 140737488351232) : lexer_check.f k q t a = some (chk q t.data.toList) := by
  obtain ⟨k, rfl⟩ : ∃ m, k = m + 1 := ⟨k - 1, by omega⟩
  have hz : (t.size : Int) = (t.data.toList.length : Int) := by rw [data_length]
  have hba : ba t.data.toList = t := (ba_of rfl).symm
  unfold lexer_check.f chk
  by_cases h1 : q = 1
  · rw [if_pos h1, if_pos h1]; unfold ints_Read.f; rw [if_pos ht]; rfl
  rw [if_neg h1, if_neg h1]
  by_cases h2 : q = 2
  · rw [if_pos h2, if_pos h2, hba]; unfold chars_Word.f; simp only [Option.bind_some]
    cases isWord t <;> rfl
  rw [if_neg h2, if_neg h2]
  by_cases h3 : q = 3
  · rw [if_pos h3, if_pos h3, symbol_zero]
    simp only [Option.bind_some, if_true]
    by_cases h4 : symL t.data.toList > 0
    · rw [if_pos h4, hz]
      simp only [lexer_check.j0]
      by_cases h5 : symL t.data.toList = (t.data.toList.length : Int)
      · rw [if_pos (beq_t h5), if_pos ⟨h4, h5⟩]
      · rw [if_neg (by rw [beq_f h5]; simp), if_neg (fun h => h5 h.2)]
    · rw [if_neg h4, if_neg (fun h => h4 h.1)]
      simp only [lexer_check.j0]; rfl
  · rw [if_neg h3, if_neg h3]
theorem all_l0 (s : ByteArray) (hs : s.size ≤ 400) {a n : Nat} {L : List UInt8} {ts : List S30} {m : Nat} {e : Int} (h : Scan a n L ts m e) : ∀ (k : Nat) (acc : List S30), a ≤ s.size → s.data.toList.drop a = L → acc.length = n → L.length < k → n ≤ a →
    lexer_All.l0 k s acc (a : Int) = some (if e = 0 then (acc ++ ts, (m : Int), 0) else ([], (m : Int), e)) := by
  have hlen : ∀ a, (s.data.toList.drop a).length = s.size - a := fun a => by rw [List.length_drop, data_length]
  have hbt : ∀ a c r, s.data.toList.drop a = c :: r → bt s ((a : Nat) : Int) = c.toNat ∧ a < s.size := fun a c r h => by
    refine ⟨bt_list s a c ?_, ?_⟩
    · have := congrArg (fun l => l[0]?) h
      simpa using this
    · have := hlen a; rw [h, List.length_cons] at this; omega
  induction h with
  | done a n =>
    intro k acc ha hL hn hk _
    obtain ⟨k, rfl⟩ : ∃ m, k = m + 1 := ⟨k - 1, by omega⟩
    have := hlen a
    rw [hL, List.length_nil] at this
    simp only [lexer_All.l0]
    rw [if_neg (by omega), if_pos trivial, List.append_nil, show (s.size : Int) = (a : Int) by omega]
  | @blank a n c r ts m e hb _ ih =>
    intro k acc ha hL hn hk hna
    obtain ⟨k, rfl⟩ : ∃ m, k = m + 1 := ⟨k - 1, by omega⟩
    obtain ⟨hc, hlt⟩ := hbt a c r hL
    have hL' : s.data.toList.drop (a + 1) = r := by rw [← List.drop_drop, hL]; rfl
    have hi := ih k acc (by omega) hL' hn (by rw [List.length_cons] at hk; omega) (by omega)
    simp only [lexer_All.l0, chars_Kind.f, Option.bind_some]
    rw [if_pos (by omega), if_pos (by omega), hc, if_pos (show kindOf (c.toNat : Int) = 1 from hb)]
    rw [show wrap64 ((a : Int) + 1) = ((a + 1 : Nat) : Int) by clear hi ih; unfold wrap64; omega]
    exact hi
  | @many a c r hb =>
    intro k acc ha hL hn hk _
    obtain ⟨k, rfl⟩ : ∃ m, k = m + 1 := ⟨k - 1, by omega⟩
    obtain ⟨hc, hlt⟩ := hbt a c r hL
    simp only [lexer_All.l0, chars_Kind.f, Option.bind_some]
    rw [if_pos (by omega), if_pos (by omega), hc, if_neg (show ¬ kindOf (c.toNat : Int) = 1 from hb), if_pos (by rw [hn]; rfl), if_neg (by decide)]
  | @bad a n c r e hb hn200 hchk he =>
    intro k acc ha hL hn hk _
    obtain ⟨k, rfl⟩ : ∃ m, k = m + 1 := ⟨k - 1, by omega⟩
    have hk0 : 0 < k := by rw [List.length_cons] at hk; omega
    obtain ⟨hc, hlt⟩ := hbt a c r hL
    have hsz : (s.extract a s.size).data.toList = c :: r := by rw [Lib.extract_data, List.take_of_length_le (by rw [hlen]; exact Nat.le_refl _), hL]
    have hss : (s.extract a s.size).size = s.size - a := by rw [← data_length, hsz, ← hL, hlen]
    have hle := hlen a
    rw [hL] at hle
    have htk := token_f (s.extract a s.size) (by omega) c r hsz k (by omega)
    have htl := tok_len (c :: r)
    simp only [lexer_All.l0, chars_Kind.f, Option.bind_some]
    rw [if_pos (by omega), if_pos (by omega), hc, if_neg (show ¬ kindOf (c.toNat : Int) = 1 from hb), if_neg (by omega), if_pos (by omega), Int.toNat_natCast, htk]
    simp only [Option.bind_some]
    rw [check_f k hk0 _ _ _ (by rw [ba_size]; omega), ba_data, hchk]
    simp only [Option.bind_some]
    rw [if_neg he, if_neg he]
  | @tok a n c r ts m e hb hn200 hchk _ ih =>
    intro k acc ha hL hn hk hna
    obtain ⟨k, rfl⟩ : ∃ m, k = m + 1 := ⟨k - 1, by omega⟩
    have hk0 : 0 < k := by rw [List.length_cons] at hk; omega
    obtain ⟨hc, hlt⟩ := hbt a c r hL
    have hsz : (s.extract a s.size).data.toList = c :: r := by rw [Lib.extract_data, List.take_of_length_le (by rw [hlen]; exact Nat.le_refl _), hL]
    have hss : (s.extract a s.size).size = s.size - a := by rw [← data_length, hsz, ← hL, hlen]
    have hle := hlen a
    rw [hL] at hle
    have htk := token_f (s.extract a s.size) (by omega) c r hsz k (by omega)
    have htl := tok_len (c :: r)
    have hp := tok_pos hchk
    have hi := ih k (acc ++ [⟨(tok (c :: r)).1, ba (tok (c :: r)).2, (a : Int)⟩]) (by omega) (by rw [← List.drop_drop, hL]) (by rw [List.length_append, hn]; rfl) (by rw [List.length_drop]; omega) (by omega)
    simp only [lexer_All.l0, chars_Kind.f, Option.bind_some]
    rw [if_pos (by omega), if_pos (by omega), hc, if_neg (show ¬ kindOf (c.toNat : Int) = 1 from hb), if_neg (by omega), if_pos (by omega), Int.toNat_natCast, htk]
    simp only [Option.bind_some]
    rw [check_f k hk0 _ _ _ (by rw [ba_size]; omega), ba_data, hchk]
    simp only [Option.bind_some]
    rw [if_pos trivial, if_pos (by omega), ba_size]
    rw [show wrap64 ((a : Int) + ((tok (c :: r)).2.length : Int)) = ((a + (tok (c :: r)).2.length : Nat) : Int) by clear hi ih; unfold wrap64; omega]
    rw [hi, List.append_assoc]; rfl
/-- what All gives -/
def res (ts : List S30) (m : Nat) (e : Int) : List S30 × Int × Int := if e = 0 then (ts, (m : Int), 0) else ([], (m : Int), e)
theorem all_f (s : ByteArray) (hs : s.size ≤ 400) {ts : List S30} {m : Nat} {e : Int} (h : Scan 0 0 s.data.toList ts m e) (k : Nat) (hk : s.size < k) : lexer_All.f k s = some (res ts m e) := by
  unfold lexer_All.f
  rw [if_neg (by omega)]
  have := all_l0 s hs h k [] (by omega) rfl rfl (by rw [data_length]; exact hk) (Nat.le_refl _)
  simpa [res] using this
theorem all_great (s : ByteArray) (hs : 400 < s.size) (k : Nat) : lexer_All.f k s = some ([], 0, 4) := by
  unfold lexer_All.f
  rw [if_pos (by omega)]
theorem all_fuel (s : ByteArray) (k : Nat) (hk : 401 ≤ k) : lexer_All.f k s = lexer_All.f 401 s := by
  by_cases h : s.size ≤ 400
  · obtain ⟨ts, m, e, hs⟩ := scan_total _ s.data.toList 0 0 (Nat.le_refl _)
    rw [all_f s h hs k (by omega), all_f s h hs 401 (by omega)]
  · rw [all_great s (by omega), all_great s (by omega)]
end Go.Proofs.YtdccajohjknnbaaDoor.Pure
