/- The reference of chapter 3 gives the same: Read, run, Next, All, Valid. -/
import Derived.Test.YtdccajohjknnbaaDoorPureC
import Derived.Test.YtdccajohjknnbaaDoorQx7
namespace Go.Proofs.YtdccajohjknnbaaDoor.Pure
open Go.RowKit Go.Proofs.YtdccajohjknnbaaDoor.Hand Go.Proofs.YtdccajohjknnbaaDoor.Q Go.Proofs.YtdccajohjknnbaaDoorW.PrintWords Go.Proofs.YtdccajohjknnbaaDoorW.PrintLast Go.Proofs.YtdccajohjknnbaaDoorW.PrintMore
set_option linter.unusedVariables false
theorem read_l1 (t : ByteArray) (ht : t.size ≤ 1000000) (d : Nat) : ∀ (k i n : Nat), t.size - i = d → i ≤ t.size → d < k → n ≤ 9223372036854775807 → (t.data.toList.drop i).all digB = true →
    tailwaterref01_Read.l1 k t (n : Int) (i : Int) = some (if decFrom n (t.data.toList.drop i) ≤ 9223372036854775807 then ((decFrom n (t.data.toList.drop i) : Int), 0) else (0, 16)) := by
  induction d with
  | zero =>
    intro k i n hd hi hk hn _
    obtain ⟨k, rfl⟩ : ∃ m, k = m + 1 := ⟨k - 1, by omega⟩
    simp only [tailwaterref01_Read.l1]; rw [if_neg (by omega), List.drop_of_length_le (by rw [data_length]; omega), if_pos (show decFrom n [] ≤ 9223372036854775807 from hn)]; rfl
  | succ d ih =>
    intro k i n hd hi hk hn hall
    obtain ⟨k, rfl⟩ : ∃ m, k = m + 1 := ⟨k - 1, by omega⟩
    have hlt : i < t.data.toList.length := by rw [data_length]; omega
    rw [List.drop_eq_getElem_cons hlt] at hall ⊢
    rw [List.all_cons, Bool.and_eq_true] at hall
    have hc := digB_iff.1 hall.1
    have hb : bt t (i : Int) = (t.data.toList[i]).toNat := bt_list t i _ (List.getElem?_eq_getElem hlt)
    generalize t.data.toList[i] = c at hb hc ⊢
    have hw : wrap64 ((i : Int) + 1) = ((i + 1 : Nat) : Int) := by clear ih; unfold wrap64; omega
    have hm : ((c.toNat : Int) - 48) % 256 = ((c.toNat - 48 : Nat) : Int) := by clear ih hw; omega
    have hD : decFrom n (c :: t.data.toList.drop (i + 1)) = decFrom (n * 10 + (c.toNat - 48)) (t.data.toList.drop (i + 1)) := rfl
    have hge := decFrom_ge (t.data.toList.drop (i + 1)) (n * 10 + (c.toNat - 48))
    simp only [tailwaterref01_Read.l1]
    rw [if_pos (by clear ih hw; omega), if_pos (by clear ih hw; omega), hb, hm, hD]
    by_cases h1 : n * 10 + (c.toNat - 48) ≤ 9223372036854775807
    · have hih := ih k (i + 1) (n * 10 + (c.toNat - 48)) (by omega) (by omega) (by omega) h1 hall.2
      have q1 : ¬ (n : Int) > (9223372036854775807 - ((c.toNat - 48 : Nat) : Int)) / 10 := by clear ih hih hw; omega
      have q2 : wrap64 (10 * (n : Int)) = 10 * (n : Int) := by clear ih hih hw; unfold wrap64; omega
      have q3 : wrap64 (10 * (n : Int) + ((c.toNat - 48 : Nat) : Int)) = ((n * 10 + (c.toNat - 48) : Nat) : Int) := by clear ih hih hw q2; unfold wrap64; omega
      rw [if_neg q1, q2, q3, hw]
      exact hih
    · have q1 : (n : Int) > (9223372036854775807 - ((c.toNat - 48 : Nat) : Int)) / 10 := by clear ih hw; omega
      rw [if_pos q1, if_neg (by clear ih hw; omega)]
theorem read_l0 (t : ByteArray) (ht : t.size ≤ 1000000) (d : Nat) : ∀ (k i : Nat), t.size - i = d → i ≤ t.size → d < k →
    tailwaterref01_Read.l0 k t (i : Int) = if (t.data.toList.drop i).all digB = true then tailwaterref01_Read.l1 (k - d - 1) t 0 0 else some (0, 12) := by
  induction d with
  | zero =>
    intro k i hd hi hk
    obtain ⟨k, rfl⟩ : ∃ m, k = m + 1 := ⟨k - 1, by omega⟩
    simp only [tailwaterref01_Read.l0]; rw [if_neg (by omega), List.drop_of_length_le (by rw [data_length]; omega)]; rfl
  | succ d ih =>
    intro k i hd hi hk
    obtain ⟨k, rfl⟩ : ∃ m, k = m + 1 := ⟨k - 1, by omega⟩
    have hlt : i < t.data.toList.length := by rw [data_length]; omega
    have hih := ih k (i + 1) (by omega) (by omega) (by omega)
    have hb : bt t (i : Int) = (t.data.toList[i]).toNat := bt_list t i _ (List.getElem?_eq_getElem hlt)
    have hw : wrap64 ((i : Int) + 1) = ((i + 1 : Nat) : Int) := by clear ih hih; unfold wrap64; omega
    rw [List.drop_eq_getElem_cons hlt, List.all_cons]
    generalize t.data.toList[i] = c at hb ⊢
    simp only [tailwaterref01_Read.l0]
    rw [if_pos (by clear ih hih hw; omega), if_pos (by clear ih hih hw; omega), hb]
    by_cases h1 : c.toNat < 48
    · have : digB c = false := by cases h : digB c with | false => rfl | true => exact absurd (digB_iff.1 h).1 (by omega)
      rw [if_pos (by omega), this]; rfl
    · rw [if_neg (show ¬ (c.toNat : Int) < 48 by omega)]
      by_cases h2 : c.toNat > 57
      · have : digB c = false := by cases h : digB c with | false => rfl | true => exact absurd (digB_iff.1 h).2 (by omega)
        rw [if_pos (by omega), this]; rfl
      · have : digB c = true := digB_iff.2 ⟨by omega, by omega⟩
        rw [if_neg (by omega), this, Bool.true_and, hw, hih]
        congr 2; omega
theorem read_ref (t : ByteArray) (ht : t.size ≤ 1000000) (k : Nat) (hk : 2 * t.size + 1 < k) : tailwaterref01_Read.f k t = some (readL t.data.toList) := by
  unfold tailwaterref01_Read.f readL
  rw [ByteArray.toList_eq]
  by_cases h0 : t.data.toList = []
  · rw [if_pos h0, if_pos h0]
  · rw [if_neg h0, if_neg h0]
    refine (read_l0 t ht t.size k 0 (by omega) (by omega) (by omega)).trans ?_
    rw [List.drop_zero]
    by_cases h1 : t.data.toList.all digB = true
    · rw [if_pos h1, if_pos h1]
      exact (read_l1 t ht t.size _ 0 0 (by omega) (by omega) (by omega) (by omega) h1)
    · rw [if_neg h1, if_neg h1]
theorem run_ref (s : ByteArray) (hs : s.size ≤ 1000000) (q : Int) (d : Nat) : ∀ (k a : Nat), s.size - a = d → a ≤ s.size → d + 60 < k →
    tailwaterref03_run.l0 k s (a : Int) q = some ((a + (run q (s.data.toList.drop a)).length : Nat) : Int) := by
  induction d with
  | zero =>
    intro k i hd hi hk
    obtain ⟨k, rfl⟩ : ∃ m, k = m + 1 := ⟨k - 1, by omega⟩
    simp only [tailwaterref03_run.l0]; rw [if_neg (by omega), List.drop_of_length_le (by rw [data_length]; omega)]; rfl
  | succ d ih =>
    intro k i hd hi hk
    obtain ⟨k, rfl⟩ : ∃ m, k = m + 1 := ⟨k - 1, by omega⟩
    have hlt : i < s.data.toList.length := by rw [data_length]; omega
    have hih := ih k (i + 1) (by omega) (by omega) (by omega)
    have hb : bt s (i : Int) = (s.data.toList[i]).toNat := bt_list s i _ (List.getElem?_eq_getElem hlt)
    have hw : wrap64 ((i : Int) + 1) = ((i + 1 : Nat) : Int) := by clear ih hih; unfold wrap64; omega
    rw [List.drop_eq_getElem_cons hlt]
    generalize s.data.toList[i] = c at hb ⊢
    have hc : c.toNat < 256 := c.toNat_lt
    simp only [tailwaterref03_run.l0]
    rw [if_pos (by clear ih hih hw; omega), if_pos (by clear ih hih hw; omega), hb, kind_ref k (by omega) _ (by omega) (by omega), Option.bind_some]
    by_cases e : kindOf (c.toNat : Int) = q
    · rw [if_pos e, hw, hih]
      unfold run
      rw [List.takeWhile_cons_of_pos (by simpa [kd] using e), List.length_cons]
      congr 2; omega
    · rw [if_neg e]
      unfold run
      rw [List.takeWhile_cons_of_neg (by simpa [kd] using e)]; rfl
theorem symL_take (c : UInt8) (r : List UInt8) : symL ((c :: r).take (symL (c :: r)).toNat) = symL (c :: r) := by
  rcases symL_cases c r with h | h | ⟨b, l, rfl, h, _, _, h2⟩
  · rw [h.1]; rfl
  · rw [h.1]; exact h.2.2.1
  · rw [h]; exact h2 []
theorem chk_sym {c : UInt8} {r : List UInt8} (h2 : kd c ≠ 2) (h3 : kd c ≠ 3) : chk (tok (c :: r)).1 (tok (c :: r)).2 = if symL (c :: r) = 0 then 32 else 0 := by
  simp only [tok, if_neg h2, if_neg h3]
  unfold chk
  rw [if_neg (by decide), if_neg (by decide), if_pos rfl, symL_take]
  have hs := symL_le (c :: r)
  rw [List.length_take]
  by_cases h : symL (c :: r) = 0
  · rw [if_pos h, if_neg (by omega)]
  · rw [if_neg h, if_pos (by omega)]
/-- Next gives the token, or its error -/
theorem next_f (s : ByteArray) (hs : s.size ≤ 1000) (k a : Nat) (hk : 2200 < k) {c : UInt8} {r : List UInt8} (hL : s.data.toList.drop a = c :: r) (hb : kd c ≠ 1) :
    ∃ q t b, tailwaterref03_Next.f k s (a : Int) = some (q, t, b, chk (tok (c :: r)).1 (tok (c :: r)).2) ∧ (chk (tok (c :: r)).1 (tok (c :: r)).2 = 0 → q = (tok (c :: r)).1 ∧ t = ba (tok (c :: r)).2 ∧ b = (a : Int)) := by
  have hlen : (s.data.toList.drop a).length = s.size - a := by rw [List.length_drop, data_length]
  have hlt : a < s.size := by rw [hL, List.length_cons] at hlen; omega
  have hc : bt s (a : Int) = c.toNat := bt_list s a c (by have := congrArg (fun l => l[0]?) hL; simpa using this)
  have hc256 : c.toNat < 256 := c.toNat_lt
  have hlen' : (c :: r).length = s.size - a := by rw [← hL]; exact hlen
  have hrl : ∀ q, a + (run q (c :: r)).length ≤ s.size := fun q => by have := run_len q (c :: r); rw [hlen'] at this; omega
  have hext : ∀ n : Nat, s.extract ((a : Int)).toNat (((a + n : Nat) : Int)).toNat = ba ((c :: r).take n) := fun n => by rw [Int.toNat_natCast, Int.toNat_natCast, ext_ba, hL, Nat.add_sub_cancel_left]
  unfold tailwaterref03_Next.f tailwaterref03_run.f
  rw [if_pos (by omega), if_pos (by omega), hc, kind_ref k (by omega) _ (by omega) (by omega), Option.bind_some]
  by_cases h2 : kindOf (c.toNat : Int) = 2
  · have k2 : kd c = 2 := h2
    have hrr := run_len 2 (c :: r)
    rw [hlen'] at hrr
    rw [if_pos h2, run_ref s (by omega) 2 (s.size - a) k a rfl (by omega) (by omega), hL, Option.bind_some, if_pos (by omega), if_pos (by have := hrl 2; omega), hext, ← run_take]
    rw [read_ref _ (by rw [ba_size]; omega) k (by rw [ba_size]; omega), Option.bind_some, ba_data]
    simp only [tok, if_pos k2]
    exact ⟨_, _, _, rfl, fun _ => ⟨rfl, rfl, rfl⟩⟩
  · have k2 : ¬ kd c = 2 := h2
    rw [if_neg h2]
    by_cases h3 : kindOf (c.toNat : Int) = 3
    · have k3 : kd c = 3 := h3
      rw [if_pos h3, run_ref s (by omega) 3 (s.size - a) k a rfl (by omega) (by omega), hL, Option.bind_some, if_pos (by omega), if_pos (by have := hrl 3; omega), hext, ← run_take, word_ref k (by omega), Option.bind_some]
      simp only [tok, if_neg k2, if_pos k3]
      cases hw : isWord (ba (run 3 (c :: r))) with
      | true =>
        have : chk 2 (run 3 (c :: r)) = 0 := by unfold chk; rw [if_neg (by decide), if_pos rfl, if_pos hw]
        rw [this, if_pos rfl]
        exact ⟨_, _, _, rfl, fun _ => ⟨rfl, rfl, rfl⟩⟩
      | false =>
        have : chk 2 (run 3 (c :: r)) = 32 := by unfold chk; rw [if_neg (by decide), if_pos rfl, if_neg (by rw [hw]; decide)]
        rw [this, if_neg (by decide)]
        exact ⟨_, _, _, rfl, fun _ => ⟨rfl, rfl, rfl⟩⟩
    · have k3 : ¬ kd c = 3 := h3
      have hsl := symL_le (c :: r)
      rw [if_neg h3, longest_ref k (by omega) s a (by omega) (by omega), symT_L, Lib.extract_data, List.take_of_length_le (by rw [hlen]; exact Nat.le_refl _), hL, Option.bind_some, chk_sym k2 k3]
      by_cases h0 : symL (c :: r) = 0
      · rw [if_pos h0, if_pos h0]
        exact ⟨_, _, _, rfl, fun h => absurd h (by decide)⟩
      · rw [if_neg h0, if_neg h0]
        obtain ⟨n, hn⟩ := Int.eq_ofNat_of_zero_le hsl.1
        rw [hlen'] at hsl
        have hw : wrap64 ((a : Int) + symL (c :: r)) = ((a + n : Nat) : Int) := by rw [hn]; unfold wrap64; omega
        rw [hw, if_pos (by omega), if_pos (by omega), hext]
        simp only [tok, if_neg k2, if_neg k3]
        rw [hn]
        exact ⟨_, _, _, rfl, fun _ => ⟨rfl, rfl, rfl⟩⟩
theorem refall_l0 (s : ByteArray) (hs : s.size ≤ 400) {a n : Nat} {L : List UInt8} {ts : List S30} {m : Nat} {e : Int} (h : Scan a n L ts m e) : ∀ (k1 k2 : Nat) (acc : List S30), a ≤ s.size → s.data.toList.drop a = L → acc.length = n → L.length + 60 < k1 → L.length + 2201 < k2 → n ≤ a →
    ((tailwaterref03_run.l0 k1 s (a : Int) 1).bind fun t => tailwaterref03_All.l0 k2 s acc t) = some (if e = 0 then (acc ++ ts, (m : Int), 0) else ([], (m : Int), e)) := by
  have hlen : ∀ a, (s.data.toList.drop a).length = s.size - a := fun a => by rw [List.length_drop, data_length]
  have hbt : ∀ a c r, s.data.toList.drop a = c :: r → bt s ((a : Nat) : Int) = c.toNat ∧ a < s.size := fun a c r h => by
    refine ⟨bt_list s a c ?_, ?_⟩
    · have := congrArg (fun l => l[0]?) h
      simpa using this
    · have := hlen a; rw [h, List.length_cons] at this; omega
  have hstop : ∀ k a c r, s.data.toList.drop a = c :: r → kd c ≠ 1 → s.size - a + 60 < k → tailwaterref03_run.l0 k s ((a : Nat) : Int) 1 = some (a : Int) := fun k a c r h hb hk => by
    obtain ⟨_, hlt⟩ := hbt a c r h
    rw [run_ref s (by omega) 1 (s.size - a) k a rfl (by omega) hk, h]
    unfold run
    rw [List.takeWhile_cons_of_neg (by simpa using hb)]; rfl
  induction h with
  | done a n =>
    intro k1 k2 acc ha hL hn hk1 hk2 _
    obtain ⟨k2, rfl⟩ : ∃ m, k2 = m + 1 := ⟨k2 - 1, by omega⟩
    have := hlen a
    rw [hL, List.length_nil] at this
    rw [run_ref s (by omega) 1 (s.size - a) k1 a rfl ha (by rw [List.length_nil] at hk1; omega), hL]
    simp only [Option.bind_some, tailwaterref03_All.l0, run, List.takeWhile_nil, List.length_nil, Nat.add_zero]
    rw [if_neg (by omega), if_pos trivial, List.append_nil, show (s.size : Int) = (a : Int) by omega]
  | @blank a n c r ts m e hb _ ih =>
    intro k1 k2 acc ha hL hn hk1 hk2 hna
    obtain ⟨k1, rfl⟩ : ∃ m, k1 = m + 1 := ⟨k1 - 1, by omega⟩
    obtain ⟨hc, hlt⟩ := hbt a c r hL
    rw [List.length_cons] at hk1 hk2
    have hc256 : c.toNat < 256 := c.toNat_lt
    have hL' : s.data.toList.drop (a + 1) = r := by rw [← List.drop_drop, hL]; rfl
    have hi := ih k1 k2 acc (by omega) hL' hn (by omega) (by omega) (by omega)
    rw [← hi]
    simp only [tailwaterref03_run.l0]
    rw [if_pos (by clear hi ih; omega), if_pos (by clear hi ih; omega), hc, kind_ref k1 (by omega) _ (by omega) (by omega), Option.bind_some, if_pos (show kindOf (c.toNat : Int) = 1 from hb)]
    rw [show wrap64 ((a : Int) + 1) = ((a + 1 : Nat) : Int) by clear hi ih; unfold wrap64; omega]
  | @many a c r hb =>
    intro k1 k2 acc ha hL hn hk1 hk2 _
    obtain ⟨k2, rfl⟩ : ∃ m, k2 = m + 1 := ⟨k2 - 1, by omega⟩
    obtain ⟨hc, hlt⟩ := hbt a c r hL
    have hle := hlen a
    rw [hL] at hle
    rw [hstop k1 a c r hL hb (by omega)]
    simp only [Option.bind_some, tailwaterref03_All.l0]
    rw [if_pos (by omega), if_pos (by omega), if_neg (by decide)]
  | @bad a n c r e hb hn200 hchk he =>
    intro k1 k2 acc ha hL hn hk1 hk2 _
    obtain ⟨k2, rfl⟩ : ∃ m, k2 = m + 1 := ⟨k2 - 1, by omega⟩
    obtain ⟨hc, hlt⟩ := hbt a c r hL
    have hle := hlen a
    rw [hL] at hle
    obtain ⟨q, t, b, hN, _⟩ := next_f s (by omega) k2 a (by omega) hL hb
    rw [hstop k1 a c r hL hb (by omega)]
    simp only [Option.bind_some, tailwaterref03_All.l0]
    rw [if_pos (by omega), if_neg (by omega), hN, hchk]
    simp only [Option.bind_some]
    rw [if_neg he, if_neg he]
  | @tok a n c r ts m e hb hn200 hchk _ ih =>
    intro k1 k2 acc ha hL hn hk1 hk2 hna
    obtain ⟨k2, rfl⟩ : ∃ m, k2 = m + 1 := ⟨k2 - 1, by omega⟩
    obtain ⟨hc, hlt⟩ := hbt a c r hL
    have hle := hlen a
    rw [hL] at hle
    obtain ⟨q, t, b, hN, hz⟩ := next_f s (by omega) k2 a (by omega) hL hb
    obtain ⟨rfl, rfl, rfl⟩ := hz hchk
    have htl := tok_len (c :: r)
    have hp := tok_pos hchk
    have hi := ih k2 k2 (acc ++ [⟨(tok (c :: r)).1, ba (tok (c :: r)).2, (a : Int)⟩]) (by omega) (by rw [← List.drop_drop, hL]) (by rw [List.length_append, hn]; rfl) (by rw [List.length_drop]; omega) (by rw [List.length_drop]; omega) (by omega)
    rw [hstop k1 a c r hL hb (by omega)]
    simp only [Option.bind_some, tailwaterref03_All.l0, tailwaterref03_run.f]
    rw [if_pos (by omega), if_neg (by omega), hN, hchk]
    simp only [Option.bind_some]
    rw [if_pos trivial, if_pos (by omega), ba_size]
    rw [show wrap64 ((a : Int) + ((tok (c :: r)).2.length : Int)) = ((a + (tok (c :: r)).2.length : Nat) : Int) by clear hi ih; unfold wrap64; omega]
    rw [hi, List.append_assoc]; rfl
theorem refall_f (s : ByteArray) (k : Nat) (hk : 3000 < k) : tailwaterref03_All.f k s = lexer_All.f k s := by
  by_cases hs : s.size ≤ 400
  · obtain ⟨ts, m, e, h⟩ := scan_total _ s.data.toList 0 0 (Nat.le_refl _)
    rw [all_f s hs h k (by omega)]
    unfold tailwaterref03_All.f tailwaterref03_run.f
    rw [if_neg (by omega)]
    have := refall_l0 s hs h k k [] (by omega) rfl rfl (by rw [data_length]; omega) (by rw [data_length]; omega) (Nat.le_refl _)
    simpa [res] using this
  · rw [all_great s (by omega)]
    unfold tailwaterref03_All.f
    rw [if_pos (by omega)]
theorem valid_f (k : Nat) (hk : 2100 < k) (q : Int) (t : ByteArray) (a : Int) (ht : t.size ≤ 1000) : tailwaterref03_Valid.f k q t a = some (decide (chk q t.data.toList = 0)) := by
  have hz : (t.size : Int) = (t.data.toList.length : Int) := by rw [data_length]
  have hba : ba t.data.toList = t := (ba_of rfl).symm
  have hdec : ∀ a : Int, (a == 0) = decide (a = 0) := fun a => by by_cases h : a = 0 <;> simp [h]
  unfold tailwaterref03_Valid.f chk
  by_cases h1 : q = 1
  · rw [if_pos h1, if_pos h1, read_ref t (by omega) k (by omega)]
    simp only [Option.bind_some, hdec]
  rw [if_neg h1, if_neg h1]
  by_cases h2 : q = 2
  · rw [if_pos h2, if_pos h2, hba, word_ref k (by omega)]; simp only [Option.bind_some]
    cases isWord t <;> rfl
  rw [if_neg h2, if_neg h2]
  by_cases h3 : q = 3
  · rw [if_pos h3, if_pos h3]
    by_cases h4 : symL t.data.toList > 0
    · have hp : (t.size : Int) > 0 := by have := symL_le t.data.toList; omega
      rw [if_pos hp]
      have hl := longest_ref k (by omega) t 0 (by omega) (by omega)
      rw [symT_L, Lib.extract_data, List.drop_zero, List.take_of_length_le (by rw [data_length]; exact Nat.le_refl _)] at hl
      rw [show ((0 : Nat) : Int) = 0 from rfl] at hl
      rw [hl, Option.bind_some, hz]
      by_cases h5 : symL t.data.toList = (t.data.toList.length : Int)
      · rw [beq_t h5, if_pos ⟨h4, h5⟩]; rfl
      · rw [beq_f h5, if_neg (fun h => h5 h.2)]; rfl
    · rw [if_neg (show ¬ (symL t.data.toList > 0 ∧ symL t.data.toList = (t.data.toList.length : Int)) from fun h => h4 h.1)]
      by_cases hp : (t.size : Int) > 0
      · rw [if_pos hp]
        have hl := longest_ref k (by omega) t 0 (by omega) (by omega)
        rw [symT_L, Lib.extract_data, List.drop_zero, List.take_of_length_le (by rw [data_length]; exact Nat.le_refl _)] at hl
        rw [show ((0 : Nat) : Int) = 0 from rfl] at hl
        rw [hl, Option.bind_some, hz, beq_f (by have := symL_le t.data.toList; omega)]; rfl
      · rw [if_neg hp]; rfl
  · rw [if_neg h3, if_neg h3]; rfl
end Go.Proofs.YtdccajohjknnbaaDoor.Pure
