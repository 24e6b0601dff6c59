/- LexerCovers: each token is valid, stands where it says, they do not overlap, and only blanks are between them (a text of at most 1,000 bytes); the plain law over the functions that the program computes. -/
import Derived.Test.YtdccajohjknnbaaDoorPureD
import Derived.Test.YtdccajohjknnbaaDoorPureF
import Derived.Test.YtdccajohjknnbaaDoorQx11
namespace Go.Proofs.YtdccajohjknnbaaDoor.Pure
open Go.RowKit Go.Proofs.YtdccajohjknnbaaDoor.Hand Go.Proofs.YtdccajohjknnbaaDoor.Q Go.Proofs.YtdccajohjknnbaaDoorW.PrintWords Go.Proofs.YtdccajohjknnbaaDoorW.PrintLast Go.Proofs.YtdccajohjknnbaaDoorW.PrintMore
set_option linter.unusedVariables false
theorem covers_l1 (s : ByteArray) (hs : s.size ≤ 1000000) (l : List S30) (x4 x7 : Int) (b : Nat) (hb : b ≤ s.size) (j : Nat) : ∀ (k p : Nat), p + j = b → (∀ i, p ≤ i → i < b → ∀ c, s.data.toList[i]? = some c → kd c = 1) →
    tailwaterlaw03_LexerCovers.l1 (k + j) s l x4 x7 (b : Int) (p : Int) = tailwaterlaw03_LexerCovers.l1 k s l x4 x7 (b : Int) (b : Int) := by
  induction j with
  | zero => intro k p hp _; rw [Nat.add_zero] at hp; subst hp; rfl
  | succ j ih =>
    intro k p hp hbl
    have hlt : p < s.data.toList.length := by rw [data_length]; omega
    have hk := hbl p (Nat.le_refl _) (by omega) _ (List.getElem?_eq_getElem hlt)
    have hbt : bt s (p : Int) = (s.data.toList[p]).toNat := bt_list s p _ (List.getElem?_eq_getElem hlt)
    have hih := ih k (p + 1) (by omega) (fun i h1 h2 => hbl i (by omega) h2)
    have hw : wrap64 ((p : Int) + 1) = ((p + 1 : Nat) : Int) := by clear ih hih; unfold wrap64; omega
    rw [← hih, ← Nat.add_assoc]
    generalize k + j = q
    rw [tailwaterlaw03_LexerCovers.l1]
    rw [if_pos (by omega), if_pos (by omega), if_pos (by omega), hbt]
    simp only [chars_Kind.f, Option.bind_some]
    rw [if_pos (show kindOf ((s.data.toList[p]).toNat : Int) = 1 from hk), hw]
theorem covers_l0 (s : ByteArray) (hs : s.size ≤ 400) (l : List S30) : ∀ (ts : List S30) (a n m i k : Nat) (L : List UInt8), Scan a n L ts m 0 → a ≤ s.size → s.data.toList.drop a = L → l.drop i = ts → i + ts.length = l.length → l.length ≤ 1000 → 3000 + 10 * ts.length + L.length < k →
    tailwaterlaw03_LexerCovers.l0 k s l (s.size : Int) (a : Int) (i : Int) = some true := by
  intro ts
  induction ts with
  | nil =>
    intro a n m i k L h ha hL hd hi hl hk
    rw [List.length_nil] at hi hk
    have hlen : L.length = s.size - a := by rw [← hL, List.length_drop, data_length]
    have hbl := nil_inv h rfl rfl
    obtain ⟨k, rfl⟩ : ∃ q, k = (q + (s.size - a)) + 1 + 1 + 1 := ⟨k - 3 - (s.size - a), by omega⟩
    have h1 := covers_l1 s (by omega) l (s.size : Int) (i : Int) s.size (Nat.le_refl _) (s.size - a) k a (by omega) (fun j h1 h2 c hc => hbl c (by
      rw [← hL]
      refine List.mem_of_getElem? (i := j - a) ?_
      rw [List.getElem?_drop, show a + (j - a) = j by omega]; exact hc))
    rw [tailwaterlaw03_LexerCovers.l0]
    rw [if_pos (by omega), if_neg (by omega), tailwaterlaw03_LexerCovers.j1, if_neg (by omega), show decide ((s.size : Int) > (s.size : Int)) = false from decide_eq_false (by omega)]
    rw [tailwaterlaw03_LexerCovers.j2, if_neg (by decide), h1]
    obtain ⟨k, rfl⟩ : ∃ q, k = q + 1 := ⟨k - 1, by omega⟩
    rw [tailwaterlaw03_LexerCovers.l1, if_neg (by omega), if_pos (by omega), if_pos rfl, alive_any k (by omega)]; rfl
  | cons t ts ih =>
    intro a n m i k L h ha hL hd hi hl hk
    rw [List.length_cons] at hi hk
    have hlen : L.length = s.size - a := by rw [← hL, List.length_drop, data_length]
    obtain ⟨B, c, r, hLB, hB, hc, hn, hte, hck, hs'⟩ := cons_inv h t ts rfl rfl
    have hli : i < l.length := by omega
    have hget : l[i] = t := by
      have h1 := congrArg (fun x => x[0]?) hd
      simp only [List.getElem?_drop, Nat.add_zero, List.getElem?_cons_zero] at h1
      rw [List.getElem?_eq_getElem hli] at h1
      exact Option.some.inj h1
    have hdi : l.drop (i + 1) = ts := by rw [← List.drop_drop, hd]; rfl
    have hL2 : L.length = B.length + (r.length + 1) := by rw [hLB, List.length_append, List.length_cons]
    have htl := tok_len (c :: r)
    rw [List.length_cons] at htl
    have hdr : s.data.toList.drop (a + B.length) = c :: r := by rw [← List.drop_drop, hL, hLB]; simp
    have f1 : t.f1 = ba (tok (c :: r)).2 := by rw [hte]
    have f0 : t.f0 = (tok (c :: r)).1 := by rw [hte]
    have f2 : t.f2 = ((a + B.length : Nat) : Int) := by rw [hte]
    obtain ⟨k, rfl⟩ : ∃ q, k = ((q + 1 + 1) + B.length) + 1 + 1 + 1 := ⟨k - 5 - B.length, by omega⟩
    have h1 := covers_l1 s (by omega) l (s.size : Int) (i : Int) (a + B.length) (by omega) B.length (k + 1 + 1) a rfl (fun j h1 h2 c hc => hB c (by
      refine List.mem_of_getElem? (i := j - a) ?_
      have e1 : L[j - a]? = some c := by rw [← hL, List.getElem?_drop, show a + (j - a) = j by omega]; exact hc
      rw [hLB, List.getElem?_append_left (by omega)] at e1
      exact e1))
    have hval := valid_f (k + 1) (by clear h1 ih; omega) t.f0 t.f1 t.f2 (by rw [f1, ba_size]; omega)
    rw [f1, ba_data, f0, hck, decide_eq_true (rfl : (0 : Int) = 0), f2] at hval
    have hw : wrap64 (((a + B.length : Nat) : Int) + ((tok (c :: r)).2.length : Int)) = ((a + B.length + (tok (c :: r)).2.length : Nat) : Int) := by clear h1 ih hval; unfold wrap64; omega
    have hwi : wrap64 ((i : Int) + 1) = ((i + 1 : Nat) : Int) := by clear h1 ih hval hw; unfold wrap64; omega
    rw [tailwaterlaw03_LexerCovers.l0]
    rw [if_pos (by clear h1 ih hval hw hwi; omega), if_pos (by clear h1 ih hval hw hwi; omega), if_pos (by clear h1 ih hval hw hwi; omega), rd_get l i hli, hget, f2, tailwaterlaw03_LexerCovers.j1, if_neg (by clear h1 ih hval hw hwi; omega), show decide (((a + B.length : Nat) : Int) > (s.size : Int)) = false from decide_eq_false (by clear h1 ih hval hw hwi; omega)]
    rw [tailwaterlaw03_LexerCovers.j2, if_neg (by decide), h1]
    rw [tailwaterlaw03_LexerCovers.l1, if_neg (by clear h1 ih hval hw hwi; omega), if_neg (by clear h1 ih hval hw hwi; omega), if_pos (by clear h1 ih hval hw hwi; omega), if_pos (by clear h1 ih hval hw hwi; omega), rd_get l i hli, hget, f1, ba_size, hw, f0, f2]
    have hext : (s.extract (((a + B.length : Nat) : Int)).toNat (((a + B.length + (tok (c :: r)).2.length : Nat) : Int)).toNat).toList = (ba (tok (c :: r)).2).toList := by
      rw [Int.toNat_natCast, Int.toNat_natCast, ext_ba, hdr, Nat.add_sub_cancel_left, ← tok_take]
    rw [if_neg (by clear h1 ih hval hw hwi; omega), if_pos (by clear h1 ih hval hw hwi; omega), if_pos (by clear h1 ih hval hw hwi; omega), if_pos (by clear h1 ih hval hw hwi; omega), if_pos hext, hval, Option.bind_some]
    rw [tailwaterlaw03_LexerCovers.j4, if_neg (by decide), hwi]
    exact ih (a + B.length + (tok (c :: r)).2.length) (n + 1) m (i + 1) k _ hs' (by clear h1 ih hval hw hwi; omega) (by rw [← List.drop_drop, hdr]) hdi (by clear h1 ih hval hw hwi; omega) hl (by clear h1 ih hval hw hwi; rw [List.length_drop, List.length_cons]; omega)
theorem LexerCovers : tailwaterlaw03_LexerCovers.Pure := by
  intro s hs
  refine ⟨10000, ?_⟩
  unfold tailwaterlaw03_LexerCovers.f
  by_cases h1000 : (s.size : Int) > 1000
  · rw [if_pos h1000, alive_any 10000 (by omega)]; rfl
  rw [if_neg h1000]
  by_cases h : s.size ≤ 400
  · obtain ⟨ts, m, e, hsc⟩ := scan_total _ s.data.toList 0 0 (Nat.le_refl _)
    have hE := scan_end hsc
    rw [Nat.zero_add, data_length] at hE
    rw [all_f s h hsc 10000 (by omega), Option.bind_some]
    unfold res
    by_cases he : e = 0
    · subst he
      rw [if_pos rfl, if_pos rfl]
      have hm := hE.2.1 rfl
      subst hm
      exact covers_l0 s h ts ts 0 0 _ 0 10000 _ hsc (by omega) rfl rfl (by omega) (by omega) (by rw [data_length]; omega)
    · have hm := hE.2.2.1 he
      rw [if_neg he, if_neg he, if_pos (by rfl), if_pos (show (m : Int) ≥ 0 by omega), if_pos (show (m : Int) < (s.size : Int) by omega), alive_any 10000 (by omega)]; rfl
  · rw [all_great s (by omega), Option.bind_some, if_neg (by decide), if_pos (by rfl), if_pos (by decide), if_pos (show (0 : Int) < (s.size : Int) by omega), alive_any 10000 (by omega)]; rfl
end Go.Proofs.YtdccajohjknnbaaDoor.Pure
