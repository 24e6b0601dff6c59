/- The program's kinds, symbols and words are the reference's: plain laws over the functions that are computed. -/
import Derived.Test.YtdccajohjknnbaaDoorHandC
import Derived.Test.YtdccajohjknnbaaDoorHandF
import Derived.Test.YtdccajohjknnbaaDoorQx7
namespace Go.Proofs.YtdccajohjknnbaaDoor.Pure
open Go.RowKit Go.Proofs.YtdccajohjknnbaaDoor.Hand Go.Proofs.YtdccajohjknnbaaDoor.Q Go.Proofs.YtdccajohjknnbaaDoorW.PrintWords Go.Proofs.YtdccajohjknnbaaDoorW.PrintLast Go.Proofs.YtdccajohjknnbaaDoorW.PrintMore

/-- the kind of a byte, as the reference tells it -/
theorem kind_ref60 (c : Int) (h0 : 0 ≤ c) (h1 : c ≤ 255) : tailwaterref02_Kind.f 60 c = some (kindOf c) := by
  have hall : (List.range 256).all (fun n => tailwaterref02_Kind.f 60 (n : Int) == some (kindOf (n : Int))) = true := by kernel_rfl
  obtain ⟨n, rfl⟩ := Int.eq_ofNat_of_zero_le h0
  have := List.all_eq_true.1 hall n (List.mem_range.2 (by omega))
  simpa using this

theorem toList_inj {x s : ByteArray} : x.toList = s.toList ↔ x = s := by
  rw [ByteArray.toList_eq, ByteArray.toList_eq]
  constructor
  · intro h; cases x; cases s; simpa using h
  · rintro rfl; rfl
theorem word_l0 (s : ByteArray) (l : List ByteArray) (hl : l.length ≤ 1000) (d : Nat) : ∀ (k i : Nat), l.length - i = d → i ≤ l.length → d < k →
    ∃ b, tailwaterref02_Word.l0 k s l (i : Int) = some b ∧ (b = true ↔ s ∈ l.drop i) := by
  induction d with
  | zero =>
    intro k i hd hi hk
    obtain ⟨k, rfl⟩ : ∃ m, k = m + 1 := ⟨k - 1, by omega⟩
    refine ⟨false, ?_, ?_⟩
    · simp only [tailwaterref02_Word.l0]; rw [if_neg (by omega)]
    · rw [List.drop_of_length_le (by omega)]; simp
  | succ d ih =>
    intro k i hd hi hk
    obtain ⟨k, rfl⟩ : ∃ m, k = m + 1 := ⟨k - 1, by omega⟩
    have hlt : i < l.length := by omega
    obtain ⟨b, hb, hiff⟩ := ih k (i + 1) (by omega) (by omega) (by omega)
    have hw : wrap64 ((i : Int) + 1) = ((i + 1 : Nat) : Int) := by unfold wrap64; omega
    have hr : rdOf ByteArray.empty l (i : Int) = l[i] := by simp [rdOf, hlt]
    rw [List.drop_eq_getElem_cons hlt]
    by_cases e : l[i] = s
    · refine ⟨true, ?_, by simp [e]⟩
      simp only [tailwaterref02_Word.l0]; rw [if_pos (by omega), if_pos (by omega), hr, if_pos (toList_inj.2 e)]
    · refine ⟨b, ?_, ?_⟩
      · simp only [tailwaterref02_Word.l0]; rw [if_pos (by omega), if_pos (by omega), hr, if_neg (fun h => e (toList_inj.1 h)), hw]; exact hb
      · rw [hiff, List.mem_cons]
        exact ⟨.inr, fun h => h.resolve_left (fun h => e h.symm)⟩
def refWords : List ByteArray := (tailwaterref02_Words.f).getD []
theorem refWords_mem (s : ByteArray) : s ∈ refWords ↔ s ∈ wordList := by
  have h1 : refWords.all (fun x => wordList.any fun y => x.data.toList == y.data.toList) = true := by kernel_rfl
  have h2 : wordList.all (fun x => refWords.any fun y => x.data.toList == y.data.toList) = true := by kernel_rfl
  have key : ∀ (l m : List ByteArray), l.all (fun x => m.any fun y => x.data.toList == y.data.toList) = true → ∀ s ∈ l, s ∈ m := by
    intro l m h s hs
    obtain ⟨y, hy, e⟩ := List.any_eq_true.1 (List.all_eq_true.1 h s hs)
    have : s = y := by cases s; cases y; simpa using e
    exact this ▸ hy
  exact ⟨key _ _ h1 s, key _ _ h2 s⟩
theorem word_ref (k : Nat) (hk : 40 ≤ k) (s : ByteArray) : tailwaterref02_Word.f k s = some (isWord s) := by
  have h29 : refWords.length = 29 := by kernel_rfl
  obtain ⟨b, hb, hiff⟩ := word_l0 s refWords (by omega) 29 k 0 (by omega) (by omega) (by omega)
  have : tailwaterref02_Word.f k s = tailwaterref02_Word.l0 k s refWords 0 := rfl
  rw [this]
  refine hb.trans ?_
  rw [List.drop_zero, refWords_mem, ← isWord_iff] at hiff
  cases b <;> cases h : isWord s <;> simp_all
/-- the first symbol of a list that a text begins with -/
def findL (t : List UInt8) : List (List UInt8) → Int
  | [] => 0
  | x :: r => if x.length ≤ t.length ∧ t.take x.length = x then (x.length : Int) else findL t r
def symbolsL : List (List UInt8) := [[60, 61], [60, 60], [62, 61], [62, 62], [33, 61], [40], [41], [42], [43], [45], [60], [62], [61]]
def symL : List UInt8 → Int
  | [] => 0
  | [a] => if kindOf a.toNat ≠ 4 then 0 else if (a.toNat : Int) = 33 then 0 else 1
  | a :: b :: _ => if kindOf a.toNat ≠ 4 then 0 else if two a.toNat b.toNat = true then 2 else if (a.toNat : Int) = 33 then 0 else 1
theorem kind4 (a : UInt8) (h1 : ¬ a = 40) (h2 : ¬ a = 41) (h3 : ¬ a = 42) (h4 : ¬ a = 43) (h5 : ¬ a = 45) (h6 : ¬ a = 60) (h7 : ¬ a = 62) (h8 : ¬ a = 61) (h9 : ¬ a = 33) : kindOf a.toNat ≠ 4 := by
  have f : ∀ n : Nat, n < 256 → ¬ a = n.toUInt8 → ¬ (a.toNat : Int) = n := fun n hn h e => h ((u8_eq a n hn).1 e)
  have g1 := f 40 (by omega) h1; have g2 := f 41 (by omega) h2; have g3 := f 42 (by omega) h3; have g4 := f 43 (by omega) h4; have g5 := f 45 (by omega) h5
  have g6 := f 60 (by omega) h6; have g7 := f 62 (by omega) h7; have g8 := f 61 (by omega) h8; have g9 := f 33 (by omega) h9
  unfold kindOf
  by_cases c1 : (a.toNat : Int) = 32 ∨ (a.toNat : Int) = 10
  · rw [if_pos c1]; decide
  rw [if_neg c1]
  by_cases c2 : 48 ≤ (a.toNat : Int) ∧ (a.toNat : Int) ≤ 57
  · rw [if_pos c2]; decide
  rw [if_neg c2]
  by_cases c3 : 97 ≤ (a.toNat : Int) ∧ (a.toNat : Int) ≤ 122
  · rw [if_pos c3]; decide
  rw [if_neg c3, if_neg (by omega)]; decide
theorem sym_find (t : List UInt8) : symL t = findL t symbolsL := by
  match t with
  | [] => rfl
  | [a] =>
    by_cases h1 : a = 40; · subst h1; rfl
    by_cases h2 : a = 41; · subst h2; rfl
    by_cases h3 : a = 42; · subst h3; rfl
    by_cases h4 : a = 43; · subst h4; rfl
    by_cases h5 : a = 45; · subst h5; rfl
    by_cases h6 : a = 60; · subst h6; rfl
    by_cases h7 : a = 62; · subst h7; rfl
    by_cases h8 : a = 61; · subst h8; rfl
    by_cases h9 : a = 33; · subst h9; rfl
    simp only [symL]
    rw [if_pos (kind4 a h1 h2 h3 h4 h5 h6 h7 h8 h9)]
    simp [findL, symbolsL, h1, h2, h3, h4, h5, h6, h7, h8]
  | a :: b :: r =>
    by_cases h1 : a = 40; · subst h1; simp [symL, findL, symbolsL, kindOf, two]
    by_cases h2 : a = 41; · subst h2; simp [symL, findL, symbolsL, kindOf, two]
    by_cases h3 : a = 42; · subst h3; simp [symL, findL, symbolsL, kindOf, two]
    by_cases h4 : a = 43; · subst h4; simp [symL, findL, symbolsL, kindOf, two]
    by_cases h5 : a = 45; · subst h5; simp [symL, findL, symbolsL, kindOf, two]
    by_cases h8 : a = 61; · subst h8; simp [symL, findL, symbolsL, kindOf, two]
    have hb : ∀ n : Nat, n < 256 → ((b.toNat : Int) == n) = decide (b = n.toUInt8) := fun n hn => by
      by_cases e : b = n.toUInt8
      · rw [decide_eq_true e]; exact beq_t ((u8_eq b n hn).2 e)
      · rw [decide_eq_false e]; exact beq_f (fun h => e ((u8_eq b n hn).1 h))
    have b61 := hb 61 (by omega); have b60 := hb 60 (by omega); have b62 := hb 62 (by omega)
    by_cases h6 : a = 60
    · subst h6
      by_cases e1 : b = 61; · subst e1; simp [symL, findL, symbolsL, kindOf, two]
      by_cases e2 : b = 60; · subst e2; simp [symL, findL, symbolsL, kindOf, two]
      have : two ((60 : UInt8).toNat : Int) (b.toNat : Int) = false := by
        unfold two; rw [show ((b.toNat : Int) == 61) = false from beq_f (fun h => e1 ((u8_eq b 61 (by omega)).1 h)), show ((b.toNat : Int) == 60) = false from beq_f (fun h => e2 ((u8_eq b 60 (by omega)).1 h))]; rfl
      simp only [symL]; rw [this]
      simp [findL, symbolsL, kindOf, e1, e2]
    by_cases h7 : a = 62
    · subst h7
      by_cases e1 : b = 61; · subst e1; simp [symL, findL, symbolsL, kindOf, two]
      by_cases e2 : b = 62; · subst e2; simp [symL, findL, symbolsL, kindOf, two]
      have : two ((62 : UInt8).toNat : Int) (b.toNat : Int) = false := by
        unfold two; rw [show ((b.toNat : Int) == 61) = false from beq_f (fun h => e1 ((u8_eq b 61 (by omega)).1 h)), show ((b.toNat : Int) == 62) = false from beq_f (fun h => e2 ((u8_eq b 62 (by omega)).1 h))]; rfl
      simp only [symL]; rw [this]
      simp [findL, symbolsL, kindOf, e1, e2]
    by_cases h9 : a = 33
    · subst h9
      by_cases e1 : b = 61; · subst e1; simp [symL, findL, symbolsL, kindOf, two]
      have : two ((33 : UInt8).toNat : Int) (b.toNat : Int) = false := by
        unfold two; rw [show ((b.toNat : Int) == 61) = false from beq_f (fun h => e1 ((u8_eq b 61 (by omega)).1 h))]; rfl
      simp only [symL]; rw [this]
      simp [findL, symbolsL, kindOf, e1]
    simp only [symL]
    rw [if_pos (kind4 a h1 h2 h3 h4 h5 h6 h7 h8 h9)]
    simp [findL, symbolsL, h1, h2, h3, h4, h5, h6, h7, h8, h9]
theorem bt_list (t : ByteArray) (i : Nat) (a : UInt8) (h : t.data.toList[i]? = some a) : bt t (i : Int) = a.toNat := by
  rw [Array.getElem?_toList] at h
  obtain ⟨hlt, he⟩ := Array.getElem?_eq_some_iff.1 h
  unfold bt
  rw [Int.toNat_natCast, dif_pos (show i < t.size from hlt), show t[i]'hlt = a from he]
theorem symT_L (t : ByteArray) : symT t = symL t.data.toList := by
  unfold symT
  have hs : t.size = t.data.toList.length := by rw [Array.length_toList]; rfl
  cases ht : t.data.toList with
  | nil => rw [if_pos (by rw [hs, ht]; rfl)]; rfl
  | cons a r =>
    rw [if_neg (by rw [hs, ht]; simp)]
    have h0 : bt t 0 = a.toNat := bt_list t 0 a (by rw [ht]; rfl)
    rw [h0]
    cases r with
    | nil =>
      simp only [symL]
      have hn : ¬ (1 < t.size ∧ two (a.toNat : Int) (bt t 1) = true) := fun h => absurd h.1 (by rw [hs, ht]; simp)
      rw [if_neg hn]
    | cons b r =>
      have h1 : bt t 1 = b.toNat := bt_list t 1 b (by rw [ht]; rfl)
      rw [h1]
      simp only [symL]
      have hn : (1 < t.size ∧ two (a.toNat : Int) (b.toNat : Int) = true) ↔ two (a.toNat : Int) (b.toNat : Int) = true := ⟨fun h => h.2, fun h => ⟨by rw [hs, ht]; simp, h⟩⟩
      simp only [hn]
theorem longest_l0 (s : ByteArray) (a : Nat) (ha : a ≤ s.size) (hs : s.size ≤ 1000000) (l : List ByteArray) (hl : l.length ≤ 1000) (hx : ∀ x ∈ l, x.size ≤ 100) (d : Nat) : ∀ (k i : Nat), l.length - i = d → i ≤ l.length → d < k →
    tailwaterref02_Longest.l0 k s (a : Int) l (i : Int) = some (findL ((s.extract a s.size).data.toList) ((l.drop i).map fun x => x.data.toList)) := by
  have hT : (s.extract a s.size).data.toList = s.data.toList.drop a := by
    rw [Lib.extract_data, List.take_of_length_le (by rw [List.length_drop, data_length]; omega)]
  rw [hT]
  induction d with
  | zero =>
    intro k i hd hi hk
    obtain ⟨k, rfl⟩ : ∃ m, k = m + 1 := ⟨k - 1, by omega⟩
    simp only [tailwaterref02_Longest.l0]; rw [if_neg (show ¬ (i : Int) < (l.length : Int) by omega), List.drop_of_length_le (show l.length ≤ i by omega)]; rfl
  | succ d ih =>
    intro k i hd hi hk
    obtain ⟨k, rfl⟩ : ∃ m, k = m + 1 := ⟨k - 1, by omega⟩
    have hlt : i < l.length := by omega
    have hz := hx l[i] (List.getElem_mem hlt)
    have hih := ih k (i + 1) (by omega) (by omega) (by omega)
    have c1 : (i : Int) < (l.length : Int) := by omega
    have c2 : (0 : Int) ≤ (i : Int) := by omega
    have c3 : (0 : Int) ≤ (a : Int) := by omega
    have c4 : (a : Int) ≤ ((a + l[i].size : Nat) : Int) := by omega
    have c5 : l[i].size ≤ s.size - a → ((a + l[i].size : Nat) : Int) ≤ (s.size : Int) := by omega
    have c6 : (((l[i].size : Nat) : Int) ≤ ((s.size - a : Nat) : Int)) ↔ l[i].size ≤ s.size - a := by omega
    have hw : wrap64 ((i : Int) + 1) = ((i + 1 : Nat) : Int) := by clear hih ih; unfold wrap64; omega
    have hw1 : wrap64 ((s.size : Int) - (a : Int)) = ((s.size - a : Nat) : Int) := by clear hih ih hw; unfold wrap64; omega
    have hw2 : wrap64 ((a : Int) + (l[i].size : Int)) = ((a + l[i].size : Nat) : Int) := by clear hih ih hw hw1; unfold wrap64; omega
    have hr : rdOf ByteArray.empty l (i : Int) = l[i] := by simp [rdOf, hlt]
    have hlen : (s.data.toList.drop a).length = s.size - a := by rw [List.length_drop, data_length]
    have hxl : l[i].data.toList.length = l[i].size := data_length _
    rw [List.drop_eq_getElem_cons hlt, List.map_cons]
    simp only [tailwaterref02_Longest.l0, findL]
    rw [if_pos c1, if_pos c2, hr, hw, hw1, hw2, hlen, hxl]
    by_cases h1 : l[i].size ≤ s.size - a
    · rw [if_pos (c6.2 h1), if_pos c3, if_pos c4, if_pos (c5 h1)]
      have he : (s.extract ((a : Int)).toNat (((a + l[i].size : Nat) : Int)).toNat).toList = (s.data.toList.drop a).take l[i].size := by
        rw [ByteArray.toList_eq, Int.toNat_natCast, Int.toNat_natCast, Lib.extract_data, Nat.add_sub_cancel_left]
      rw [he, ByteArray.toList_eq]
      by_cases h2 : (s.data.toList.drop a).take l[i].size = l[i].data.toList
      · rw [if_pos h2, if_pos ⟨h1, h2⟩]
      · rw [if_neg h2, if_neg (fun h => h2 h.2)]
        exact hih
    · rw [if_neg (fun h => h1 (c6.1 h)), if_neg (fun h => h1 h.1)]
      exact hih
def refSymbols : List ByteArray := (tailwaterref02_Symbols.f).getD []
theorem longest_ref (k : Nat) (hk : 40 ≤ k) (s : ByteArray) (a : Nat) (ha : a ≤ s.size) (hs : s.size ≤ 1000000) : tailwaterref02_Longest.f k s (a : Int) = some (symT (s.extract a s.size)) := by
  have h13 : refSymbols.length = 13 := by kernel_rfl
  have h2 : ∀ x ∈ refSymbols, x.size ≤ 100 := by
    have : refSymbols.all (fun x => decide (x.size ≤ 100)) = true := by kernel_rfl
    intro x hx
    have := List.all_eq_true.1 this x hx
    simpa using this
  have h3 : refSymbols.map (fun x => x.data.toList) = symbolsL := by kernel_rfl
  have h := longest_l0 s a ha hs refSymbols (by omega) h2 13 k 0 (by omega) (by omega) (by omega)
  rw [List.drop_zero, h3, ← sym_find, ← symT_L] at h
  exact h
theorem two_kind {c d : Int} (h : two c d = true) : kindOf d = 4 := by
  unfold two at h
  have : d = 61 ∨ d = 60 ∨ d = 62 := by
    simp only [Bool.or_eq_true, Bool.and_eq_true, beq_iff_eq] at h
    omega
  rcases this with rfl | rfl | rfl <;> rfl
theorem symL_cases (a : UInt8) (r : List UInt8) : (symL (a :: r) = 0 ∧ (kindOf a.toNat ≠ 4 ∨ (a.toNat : Int) = 33)) ∨ (symL (a :: r) = 1 ∧ kindOf a.toNat = 4 ∧ symL [a] = 1 ∧ ∀ b l, r = b :: l → symL [a, b] = 1) ∨
    (∃ b l, r = b :: l ∧ symL (a :: r) = 2 ∧ kindOf a.toNat = 4 ∧ kindOf b.toNat = 4 ∧ ∀ m, symL (a :: b :: m) = 2) := by
  by_cases hk : kindOf a.toNat = 4
  · cases r with
    | nil =>
      by_cases h33 : (a.toNat : Int) = 33
      · left; simp only [symL]; rw [if_neg (by rw [hk]; simp), if_pos h33]; exact ⟨rfl, .inr h33⟩
      · right; left; simp only [symL]; rw [if_neg (by rw [hk]; simp), if_neg h33]; exact ⟨rfl, hk, rfl, fun b l h => by cases h⟩
    | cons b l =>
      by_cases ht : two a.toNat b.toNat = true
      · right; right
        refine ⟨b, l, rfl, ?_, hk, two_kind ht, fun m => ?_⟩ <;> (simp only [symL]; rw [if_neg (by rw [hk]; simp), if_pos ht])
      · by_cases h33 : (a.toNat : Int) = 33
        · left; simp only [symL]; rw [if_neg (by rw [hk]; simp), if_neg ht, if_pos h33]; exact ⟨rfl, .inr h33⟩
        · right; left
          have e : ∀ m, symL (a :: b :: m) = 1 := fun m => by simp only [symL]; rw [if_neg (by rw [hk]; simp), if_neg ht, if_neg h33]
          refine ⟨e l, hk, ?_, fun b' l' h => by cases h; exact e []⟩
          simp only [symL]; rw [if_neg (by rw [hk]; simp), if_neg h33]
  · left
    refine ⟨?_, .inl hk⟩
    cases r <;> (simp only [symL]; rw [if_pos hk])
theorem in_any (s : ByteArray) (hs : s.size ≤ 1000) (c : Int) (d : Nat) : ∀ (k i : Nat), s.size - i = d → i ≤ s.size → d < k →
    tailwaterref02_in.l0 k c s (i : Int) = some ((s.data.toList.drop i).any fun b => (b.toNat : Int) == c) := by
  induction d with
  | zero =>
    intro k i hd hi hk
    obtain ⟨k, rfl⟩ : ∃ m, k = m + 1 := ⟨k - 1, by omega⟩
    simp only [tailwaterref02_in.l0]; rw [if_neg (by omega), List.drop_of_length_le (by rw [data_length]; omega)]; rfl
  | succ d ih =>
    intro k i hd hi hk
    obtain ⟨k, rfl⟩ : ∃ m, k = m + 1 := ⟨k - 1, by omega⟩
    have hlt : i < s.data.toList.length := by rw [data_length]; omega
    have hih := ih k (i + 1) (by omega) (by omega) (by omega)
    have hw : wrap64 ((i : Int) + 1) = ((i + 1 : Nat) : Int) := by clear hih ih; unfold wrap64; omega
    have hb : bt s (i : Int) = (s.data.toList[i]).toNat := bt_list s i _ (List.getElem?_eq_getElem hlt)
    rw [List.drop_eq_getElem_cons hlt, List.any_cons]
    simp only [tailwaterref02_in.l0]
    rw [if_pos (by omega), if_pos (by omega), hb]
    by_cases e : ((s.data.toList[i]).toNat : Int) = c
    · rw [if_pos e, beq_t e, Bool.true_or]
    · rw [if_neg e, beq_f e, Bool.false_or, hw]; exact hih
theorem in_fuel (s : ByteArray) (c : Int) (k : Nat) (h : s.size < 60) (hk : 60 ≤ k) : tailwaterref02_in.f k c s = tailwaterref02_in.f 60 c s :=
  (in_any s (by omega) c s.size k 0 (by omega) (by omega) (by omega)).trans (in_any s (by omega) c s.size 60 0 (by omega) (by omega) (by omega)).symm
theorem kind_ref (k : Nat) (hk : 60 ≤ k) (c : Int) (h0 : 0 ≤ c) (h1 : c ≤ 255) : tailwaterref02_Kind.f k c = some (kindOf c) := by
  rw [← kind_ref60 c h0 h1]
  unfold tailwaterref02_Kind.f
  rw [in_fuel _ c k (by decide) hk, in_fuel _ c k (by decide) hk, in_fuel _ c k (by decide) hk, in_fuel _ c k (by decide) hk]
end Go.Proofs.YtdccajohjknnbaaDoor.Pure
