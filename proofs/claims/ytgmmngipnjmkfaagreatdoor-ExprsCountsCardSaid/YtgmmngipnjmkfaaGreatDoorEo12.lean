/- The card of the statement, from the lemmas of the texts that this one imports (this text and those were cut to what the proof uses, by wip/trim.py). -/
import Derived.Below
import Derived.Carry
import Derived.LoopIn
import Derived.LoopNIn
import Derived.WalkKit
import Derived.BigQuiet
import Derived.OpenShut
import Derived.ProofKit
import Derived.WalkMore
import Derived.ChangeOld
import Derived.OwnWalkIn
import Derived.SizedLaws
import Derived.ChangeSame
import Derived.Deep.Grids
import Derived.ShutString
import Derived.WalkSpells
import Derived.WideShapes
import Derived.Deep.Fields
import Derived.Deep.Slices
import Derived.Lib.LaidTab
import Derived.Deep.CutBlock
import Derived.Deep.CutRange
import Derived.TacticsInMore
import Derived.Deep.QuietTactic
import Derived.Deep.RegionHeld3
import Derived.Deep.DeepHandedRow
import Derived.Deep.DeepWitnessRowRef
import Derived.Test.YtgmmngipnjmkfaaGreatDoorTie
import Derived.Test.YtgmmngipnjmkfaaGreatDoorCards
import Derived.Test.YtgmmngipnjmkfaaGreatDoorEo2
import Derived.Test.YtgmmngipnjmkfaaGreatDoorEo3
import Derived.Test.YtgmmngipnjmkfaaGreatDoorEo5
import Derived.Test.YtgmmngipnjmkfaaGreatDoorEo6
import Derived.Test.YtgmmngipnjmkfaaGreatDoorEo10
import Derived.Test.YtgmmngipnjmkfaaGreatDoorEo11
section
namespace Go.Proofs.YtgmmngipnjmkfaaGreatDoor.PureL
open Go.RowKit Go.Proofs.YtgmmngipnjmkfaaGreatDoor.Hand Go.Proofs.YtgmmngipnjmkfaaGreatDoor.Q Go.Proofs.YtgmmngipnjmkfaaGreatDoorW.PrintWords Go.Proofs.YtgmmngipnjmkfaaGreatDoorW.PrintLast Go.Proofs.YtgmmngipnjmkfaaGreatDoorW.PrintMore
set_option linter.unusedVariables false
theorem toList_inj {x s : ByteArray} : x.toList = s.toList ↔ x = s := by
  rw [ByteArray.toList_eq, ByteArray.toList_eq]
  constructor
  · intro h; cases x; cases s; simpa using h
  · rintro rfl; rfl
theorem word_l0 (s : ByteArray) (l : List ByteArray) (hl : l.length ≤ 1000) (d : Nat) : ∀ (k i : Nat), l.length - i = d → i ≤ l.length → d < k →
    ∃ b, za4.l0 k s l (i : Int) = some b ∧ (b = true ↔ s ∈ l.drop i) := by
  induction d with
  | zero =>
    intro k i hd hi hk
    obtain ⟨k, rfl⟩ : ∃ m, k = m + 1 := ⟨k - 1, by omega⟩
    refine ⟨false, ?_, ?_⟩
    · simp only [za4.l0]; rw [if_neg (by omega)]
    · rw [List.drop_of_length_le (by omega)]; simp
  | succ d ih =>
    intro k i hd hi hk
    obtain ⟨k, rfl⟩ : ∃ m, k = m + 1 := ⟨k - 1, by omega⟩
    have hlt : i < l.length := by omega
    obtain ⟨b, hb, hiff⟩ := ih k (i + 1) (by omega) (by omega) (by omega)
    have hw : wrap64 ((i : Int) + 1) = ((i + 1 : Nat) : Int) := by unfold wrap64; omega
    have hr : rdOf ByteArray.empty l (i : Int) = l[i] := by simp [rdOf, hlt]
    rw [List.drop_eq_getElem_cons hlt]
    by_cases e : l[i] = s
    · refine ⟨true, ?_, by simp [e]⟩
      simp only [za4.l0]; rw [if_pos (by omega), if_pos (by omega), hr, if_pos (toList_inj.2 e)]
    · refine ⟨b, ?_, ?_⟩
      · simp only [za4.l0]; rw [if_pos (by omega), if_pos (by omega), hr, if_neg (fun h => e (toList_inj.1 h)), hw]; exact hb
      · rw [hiff, List.mem_cons]
        exact ⟨.inr, fun h => h.resolve_left (fun h => e h.symm)⟩
def refWords : List ByteArray := (zbz.f).getD []
theorem refWords_mem (s : ByteArray) : s ∈ refWords ↔ s ∈ wordList := by
  have h1 : refWords.all (fun x => wordList.any fun y => x.data.toList == y.data.toList) = true := by kernel_rfl
  have h2 : wordList.all (fun x => refWords.any fun y => x.data.toList == y.data.toList) = true := by kernel_rfl
  have key : ∀ (l m : List ByteArray), l.all (fun x => m.any fun y => x.data.toList == y.data.toList) = true → ∀ s ∈ l, s ∈ m := by
    intro l m h s hs
    obtain ⟨y, hy, e⟩ := List.any_eq_true.1 (List.all_eq_true.1 h s hs)
    have : s = y := by cases s; cases y; simpa using e
    exact this ▸ hy
  exact ⟨key _ _ h1 s, key _ _ h2 s⟩
theorem word_ref (k : Nat) (hk : 40 ≤ k) (s : ByteArray) : za4.f k s = some (isWord s) := by
  have h29 : refWords.length = 29 := by kernel_rfl
  obtain ⟨b, hb, hiff⟩ := word_l0 s refWords (by omega) 29 k 0 (by omega) (by omega) (by omega)
  have : za4.f k s = za4.l0 k s refWords 0 := rfl
  rw [this]
  refine hb.trans ?_
  rw [List.drop_zero, refWords_mem, ← isWord_iff] at hiff
  cases b <;> cases h : isWord s <;> simp_all
def findL (t : List UInt8) : List (List UInt8) → Int
  | [] => 0
  | x :: r => if x.length ≤ t.length ∧ t.take x.length = x then (x.length : Int) else findL t r
def symbolsL : List (List UInt8) := [[60, 61], [60, 60], [62, 61], [62, 62], [33, 61], [40], [41], [42], [43], [45], [60], [62], [61]]
theorem kind4 (a : UInt8) (h1 : ¬ a = 40) (h2 : ¬ a = 41) (h3 : ¬ a = 42) (h4 : ¬ a = 43) (h5 : ¬ a = 45) (h6 : ¬ a = 60) (h7 : ¬ a = 62) (h8 : ¬ a = 61) (h9 : ¬ a = 33) : kindOf a.toNat ≠ 4 := by
  have f : ∀ n : Nat, n < 256 → ¬ a = n.toUInt8 → ¬ (a.toNat : Int) = n := fun n hn h e => h ((u8_eq a n hn).1 e)
  have g1 := f 40 (by omega) h1; have g2 := f 41 (by omega) h2; have g3 := f 42 (by omega) h3; have g4 := f 43 (by omega) h4; have g5 := f 45 (by omega) h5
  have g6 := f 60 (by omega) h6; have g7 := f 62 (by omega) h7; have g8 := f 61 (by omega) h8; have g9 := f 33 (by omega) h9
  unfold kindOf
  by_cases c1 : (a.toNat : Int) = 32 ∨ (a.toNat : Int) = 10
  · rw [if_pos c1]; decide
  rw [if_neg c1]
  by_cases c2 : 48 ≤ (a.toNat : Int) ∧ (a.toNat : Int) ≤ 57
  · rw [if_pos c2]; decide
  rw [if_neg c2]
  by_cases c3 : 97 ≤ (a.toNat : Int) ∧ (a.toNat : Int) ≤ 122
  · rw [if_pos c3]; decide
  rw [if_neg c3, if_neg (by omega)]; decide
theorem sym_find (t : List UInt8) : symL t = findL t symbolsL := by
  match t with
  | [] => rfl
  | [a] =>
    by_cases h1 : a = 40; · subst h1; rfl
    by_cases h2 : a = 41; · subst h2; rfl
    by_cases h3 : a = 42; · subst h3; rfl
    by_cases h4 : a = 43; · subst h4; rfl
    by_cases h5 : a = 45; · subst h5; rfl
    by_cases h6 : a = 60; · subst h6; rfl
    by_cases h7 : a = 62; · subst h7; rfl
    by_cases h8 : a = 61; · subst h8; rfl
    by_cases h9 : a = 33; · subst h9; rfl
    simp only [symL]
    rw [if_pos (kind4 a h1 h2 h3 h4 h5 h6 h7 h8 h9)]
    simp [findL, symbolsL, h1, h2, h3, h4, h5, h6, h7, h8]
  | a :: b :: r =>
    by_cases h1 : a = 40; · subst h1; simp [symL, findL, symbolsL, kindOf, two]
    by_cases h2 : a = 41; · subst h2; simp [symL, findL, symbolsL, kindOf, two]
    by_cases h3 : a = 42; · subst h3; simp [symL, findL, symbolsL, kindOf, two]
    by_cases h4 : a = 43; · subst h4; simp [symL, findL, symbolsL, kindOf, two]
    by_cases h5 : a = 45; · subst h5; simp [symL, findL, symbolsL, kindOf, two]
    by_cases h8 : a = 61; · subst h8; simp [symL, findL, symbolsL, kindOf, two]
    have hb : ∀ n : Nat, n < 256 → ((b.toNat : Int) == n) = decide (b = n.toUInt8) := fun n hn => by
      by_cases e : b = n.toUInt8
      · rw [decide_eq_true e]; exact beq_t ((u8_eq b n hn).2 e)
      · rw [decide_eq_false e]; exact beq_f (fun h => e ((u8_eq b n hn).1 h))
    have b61 := hb 61 (by omega); have b60 := hb 60 (by omega); have b62 := hb 62 (by omega)
    by_cases h6 : a = 60
    · subst h6
      by_cases e1 : b = 61; · subst e1; simp [symL, findL, symbolsL, kindOf, two]
      by_cases e2 : b = 60; · subst e2; simp [symL, findL, symbolsL, kindOf, two]
      have : two ((60 : UInt8).toNat : Int) (b.toNat : Int) = false := by
        unfold two; rw [show ((b.toNat : Int) == 61) = false from beq_f (fun h => e1 ((u8_eq b 61 (by omega)).1 h)), show ((b.toNat : Int) == 60) = false from beq_f (fun h => e2 ((u8_eq b 60 (by omega)).1 h))]; rfl
      simp only [symL]; rw [this]
      simp [findL, symbolsL, kindOf, e1, e2]
    by_cases h7 : a = 62
    · subst h7
      by_cases e1 : b = 61; · subst e1; simp [symL, findL, symbolsL, kindOf, two]
      by_cases e2 : b = 62; · subst e2; simp [symL, findL, symbolsL, kindOf, two]
      have : two ((62 : UInt8).toNat : Int) (b.toNat : Int) = false := by
        unfold two; rw [show ((b.toNat : Int) == 61) = false from beq_f (fun h => e1 ((u8_eq b 61 (by omega)).1 h)), show ((b.toNat : Int) == 62) = false from beq_f (fun h => e2 ((u8_eq b 62 (by omega)).1 h))]; rfl
      simp only [symL]; rw [this]
      simp [findL, symbolsL, kindOf, e1, e2]
    by_cases h9 : a = 33
    · subst h9
      by_cases e1 : b = 61; · subst e1; simp [symL, findL, symbolsL, kindOf, two]
      have : two ((33 : UInt8).toNat : Int) (b.toNat : Int) = false := by
        unfold two; rw [show ((b.toNat : Int) == 61) = false from beq_f (fun h => e1 ((u8_eq b 61 (by omega)).1 h))]; rfl
      simp only [symL]; rw [this]
      simp [findL, symbolsL, kindOf, e1]
    simp only [symL]
    rw [if_pos (kind4 a h1 h2 h3 h4 h5 h6 h7 h8 h9)]
    simp [findL, symbolsL, h1, h2, h3, h4, h5, h6, h7, h8, h9]
theorem longest_l0 (s : ByteArray) (a : Nat) (ha : a ≤ s.size) (hs : s.size ≤ 140737488351232) (l : List ByteArray) (hl : l.length ≤ 1000) (hx : ∀ x ∈ l, x.size ≤ 100) (d : Nat) : ∀ (k i : Nat), l.length - i = d → i ≤ l.length → d < k →
    za0.l0 k s (a : Int) l (i : Int) = some (findL ((s.extract a s.size).data.toList) ((l.drop i).map fun x => x.data.toList)) := by
  have hT : (s.extract a s.size).data.toList = s.data.toList.drop a := by
    rw [Lib.extract_data, List.take_of_length_le (by rw [List.length_drop, zbu]; omega)]
  rw [hT]
  induction d with
  | zero =>
    intro k i hd hi hk
    obtain ⟨k, rfl⟩ : ∃ m, k = m + 1 := ⟨k - 1, by omega⟩
    simp only [za0.l0]; rw [if_neg (show ¬ (i : Int) < (l.length : Int) by omega), List.drop_of_length_le (show l.length ≤ i by omega)]; rfl
  | succ d ih =>
    intro k i hd hi hk
    obtain ⟨k, rfl⟩ : ∃ m, k = m + 1 := ⟨k - 1, by omega⟩
    have hlt : i < l.length := by omega
    have hz := hx l[i] (List.getElem_mem hlt)
    have hih := ih k (i + 1) (by omega) (by omega) (by omega)
    have c1 : (i : Int) < (l.length : Int) := by omega
    have c2 : (0 : Int) ≤ (i : Int) := by omega
    have c3 : (0 : Int) ≤ (a : Int) := by omega
    have c4 : (a : Int) ≤ ((a + l[i].size : Nat) : Int) := by omega
    have c5 : l[i].size ≤ s.size - a → ((a + l[i].size : Nat) : Int) ≤ (s.size : Int) := by omega
    have c6 : (((l[i].size : Nat) : Int) ≤ ((s.size - a : Nat) : Int)) ↔ l[i].size ≤ s.size - a := by omega
    have hw : wrap64 ((i : Int) + 1) = ((i + 1 : Nat) : Int) := by clear hih ih; unfold wrap64; omega
    have hw1 : wrap64 ((s.size : Int) - (a : Int)) = ((s.size - a : Nat) : Int) := by clear hih ih hw; unfold wrap64; omega
    have hw2 : wrap64 ((a : Int) + (l[i].size : Int)) = ((a + l[i].size : Nat) : Int) := by clear hih ih hw hw1; unfold wrap64; omega
    have hr : rdOf ByteArray.empty l (i : Int) = l[i] := by simp [rdOf, hlt]
    have hlen : (s.data.toList.drop a).length = s.size - a := by rw [List.length_drop, zbu]
    have hxl : l[i].data.toList.length = l[i].size := zbu _
    rw [List.drop_eq_getElem_cons hlt, List.map_cons]
    simp only [za0.l0, findL]
    rw [if_pos c1, if_pos c2, hr, hw, hw1, hw2, hlen, hxl]
    by_cases h1 : l[i].size ≤ s.size - a
    · rw [if_pos (c6.2 h1), if_pos c3, if_pos c4, if_pos (c5 h1)]
      have he : (s.extract ((a : Int)).toNat (((a + l[i].size : Nat) : Int)).toNat).toList = (s.data.toList.drop a).take l[i].size := by
        rw [ByteArray.toList_eq, Int.toNat_natCast, Int.toNat_natCast, Lib.extract_data, Nat.add_sub_cancel_left]
      rw [he, ByteArray.toList_eq]
      by_cases h2 : (s.data.toList.drop a).take l[i].size = l[i].data.toList
      · rw [if_pos h2, if_pos ⟨h1, h2⟩]
      · rw [if_neg h2, if_neg (fun h => h2 h.2)]
        exact hih
    · rw [if_neg (fun h => h1 (c6.1 h)), if_neg (fun h => h1 h.1)]
      exact hih
def refSymbols : List ByteArray := (zbj.f).getD []
theorem longest_ref (k : Nat) (hk : 40 ≤ k) (s : ByteArray) (a : Nat) (ha : a ≤ s.size) (hs : s.size ≤ 140737488351232) : za0.f k s (a : Int) = some (symT (s.extract a s.size)) := by
  have h13 : refSymbols.length = 13 := by kernel_rfl
  have h2 : ∀ x ∈ refSymbols, x.size ≤ 100 := by
    have : refSymbols.all (fun x => decide (x.size ≤ 100)) = true := by kernel_rfl
    intro x hx
    have := List.all_eq_true.1 this x hx
    simpa using this
  have h3 : refSymbols.map (fun x => x.data.toList) = symbolsL := by kernel_rfl
  have h := longest_l0 s a ha hs refSymbols (by omega) h2 13 k 0 (by omega) (by omega) (by omega)
  rw [List.drop_zero, h3, ← sym_find, ← symT_L] at h
  exact h
set_option linter.unusedVariables false
theorem read_l1 (t : ByteArray) (ht : t.size ≤ 140737488351232) (d : Nat) : ∀ (k i n : Nat), t.size - i = d → i ≤ t.size → d < k → n ≤ 9223372036854775807 → (t.data.toList.drop i).all digB = true →
    zau.l1 k t (n : Int) (i : Int) = some (if decFrom n (t.data.toList.drop i) ≤ 9223372036854775807 then ((decFrom n (t.data.toList.drop i) : Int), 0) else (0, 16)) := by
  induction d with
  | zero =>
    intro k i n hd hi hk hn _
    obtain ⟨k, rfl⟩ : ∃ m, k = m + 1 := ⟨k - 1, by omega⟩
    simp only [zau.l1]; rw [if_neg (by omega), List.drop_of_length_le (by rw [zbu]; omega), if_pos (show decFrom n [] ≤ 9223372036854775807 from hn)]; rfl
  | succ d ih =>
    intro k i n hd hi hk hn hall
    obtain ⟨k, rfl⟩ : ∃ m, k = m + 1 := ⟨k - 1, by omega⟩
    have hlt : i < t.data.toList.length := by rw [zbu]; omega
    rw [List.drop_eq_getElem_cons hlt] at hall ⊢
    rw [List.all_cons, Bool.and_eq_true] at hall
    have hc := digB_iff.1 hall.1
    have hb : bt t (i : Int) = (t.data.toList[i]).toNat := bt_list t i _ (List.getElem?_eq_getElem hlt)
    generalize t.data.toList[i] = c at hb hc ⊢
    have hw : wrap64 ((i : Int) + 1) = ((i + 1 : Nat) : Int) := by clear ih; unfold wrap64; omega
    have hm : ((c.toNat : Int) - 48) % 256 = ((c.toNat - 48 : Nat) : Int) := by clear ih hw; omega
    have hD : decFrom n (c :: t.data.toList.drop (i + 1)) = decFrom (n * 10 + (c.toNat - 48)) (t.data.toList.drop (i + 1)) := rfl
    have hge := decFrom_ge (t.data.toList.drop (i + 1)) (n * 10 + (c.toNat - 48))
    simp only [zau.l1]
    rw [if_pos (by clear ih hw; omega), if_pos (by clear ih hw; omega), hb, hm, hD]
    by_cases h1 : n * 10 + (c.toNat - 48) ≤ 9223372036854775807
    · have hih := ih k (i + 1) (n * 10 + (c.toNat - 48)) (by omega) (by omega) (by omega) h1 hall.2
      have q1 : ¬ (n : Int) > (9223372036854775807 - ((c.toNat - 48 : Nat) : Int)) / 10 := by clear ih hih hw; omega
      have q2 : wrap64 (10 * (n : Int)) = 10 * (n : Int) := by clear ih hih hw; unfold wrap64; omega
      have q3 : wrap64 (10 * (n : Int) + ((c.toNat - 48 : Nat) : Int)) = ((n * 10 + (c.toNat - 48) : Nat) : Int) := by clear ih hih hw q2; unfold wrap64; omega
      rw [if_neg q1, q2, q3, hw]
      exact hih
    · have q1 : (n : Int) > (9223372036854775807 - ((c.toNat - 48 : Nat) : Int)) / 10 := by clear ih hw; omega
      rw [if_pos q1, if_neg (by clear ih hw; omega)]
theorem read_l0 (t : ByteArray) (ht : t.size ≤ 140737488351232) (d : Nat) : ∀ (k i : Nat), t.size - i = d → i ≤ t.size → d < k →
    zau.l0 k t (i : Int) = if (t.data.toList.drop i).all digB = true then zau.l1 (k - d - 1) t 0 0 else some (0, 12) := by
  induction d with
  | zero =>
    intro k i hd hi hk
    obtain ⟨k, rfl⟩ : ∃ m, k = m + 1 := ⟨k - 1, by omega⟩
    simp only [zau.l0]; rw [if_neg (by omega), List.drop_of_length_le (by rw [zbu]; omega)]; rfl
  | succ d ih =>
    intro k i hd hi hk
    obtain ⟨k, rfl⟩ : ∃ m, k = m + 1 := ⟨k - 1, by omega⟩
    have hlt : i < t.data.toList.length := by rw [zbu]; omega
    have hih := ih k (i + 1) (by omega) (by omega) (by omega)
    have hb : bt t (i : Int) = (t.data.toList[i]).toNat := bt_list t i _ (List.getElem?_eq_getElem hlt)
    have hw : wrap64 ((i : Int) + 1) = ((i + 1 : Nat) : Int) := by clear ih hih; unfold wrap64; omega
    rw [List.drop_eq_getElem_cons hlt, List.all_cons]
    generalize t.data.toList[i] = c at hb ⊢
    simp only [zau.l0]
    rw [if_pos (by clear ih hih hw; omega), if_pos (by clear ih hih hw; omega), hb]
    by_cases h1 : c.toNat < 48
    · have : digB c = false := by cases h : digB c with | false => rfl | true => exact absurd (digB_iff.1 h).1 (by omega)
      rw [if_pos (by omega), this]; rfl
    · rw [if_neg (show ¬ (c.toNat : Int) < 48 by omega)]
      by_cases h2 : c.toNat > 57
      · have : digB c = false := by cases h : digB c with | false => rfl | true => exact absurd (digB_iff.1 h).2 (by omega)
        rw [if_pos (by omega), this]; rfl
      · have : digB c = true := digB_iff.2 ⟨by omega, by omega⟩
        rw [if_neg (by omega), this, Bool.true_and, hw, hih]
        congr 2; omega
theorem read_ref (t : ByteArray) (ht : t.size ≤ 140737488351232) (k : Nat) (hk : 2 * t.size + 1 < k) : zau.f k t = some (readL t.data.toList) := by
  unfold zau.f readL
  rw [ByteArray.toList_eq]
  by_cases h0 : t.data.toList = []
  · rw [if_pos h0, if_pos h0]
  · rw [if_neg h0, if_neg h0]
    refine (read_l0 t ht t.size k 0 (by omega) (by omega) (by omega)).trans ?_
    rw [List.drop_zero]
    by_cases h1 : t.data.toList.all digB = true
    · rw [if_pos h1, if_pos h1]
      exact (read_l1 t ht t.size _ 0 0 (by omega) (by omega) (by omega) (by omega) h1)
    · rw [if_neg h1, if_neg h1]
theorem valid_f (k : Nat) (q : Int) (t : ByteArray) (a : Int) (hk : 2 * t.size + 2100 < k) (ht : t.size ≤ 140737488351232) : za3.f k q t a = some (decide (chk q t.data.toList = 0)) := by
  have hz : (t.size : Int) = (t.data.toList.length : Int) := by rw [zbu]
  have hba : ba t.data.toList = t := (ba_of rfl).symm
  have hdec : ∀ a : Int, (a == 0) = decide (a = 0) := fun a => by by_cases h : a = 0 <;> simp [h]
  unfold za3.f chk
  by_cases h1 : q = 1
  · rw [if_pos h1, if_pos h1, read_ref t ht k (by omega)]
    simp only [Option.bind_some, hdec]
  rw [if_neg h1, if_neg h1]
  by_cases h2 : q = 2
  · rw [if_pos h2, if_pos h2, hba, word_ref k (by omega)]; simp only [Option.bind_some]
    cases isWord t <;> rfl
  rw [if_neg h2, if_neg h2]
  by_cases h3 : q = 3
  · rw [if_pos h3, if_pos h3]
    by_cases h4 : symL t.data.toList > 0
    · have hp : (t.size : Int) > 0 := by have := symL_le t.data.toList; omega
      rw [if_pos hp]
      have hl := longest_ref k (by omega) t 0 (Nat.zero_le _) ht
      rw [symT_L, Lib.extract_data, List.drop_zero, List.take_of_length_le (by rw [zbu]; exact Nat.le_refl _)] at hl
      rw [show ((0 : Nat) : Int) = 0 from rfl] at hl
      rw [hl, Option.bind_some, hz]
      by_cases h5 : symL t.data.toList = (t.data.toList.length : Int)
      · rw [beq_t h5, if_pos ⟨h4, h5⟩]; rfl
      · rw [beq_f h5, if_neg (fun h => h5 h.2)]; rfl
    · rw [if_neg (show ¬ (symL t.data.toList > 0 ∧ symL t.data.toList = (t.data.toList.length : Int)) from fun h => h4 h.1)]
      by_cases hp : (t.size : Int) > 0
      · rw [if_pos hp]
        have hl := longest_ref k (by omega) t 0 (Nat.zero_le _) ht
        rw [symT_L, Lib.extract_data, List.drop_zero, List.take_of_length_le (by rw [zbu]; exact Nat.le_refl _)] at hl
        rw [show ((0 : Nat) : Int) = 0 from rfl] at hl
        rw [hl, Option.bind_some, hz, beq_f (by have := symL_le t.data.toList; omega)]; rfl
      · rw [if_neg hp]; rfl
  · rw [if_neg h3, if_neg h3]; rfl
end Go.Proofs.YtgmmngipnjmkfaaGreatDoor.PureL
end
section
namespace Go.Proofs.YtgmmngipnjmkfaaGreatDoor.Q
open Go.Proofs.YtgmmngipnjmkfaaGreatDoor.Hand
open Go.RowKit Go.Proofs.YtgmmngipnjmkfaaGreatDoorW.PrintWords Go.Proofs.YtgmmngipnjmkfaaGreatDoorW.PrintLast Go.Proofs.YtgmmngipnjmkfaaGreatDoorW.PrintMore
attribute [local go_sem] zda zdb zdm zdn zcq zcr zdc zdd
set_option linter.unusedVariables false
set_option linter.unusedSimpArgs false
theorem eqA43 (d : Nat) (w : World) (x0 y0 : Int) (x1 y1 : Int) (x2 y2 : Int) (x3 y3 : Int) (x4 y4 : Int) :
    (Op.equalIn (d + 2) 43 (.agg #[.int .u8 x0, .int .i64 x1, .int .i64 x2, .int .i64 x3, .int .i64 x4]) (.agg #[.int .u8 y0, .int .i64 y1, .int .i64 y2, .int .i64 y3, .int .i64 y4])).run Tryz.prog w = .ok (x0 == y0 && (x1 == y1 && (x2 == y2 && (x3 == y3 && (x4 == y4))))) w := by
  refine eqA_of Tryz.underlying43 (by kernel_rfl) ?_
  refine zdu (by rfl) (by go_simp; rfl) (by go_simp; rfl) (by go_simp) ?_
  refine zdu (by rfl) (by go_simp; rfl) (by go_simp; rfl) (by go_simp) ?_
  refine zdu (by rfl) (by go_simp; rfl) (by go_simp; rfl) (by go_simp) ?_
  refine zdu (by rfl) (by go_simp; rfl) (by go_simp; rfl) (by go_simp) ?_
  exact eqf_last (by rfl) (by go_simp; rfl) (by go_simp; rfl) (by go_simp)
end Go.Proofs.YtgmmngipnjmkfaaGreatDoor.Q
end
section
namespace Go.Proofs.YtgmmngipnjmkfaaGreatDoor.PureL
set_option linter.unusedVariables false
open Go.RowKit Go.Proofs.YtgmmngipnjmkfaaGreatDoor.Hand Go.Proofs.YtgmmngipnjmkfaaGreatDoor.Q Go.Proofs.YtgmmngipnjmkfaaGreatDoorW.PrintWords Go.Proofs.YtgmmngipnjmkfaaGreatDoorW.PrintLast Go.Proofs.YtgmmngipnjmkfaaGreatDoorW.PrintMore
open Go.Proofs.YtgmmngipnjmkfaaGreatDoor.Pure (Nd)
theorem asked_l0 (L : List Tk) (hl : L.length ≤ 200) (hs : ∀ t ∈ L, t.f1.size ≤ 140737488351232) (at_ : Int) (d : Nat) : ∀ (k i : Nat), L.length - i = d → i ≤ L.length → 2 * d + 300000000000000 < k →
    ∃ c, zam.l0 k L at_ (i : Int) = some c ∧ (c = 0 → (∀ t ∈ L.drop i, chkT t = 0 ∧ 0 ≤ t.f2 ∧ t.f2 ≤ 400 ∧ t.f1.size ≤ 140737488351232) ∧ 0 ≤ at_ ∧ at_ ≤ (L.length : Int)) := by
  induction d with
  | zero =>
    intro k i hd hi hk
    obtain ⟨k, rfl⟩ : ∃ m, k = m + 1 := ⟨k - 1, by omega⟩
    simp only [zam.l0]
    rw [if_neg (by omega)]
    by_cases h1 : at_ < 0
    · rw [if_pos h1]; exact ⟨_, rfl, fun h => by cases h⟩
    · rw [if_neg h1]
      by_cases h2 : at_ > (L.length : Int)
      · rw [if_pos h2]; exact ⟨_, rfl, fun h => by cases h⟩
      · rw [if_neg h2]
        exact ⟨_, rfl, fun _ => ⟨fun t ht => (by rw [List.drop_of_length_le (by omega)] at ht; cases ht), by omega, by omega⟩⟩
  | succ d ih =>
    intro k i hd hi hk
    obtain ⟨k, rfl⟩ : ∃ m, k = m + 1 := ⟨k - 1, by omega⟩
    obtain ⟨k, rfl⟩ : ∃ m, k = m + 1 := ⟨k - 1, by omega⟩
    have hlt : i < L.length := by omega
    have hz := hs L[i] (List.getElem_mem hlt)
    have hv := valid_f (k + 1) L[i].f0 L[i].f1 L[i].f2 (by omega) hz
    have hw : wrap64 ((i : Int) + 1) = ((i + 1 : Nat) : Int) := by clear ih hv; unfold wrap64; omega
    have hj : ∀ b, zam.j1 (k + 1) L at_ (i : Int) b = if b = true then some 8 else zam.l0 k L at_ ((i + 1 : Nat) : Int) := fun b => by
      simp only [zam.j1]; rw [hw]
    simp only [zam.l0]
    rw [if_pos (by omega), if_pos (by omega), rd_get L i hlt, hv, Option.bind_some, hj, hj]
    by_cases c0 : chk L[i].f0 L[i].f1.data.toList = 0
    · rw [decide_eq_true c0, if_pos rfl]
      by_cases c1 : L[i].f2 < 0
      · rw [if_pos c1, if_pos rfl]; exact ⟨_, rfl, fun h => by cases h⟩
      · rw [if_neg c1]
        by_cases c2 : L[i].f2 > 400
        · rw [decide_eq_true c2, if_pos rfl]; exact ⟨_, rfl, fun h => by cases h⟩
        · rw [decide_eq_false c2, if_neg (by decide)]
          obtain ⟨c, hc, hf⟩ := ih k (i + 1) (by omega) (by omega) (by omega)
          refine ⟨c, hc, fun h => ⟨fun t ht => ?_, (hf h).2⟩⟩
          rw [List.drop_eq_getElem_cons hlt] at ht
          rcases List.mem_cons.1 ht with rfl | ht
          · exact ⟨c0, by omega, by omega, hz⟩
          · exact (hf h).1 t ht
    · rw [decide_eq_false c0, if_neg (by decide), if_pos rfl]; exact ⟨_, rfl, fun h => by cases h⟩
theorem asked_f (L : List Tk) (hs : ∀ t ∈ L, t.f1.size ≤ 140737488351232) (at_ : Int) (k : Nat) (hk : 300000000000401 ≤ k) :
    ∃ c, zam.f k L at_ = some c ∧ (c = 0 → Good L ∧ 0 ≤ at_ ∧ at_ ≤ (L.length : Int)) := by
  unfold zam.f
  by_cases h : (L.length : Int) > 200
  · rw [if_pos h]; exact ⟨_, rfl, fun h => by cases h⟩
  · rw [if_neg h]
    obtain ⟨c, hc, hf⟩ := asked_l0 L (by omega) hs at_ L.length k 0 (by omega) (by omega) (by omega)
    exact ⟨c, hc, fun h0 => ⟨⟨by omega, (hf h0).1⟩, (hf h0).2⟩⟩
theorem rdN_get (l : List Nd) (i : Nat) (h : i < l.length) : zbf l (i : Int) = l[i] := by simp [zbf, h]
end Go.Proofs.YtgmmngipnjmkfaaGreatDoor.PureL
end
section
namespace Go.Proofs.YtgmmngipnjmkfaaGreatDoor.PureL
set_option linter.unusedVariables false
set_option linter.unusedSectionVars false
open Go.RowKit Go.Proofs.YtgmmngipnjmkfaaGreatDoor.Hand Go.Proofs.YtgmmngipnjmkfaaGreatDoor.Q Go.Proofs.YtgmmngipnjmkfaaGreatDoorW.PrintWords Go.Proofs.YtgmmngipnjmkfaaGreatDoorW.PrintLast Go.Proofs.YtgmmngipnjmkfaaGreatDoorW.PrintMore
open Go.Proofs.YtgmmngipnjmkfaaGreatDoor.Pure (Tr Ct Res Nd cdAt posAt sl places scan Took evp nums plainT)
theorem scan_prefix : ∀ (S T : List Ct) (d e : Nat), scan (S ++ T) d = some e → ∃ o, scan S d = some o ∧ scan T o = some e
  | [], T, d, e, h => ⟨d, rfl, h⟩
  | t :: r, T, d, e, h => by
    simp only [scan, List.cons_append] at h ⊢
    by_cases h5 : t.c = 5
    · rw [if_pos h5] at h ⊢; exact scan_prefix r T _ _ h
    · rw [if_neg h5] at h ⊢
      by_cases h6 : t.c = 6
      · rw [if_pos h6] at h ⊢
        cases d with
        | zero => cases h
        | succ d => exact scan_prefix r T _ _ h
      · rw [if_neg h6] at h ⊢; exact scan_prefix r T _ _ h
theorem sl_succ (L : List Ct) {a i : Nat} (h1 : a ≤ i) (h2 : i < L.length) : sl L a (i + 1) = sl L a i ++ [L[i]] := by
  rw [Pure.zc0 L h1 (Nat.le_succ i)]
  congr 1
  unfold sl
  rw [show i + 1 - i = 1 by omega, List.drop_eq_getElem_cons h2]; rfl
def opn (L : List Tk) (a i : Nat) : Nat := (scan (sl (CL L) a i) 0).getD 0
def cnt (L : List Tk) (a i : Nat) : Nat := (places (sl (CL L) a i)).length
def num (L : List Tk) (a i : Nat) (p : Int) : Nat := (places (sl (CL L) a i)).count p
theorem at_first (L : List Tk) (a : Nat) (p : Int) : opn L a a = 0 ∧ cnt L a a = 0 ∧ num L a a p = 0 := by
  unfold opn cnt num; rw [Pure.sl_self]; exact ⟨rfl, rfl, rfl⟩
theorem CL_get (L : List Tk) (i : Nat) (h : i < L.length) : (CL L)[i]'(by rw [zcu]; exact h) = cT L[i] := by unfold CL; rw [List.getElem_map]
def Run (L : List Tk) (a q : Nat) : Prop := a ≤ q ∧ q ≤ L.length ∧ scan (sl (CL L) a q) 0 = some 0
theorem Run.at {L : List Tk} {a q : Nat} (h : Run L a q) {i : Nat} (h1 : a ≤ i) (h2 : i ≤ q) : scan (sl (CL L) a i) 0 = some (opn L a i) ∧ ∃ e, scan (sl (CL L) i q) (opn L a i) = some e := by
  have hs := h.2.2
  rw [Pure.zc0 (CL L) h1 h2] at hs
  obtain ⟨o, h3, h4⟩ := scan_prefix _ _ _ _ hs
  have : opn L a i = o := by unfold opn; rw [h3]; rfl
  rw [this]; exact ⟨h3, 0, h4⟩
theorem zdq (S : List Ct) (t : Ct) : places (S ++ [t]) = places S ++ (if t.c = 5 ∨ t.c = 6 then [] else [t.p]) := by
  unfold places
  rw [List.filter_append, List.map_append]
  congr 1
  by_cases h : t.c = 5 ∨ t.c = 6
  · rw [if_pos h]
    have : plainT t = false := by unfold plainT; rcases h with h | h <;> simp [h]
    simp [this]
  · rw [if_neg h]
    have : plainT t = true := by unfold plainT; simp only [Bool.and_eq_true, bne_iff_ne]; exact ⟨fun e => h (.inl e), fun e => h (.inr e)⟩
    simp [this]
section
variable {L : List Tk} {a q i : Nat} (h : Run L a q) (h1 : a ≤ i) (h2 : i < q)
include h h1 h2
theorem Run.lt : i < L.length := Nat.lt_of_lt_of_le h2 h.2.1
theorem Run.sl : sl (CL L) a (i + 1) = sl (CL L) a i ++ [cT (L[i]'(h.lt h1 h2))] := by
  rw [sl_succ (CL L) h1 (by rw [zcu]; exact h.lt h1 h2), CL_get]
theorem Run.open_ (hc : (cT (L[i]'(h.lt h1 h2))).c = 5) : opn L a (i + 1) = opn L a i + 1 ∧ cnt L a (i + 1) = cnt L a i ∧ ∀ p, num L a (i + 1) p = num L a i p := by
  have hs := (h.at h1 (Nat.le_of_lt h2)).1
  refine ⟨?_, ?_, fun p => ?_⟩
  · unfold opn at hs ⊢
    rw [h.sl h1 h2, Pure.zcl _ _ _ _ hs]; simp [scan, hc]
  · unfold cnt; rw [h.sl h1 h2, zdq, if_pos (.inl hc), List.append_nil]
  · unfold num; rw [h.sl h1 h2, zdq, if_pos (.inl hc), List.append_nil]
theorem Run.close_ (hc : (cT (L[i]'(h.lt h1 h2))).c = 6) : opn L a i = opn L a (i + 1) + 1 ∧ cnt L a (i + 1) = cnt L a i ∧ ∀ p, num L a (i + 1) p = num L a i p := by
  have hs := (h.at h1 (Nat.le_of_lt h2)).1
  have hn := (h.at (i := i + 1) (by omega) h2).1
  refine ⟨?_, ?_, fun p => ?_⟩
  · rw [h.sl h1 h2, Pure.zcl _ _ _ _ hs] at hn
    simp only [scan, hc] at hn
    rw [if_neg (by decide), if_pos trivial] at hn
    cases ho : opn L a i with
    | zero => rw [ho] at hn; cases hn
    | succ d => rw [ho] at hn; injection hn with hn; omega
  · unfold cnt; rw [h.sl h1 h2, zdq, if_pos (.inr hc), List.append_nil]
  · unfold num; rw [h.sl h1 h2, zdq, if_pos (.inr hc), List.append_nil]
theorem Run.none_ (h5 : (cT (L[i]'(h.lt h1 h2))).c ≠ 5) (h6 : (cT (L[i]'(h.lt h1 h2))).c ≠ 6) : opn L a (i + 1) = opn L a i ∧ cnt L a (i + 1) = cnt L a i + 1 ∧ ∀ p, num L a (i + 1) p = num L a i p + if (L[i]'(h.lt h1 h2)).f2 = p then 1 else 0 := by
  have hs := (h.at h1 (Nat.le_of_lt h2)).1
  have hn := zdq (Pure.sl (CL L) a i) (cT (L[i]'(h.lt h1 h2)))
  rw [if_neg (by rintro (e | e); exact h5 e; exact h6 e), cT_p] at hn
  refine ⟨?_, ?_, fun p => ?_⟩
  · unfold opn at hs ⊢
    rw [h.sl h1 h2, Pure.zcl _ _ _ _ hs]; simp [scan, h5, h6]
  · unfold cnt; rw [h.sl h1 h2, hn, List.length_append]; rfl
  · unfold num; rw [h.sl h1 h2, hn, List.count_append, List.count_singleton]
    congr 1
    by_cases e : (L[i]'(h.lt h1 h2)).f2 = p
    · rw [if_pos e, if_pos (by simpa using e)]
    · rw [if_neg e, if_neg (by simpa using e)]
end
theorem scan_le : ∀ (S : List Ct) (d o : Nat), scan S d = some o → o ≤ d + S.length
  | [], d, o, h => by injection h with h; simp; omega
  | t :: r, d, o, h => by
    simp only [scan] at h
    by_cases h5 : t.c = 5
    · rw [if_pos h5] at h; have := scan_le r _ _ h; rw [List.length_cons]; omega
    · rw [if_neg h5] at h
      by_cases h6 : t.c = 6
      · rw [if_pos h6] at h
        cases d with
        | zero => cases h
        | succ d => have := scan_le r _ _ h; rw [List.length_cons]; omega
      · rw [if_neg h6] at h; have := scan_le r _ _ h; rw [List.length_cons]; omega
theorem sl_len (L : List Ct) (a i : Nat) : (sl L a i).length ≤ L.length := by
  unfold sl; rw [List.length_take, List.length_drop]; omega
theorem counts_le {L : List Tk} {a q : Nat} (h : Run L a q) (hl : L.length ≤ 200) {i : Nat} (h1 : a ≤ i) (h2 : i ≤ q) : opn L a i ≤ 200 ∧ cnt L a i ≤ 200 ∧ ∀ p, num L a i p ≤ 200 := by
  have hs := sl_len (CL L) a i
  rw [zcu] at hs
  have h3 := scan_le _ _ _ (h.at h1 h2).1
  have h4 : cnt L a i ≤ (sl (CL L) a i).length := by
    unfold cnt places; rw [List.length_map]; exact List.length_filter_le _ _
  refine ⟨by omega, by omega, fun p => ?_⟩
  have : num L a i p ≤ cnt L a i := List.count_le_length
  omega
theorem flat_evp : ∀ (t : Tr) (o : Nat), (t.flat o).map (fun x => x.f4) = evp t
  | .leaf .., _ => rfl
  | .un k p a, o => by simp [Tr.flat, evp, flat_evp a o]
  | .bin k p a b, o => by simp [Tr.flat, evp, flat_evp a o, flat_evp b (o + a.size)]
theorem bracket_f (t : Tk) (h : chkT t = 0) : zbo.f t.f0 t.f1 t.f2 = some (decide ((cT t).c = 5 ∨ (cT t).c = 6)) := by
  have ht : ba t.f1.data.toList = t.f1 := (ba_of rfl).symm
  have c5 := code_iff t.f1.data.toList 5 (by decide)
  have c6 := code_iff t.f1.data.toList 6 (by decide)
  rw [show ofCode 5 = [40] from rfl] at c5
  rw [show ofCode 6 = [41] from rfl] at c6
  unfold zbo.f
  unfold chkT chk at h
  by_cases h1 : t.f0 = 1
  · rw [if_neg (by omega)]
    unfold cT
    rw [if_pos h1]; rfl
  · have hcT : (cT t).c = codeS t.f1.data.toList := by unfold cT; rw [if_neg h1]
    rw [hcT]
    rw [if_neg h1] at h
    by_cases h3 : t.f0 = 3
    · rw [if_pos h3, ByteArray.toList_eq]
      by_cases e5 : t.f1.data.toList = [40]
      · rw [if_pos e5, decide_eq_true (.inl (c5.2 e5))]
      · rw [if_neg e5]
        by_cases e6 : t.f1.data.toList = [41]
        · rw [decide_eq_true (.inr (c6.2 e6)), e6]; rfl
        · rw [decide_eq_false (by rintro (e | e); exact e5 (c5.1 e); exact e6 (c6.1 e))]
          congr 1
          exact beq_eq_false_iff_ne.2 e6
    · rw [if_neg h3]
      by_cases h2 : t.f0 = 2
      · rw [if_pos h2, ht] at h
        have hw : isWord t.f1 = true := by
          cases hw : isWord t.f1 with
          | true => rfl
          | false => rw [hw] at h; exact absurd h (by decide)
        have n5 : isWord (ba [40]) = false := by kernel_rfl
        have n6 : isWord (ba [41]) = false := by kernel_rfl
        rw [decide_eq_false]
        rintro (e | e)
        · rw [← ht, c5.1 e, n5] at hw; cases hw
        · rw [← ht, c6.1 e, n6] at hw; cases hw
      · rw [if_neg h2, if_neg h3] at h; exact absurd h (by decide)
theorem parsed_run {L : List Tk} (hL : Good L) {a : Nat} (ha : a ≤ L.length) {k : Nat} {t : Tr} {q : Nat} (h : Pure.run (CL L) k (.expr 1) a = some (.ok t q)) : Run L a q ∧ t.ok ∧ a < q ∧ cnt L a q = t.size ∧ (∀ p, num L a q p = (evp t).count p) ∧ opn L a q = 0 := by
  have hv : Pure.valid (CL L) := (fineB_iff.1 (good_fine hL)).valid
  obtain ⟨h1, h2, hT⟩ := Pure.run_took hv k (.expr 1) a _ trivial h
  have hb := run_bound L (j := .expr 1) ⟨by decide, by decide⟩ ha h
  have hs := hT.br 0
  refine ⟨⟨h1, by have := hb.1; rwa [zcu] at this, hs⟩, h2, hb.2, ?_, fun p => hT.at_.count_eq p, by unfold opn; rw [hs]; rfl⟩
  unfold cnt
  rw [hT.at_.length_eq, ← flat_evp t 0, List.length_map, t.zb7]
end Go.Proofs.YtgmmngipnjmkfaaGreatDoor.PureL
end
section
namespace Go.Proofs.YtgmmngipnjmkfaaGreatDoor.PureL
open Go.RowKit Go.Proofs.YtgmmngipnjmkfaaGreatDoor.Hand Go.Proofs.YtgmmngipnjmkfaaGreatDoor.Q Go.Proofs.YtgmmngipnjmkfaaGreatDoorW.PrintWords Go.Proofs.YtgmmngipnjmkfaaGreatDoorW.PrintLast Go.Proofs.YtgmmngipnjmkfaaGreatDoorW.PrintMore
set_option linter.unusedVariables false
theorem great_l0 (l : List S33) (d : Nat) : ∀ (k i : Nat), 220 - i = d → i ≤ 220 → i ≤ l.length → d < k →
    ∃ b, zaz.l0 k l (i : Int) = some b ∧ (b = false → l.length ≤ 220 ∧ ∀ t ∈ l.drop i, t.f1.size ≤ 500) := by
  induction d with
  | zero =>
    intro k i hd hi hl hk
    obtain ⟨k, rfl⟩ : ∃ m, k = m + 1 := ⟨k - 1, by omega⟩
    simp only [zaz.l0]
    by_cases h : (i : Int) < (l.length : Int)
    · rw [if_pos h, if_pos (by omega)]; exact ⟨true, rfl, fun h => by cases h⟩
    · rw [if_neg h]
      refine ⟨false, rfl, fun _ => ⟨by omega, fun t ht => ?_⟩⟩
      rw [List.drop_of_length_le (by omega)] at ht; cases ht
  | succ d ih =>
    intro k i hd hi hl hk
    obtain ⟨k, rfl⟩ : ∃ m, k = m + 1 := ⟨k - 1, by omega⟩
    simp only [zaz.l0]
    by_cases h : (i : Int) < (l.length : Int)
    · have hli : i < l.length := by omega
      have hw : wrap64 ((i : Int) + 1) = ((i + 1 : Nat) : Int) := by clear ih; unfold wrap64; omega
      rw [if_pos h, if_neg (by clear hw; omega), if_pos (by clear hw; omega), rd_get l i hli, hw]
      by_cases h5 : (l[i].f1.size : Int) > 500
      · rw [if_pos h5]; exact ⟨true, rfl, fun h => by cases h⟩
      · rw [if_neg h5]
        obtain ⟨b, hb, hf⟩ := ih k (i + 1) (by clear hw; omega) (by clear hw; omega) (by clear hw; omega) (by clear hw; omega)
        refine ⟨b, hb, fun e => ⟨(hf e).1, fun t ht => ?_⟩⟩
        rw [List.drop_eq_getElem_cons hli] at ht
        rcases List.mem_cons.1 ht with rfl | ht
        · clear hw; omega
        · exact (hf e).2 t ht
    · rw [if_neg h]
      refine ⟨false, rfl, fun _ => ⟨by omega, fun t ht => ?_⟩⟩
      rw [List.drop_of_length_le (by omega)] at ht; cases ht
theorem great_f (l : List S33) (k : Nat) (hk : 221 < k) : ∃ b, zaz.f k l = some b ∧ (b = false → l.length ≤ 220 ∧ ∀ t ∈ l, t.f1.size ≤ 500) :=
  great_l0 l 220 k 0 rfl (by omega) (by omega) (by omega)
end Go.Proofs.YtgmmngipnjmkfaaGreatDoor.PureL
end
section
namespace Go.Proofs.YtgmmngipnjmkfaaGreatDoor.PureL
set_option linter.unusedVariables false
set_option linter.unusedSimpArgs false
open Go.RowKit Go.Proofs.YtgmmngipnjmkfaaGreatDoor.Hand Go.Proofs.YtgmmngipnjmkfaaGreatDoor.Q Go.Proofs.YtgmmngipnjmkfaaGreatDoorW.PrintWords Go.Proofs.YtgmmngipnjmkfaaGreatDoorW.PrintLast Go.Proofs.YtgmmngipnjmkfaaGreatDoorW.PrintMore
open Go.Proofs.YtgmmngipnjmkfaaGreatDoor.Pure (Tr Ct Res Nd evp)
set_option maxRecDepth 100000 in
set_option maxHeartbeats 8000000 in
theorem counts_great (K : Nat) (A0 : Option Addr) (c0 : Nat) (l0 : List Tk) (a1 : Int) (w : World) (hc0 : l0.length ≤ c0) (hr0 : Kd.C k33 w A0 l0.length l0) (hT : Tabs w) (hg : zaz.f K l0 = some true) :
    Calls Tryz.prog 4 #[.slice A0 l0.length c0, .int .i64 a1] w fun e w' => e = .returned (.bool true) ∧ Below w.heap.size w w' := by
  have HR := Lib.hid hr0
  have HC := Lib.hid hc0
  have HT := Lib.hid hT
  have HG := Lib.hid hg
  have HA := Lib.hid (alive_any 500 (Nat.le_refl _))
  clear hr0 hc0 hT hg
  go_enter Tryz.func4, Tryz.ntmps4
  go_wp2_with (first | (go_at_call 13; refine (zaz.calls K A0 c0 l0 true _ HR.out HC.out HG.out).mono ?_; rintro e w1 ⟨rfl, nd, rfl⟩) | (go_at_call 12; go_loud (refine (zbc.calls 500 true _ (Tabs.below HT.out (by repeat (first | exact Below.refl _ _ | apply zac | apply zaa))) HA.out).mono ?_); rintro e w1 ⟨rfl, hb⟩; have HB := Lib.hid hb; clear hb))
  go_ret
  exact ⟨rfl, zaf (zaa (Below.refl _ _) _) HB.out⟩
set_option maxRecDepth 100000 in
set_option maxHeartbeats 8000000 in
theorem counts_asked (K : Nat) (A0 : Option Addr) (c0 : Nat) (l0 : List Tk) (a1 : Int) (w : World) (hc0 : l0.length ≤ c0) (hr0 : Kd.C k33 w A0 l0.length l0) (hT : Tabs w) (hg : zaz.f K l0 = some false) (c : Int) (ha : zam.f K l0 a1 = some c) (hc : c ≠ 0) :
    Calls Tryz.prog 4 #[.slice A0 l0.length c0, .int .i64 a1] w fun e w' => e = .returned (.bool true) ∧ Below w.heap.size w w' := by
  have HR := Lib.hid hr0
  have HC := Lib.hid hc0
  have HT := Lib.hid hT
  have HG := Lib.hid hg
  have HK := Lib.hid ha
  have hcb : (c != 0) = true := bne_iff_ne.2 hc
  have HA := Lib.hid (alive_any 500 (Nat.le_refl _))
  clear hr0 hc0 hT hg ha hc
  go_enter Tryz.func4, Tryz.ntmps4
  go_wp2_with (first | (go_at_call 13; refine (zaz.calls K A0 c0 l0 false _ HR.out HC.out HG.out).mono ?_; rintro e w1 ⟨rfl, nd, rfl⟩) | (go_at_call 14; refine (zam.calls K A0 c0 l0 a1 c _ (Kd.zb6 HR.out _) HC.out HK.out).mono ?_; rintro e w1 ⟨rfl, hb⟩; have HB1 := Lib.hid (zaf (zaa (Below.refl w.heap.size w) _) hb); clear hb) | (go_at_call 12; refine (zbc.calls 500 true _ (Tabs.below HT.out HB1.out) HA.out).mono ?_; rintro e w1 ⟨rfl, hb⟩; have HB := Lib.hid hb; clear hb))
  go_ret
  exact ⟨rfl, zaf HB1.out HB.out⟩
set_option maxRecDepth 100000 in
set_option maxHeartbeats 8000000 in
theorem counts_bad (K : Nat) (A0 : Option Addr) (c0 : Nat) (l0 : List Tk) (a1 : Int) (w : World) (hc0 : l0.length ≤ c0) (hr0 : Kd.C k33 w A0 l0.length l0) (hT : Tabs w) (hg : zaz.f K l0 = some false) (ha : zam.f K l0 a1 = some 0)
    (q e : Int) (hp : za8.f K l0 a1 = some ([], q, e)) (he : e ≠ 0) (hq1 : a1 ≤ q) (hq2 : q ≤ (l0.length : Int)) :
    Calls Tryz.prog 4 #[.slice A0 l0.length c0, .int .i64 a1] w fun e w' => e = .returned (.bool true) ∧ Below w.heap.size w w' := by
  have HR := Lib.hid hr0
  have HC := Lib.hid hc0
  have HT := Lib.hid hT
  have HG := Lib.hid hg
  have HK := Lib.hid ha
  have HP := Lib.hid hp
  have heb : (e != 0) = true := bne_iff_ne.2 he
  have hb1 : decide (a1 ≤ q) = true := decide_eq_true hq1
  have hb1' : decide (q ≥ a1) = true := decide_eq_true hq1
  have hb2 : decide (q ≤ (l0.length : Int)) = true := decide_eq_true hq2
  have HA := Lib.hid (alive_any 500 (Nat.le_refl _))
  clear hr0 hc0 hT hg ha hp he hq1 hq2
  go_enter Tryz.func4, Tryz.ntmps4
  go_wp2_with (first | (go_at_call 13; refine (zaz.calls K A0 c0 l0 false _ HR.out HC.out HG.out).mono ?_; rintro e w1 ⟨rfl, nd, rfl⟩) | (go_at_call 14; refine (zam.calls K A0 c0 l0 a1 0 _ (Kd.zb6 HR.out _) HC.out HK.out).mono ?_; rintro e w1 ⟨rfl, hb⟩; have HB1 := Lib.hid (zaf (zaa (Below.refl w.heap.size w) _) hb); clear hb) | (go_at_call 10; refine (za8.calls K A0 c0 l0 a1 [] q e _ (Kd.zca HR.out HB1.out) HC.out (Tabs.below HT.out HB1.out) HP.out).mono ?_; rintro e w2 ⟨v, rfl, hv, hb⟩; obtain ⟨A2, c2, rfl⟩ := Kd.zbk hv; have HB2 := Lib.hid (zaf HB1.out hb); clear hb hv) | (go_at_call 12; refine (zbc.calls 500 true _ (Tabs.below HT.out HB2.out) HA.out).mono ?_; rintro e w1 ⟨rfl, hb⟩; have HB := Lib.hid hb; clear hb))
  go_ret
  exact ⟨rfl, zaf HB2.out HB.out⟩
end Go.Proofs.YtgmmngipnjmkfaaGreatDoor.PureL
end
section
namespace Go.Proofs.YtgmmngipnjmkfaaGreatDoor.PureL
set_option linter.unusedVariables false
set_option linter.unusedSimpArgs false
open Go.Proofs.YtgmmngipnjmkfaaGreatDoor.Pure (Tr Ct Res Nd evp)
open Go.RowKit Go.Proofs.YtgmmngipnjmkfaaGreatDoor.Hand Go.Proofs.YtgmmngipnjmkfaaGreatDoor.Q Go.Proofs.YtgmmngipnjmkfaaGreatDoorW.PrintWords Go.Proofs.YtgmmngipnjmkfaaGreatDoorW.PrintLast Go.Proofs.YtgmmngipnjmkfaaGreatDoorW.PrintMore
def zer : Array Value := (List.replicate 401 (Value.int .i64 0)).toArray
theorem info_arr : (Tryz.prog.info? 40).map (fun i => (i.zero, i.size, i.bytes)) = some (some (.agg zer), 401, 3208) := by kernel_rfl
theorem zero_arr (w : World) : (zeroValue 40).run Tryz.prog w = .ok (.agg zer) w := by
  have h := info_arr
  generalize zer = z at h ⊢
  obtain ⟨i0, hi, hz0, -, -⟩ := info_parts h
  simp [zeroValue, typeInfo, hi, hz0]
structure Arr (W : World) (g : Nat) (F : Nat → Int) : Prop where
  ex : ∃ cs : Array Value, W.heap[g]? = some (.cells cs 40 (0, 0)) ∧ ∀ p, p < 401 → cs[p]? = some (.int .i64 (F p))
theorem Arr.cell {W : World} {g : Nat} {F : Nat → Int} (h : Arr W g F) (p : Nat) (hp : p < 401) : W.cell? ⟨g, p, none⟩ = some (.int .i64 (F p)) := by
  obtain ⟨cs, h1, h2⟩ := h.ex
  rw [zal h1]; exact h2 p hp
theorem Arr.below {W W1 : World} {g : Nat} {F : Nat → Int} (h : Arr W g F) (hb : Below W.heap.size W W1) : Arr W1 g F := by
  obtain ⟨cs, h1, h2⟩ := h.ex
  exact ⟨cs, zbn h1 hb, h2⟩
theorem Arr.set {W : World} {g : Nat} {F G : Nat → Int} (h : Arr W g F) (p : Nat) (v : Int) (hG : ∀ i, i < 401 → G i = if i = p then v else F i) : Arr (W.setCell ⟨g, p, none⟩ (.int .i64 v)) g G := by
  obtain ⟨cs, h1, h2⟩ := h.ex
  refine ⟨_, blk_set h1 p _, fun i hi => ?_⟩
  rw [hG i hi]
  have hlt : i < cs.size := (Array.getElem?_eq_some_iff.1 (h2 i hi)).1
  by_cases e : i = p
  · subst e; rw [if_pos rfl, Array.getElem?_setIfInBounds_self_of_lt hlt]
  · rw [if_neg e, Array.getElem?_setIfInBounds_ne (fun e2 => e e2.symm)]; exact h2 i hi
theorem wr_up {n m : Nat} (h : m = n + 1) (hn : n ≤ 200) : wrap64 ((n : Int) + 1) = (m : Int) := by rw [zb4 (by omega) (by omega)]; omega
theorem wr_dn {n m : Nat} (h : n = m + 1) (hn : n ≤ 200) : wrap64 ((n : Int) - 1) = (m : Int) := by rw [zb4 (by omega) (by omega)]; omega
theorem wr_in {z : Int} (h0 : -1000 ≤ z) (h1 : z ≤ 1000) : wrap64 z = z := zb4 (by omega) (by omega)
theorem evp_range : ∀ (t : Tr), t.WF → ∀ p ∈ evp t, 0 ≤ p ∧ p ≤ 400
  | .leaf k n p, h, q, hq => by
    obtain ⟨_, _, _, _, _, h6, h7⟩ := h
    rw [evp, List.mem_singleton] at hq; subst hq; exact ⟨h6, h7⟩
  | .un k p a, h, q, hq => by
    rw [evp, List.mem_append, List.mem_singleton] at hq
    rcases hq with hq | rfl
    · exact evp_range a h.2.2.2 q hq
    · exact ⟨h.2.1, h.2.2.1⟩
  | .bin k p a b, h, q, hq => by
    rw [evp, List.mem_append, List.mem_append, List.mem_singleton] at hq
    rcases hq with hq | hq | rfl
    · exact evp_range a h.2.2.2.2.1 q hq
    · exact evp_range b h.2.2.2.2.2 q hq
    · exact ⟨h.2.2.1, h.2.2.2.1⟩
def lft (N : Int → Nat) (E : List Int) (j : Nat) (p : Nat) : Int := (N (p : Int) : Int) - ((E.take j).count (p : Int) : Int)
theorem lft_succ (N : Int → Nat) (E : List Int) (j : Nat) (h : j < E.length) (p : Nat) : lft N E (j + 1) p = lft N E j p - if E[j] = (p : Int) then 1 else 0 := by
  unfold lft
  rw [List.take_succ_eq_append_getElem h, List.count_append, List.count_singleton]
  by_cases e : E[j] = (p : Int)
  · rw [if_pos e, if_pos (by simpa using e)]; omega
  · rw [if_neg e, if_neg (by simpa using e)]; omega
theorem lft_range {N : Int → Nat} {E : List Int} (hN : ∀ p, N p ≤ 200) (hE : E.length ≤ 200) (j p : Nat) : -200 ≤ lft N E j p ∧ lft N E j p ≤ 200 := by
  have h1 := hN (p : Int)
  have h2 : (E.take j).count (p : Int) ≤ (E.take j).length := List.count_le_length
  have h3 : (E.take j).length ≤ E.length := by rw [List.length_take]; omega
  unfold lft; omega
theorem zer_at (p : Nat) (hp : p < 401) : zer[p]? = some (.int .i64 0) := by
  unfold zer; rw [List.getElem?_toArray, List.getElem?_replicate, if_pos hp]
set_option maxRecDepth 100000 in
set_option maxHeartbeats 8000000 in
theorem counts_main (K : Nat) (A0 : Option Addr) (c0 : Nat) (l0 : List Tk) (a : Nat) (w : World) (hc0 : l0.length ≤ c0) (hr0 : Kd.C k33 w A0 l0.length l0) (hT : Tabs w) (hg : zaz.f K l0 = some false) (ha : zam.f K l0 (a : Int) = some 0)
    (hL : Good l0) (t : Tr) (q : Nat) (hp : za8.f K l0 (a : Int) = some (t.flat 0, (q : Int), 0)) (hR : Run l0 a q) (ht : t.ok) (haq : a < q) (hcn : cnt l0 a q = t.size) (hnm : ∀ p, num l0 a q p = (evp t).count p) (hop : opn l0 a q = 0) :
    Calls Tryz.prog 4 #[.slice A0 l0.length c0, .int .i64 (a : Int)] w fun e w' => e = .returned (.bool true) ∧ Below w.heap.size w w' := by
  have HR := Lib.hid hr0
  have HC := Lib.hid hc0
  have HT := Lib.hid hT
  have HG := Lib.hid hg
  have HK := Lib.hid ha
  have HP := Lib.hid hp
  have HL := Lib.hid hL
  have HRn := Lib.hid hR
  have HCN := Lib.hid hcn
  have HNM := Lib.hid hnm
  have HOP := Lib.hid hop
  have HCK := Lib.hid (ck_ok ht)
  have HTO := Lib.hid ht
  have hq : q ≤ l0.length := hR.2.1
  have hb1 : decide ((q : Int) ≤ (a : Int)) = false := decide_eq_false (by omega)
  have hb2 : decide ((q : Int) > (l0.length : Int)) = false := decide_eq_false (by omega)
  have hb3 : decide ((l0.length : Int) < (q : Int)) = false := decide_eq_false (by omega)
  have hn1 : decide (q ≤ a) = false := decide_eq_false (by omega)
  have hn2 : decide (l0.length < q) = false := decide_eq_false (by omega)
  obtain ⟨Z, hZ⟩ : ∃ Z, Z = zer := ⟨_, rfl⟩
  have hza : ∀ w, (zeroValue 40).run Tryz.prog w = .ok (.agg Z) w := fun w => by rw [hZ]; exact zero_arr w
  have HZ := Lib.hid hZ
  have HAQ := Lib.hid haq
  have HQL := Lib.hid hq
  have HA := Lib.hid (alive_any 500 (Nat.le_refl _))
  obtain ⟨x, hx⟩ : ∃ x, x = t.flat 0 := ⟨_, rfl⟩
  rw [← hx] at HP HCK
  have HX := Lib.hid hx
  clear hr0 hc0 hT hg ha hp hL hR hcn hnm hop hZ haq hq hx ht
  go_enter Tryz.func4, Tryz.ntmps4
  go_wp2_with (first | (go_at_call 13; refine (zaz.calls K A0 c0 l0 false _ HR.out HC.out HG.out).mono ?_; rintro e w1 ⟨rfl, nd, rfl⟩) | (go_at_call 14; refine (zam.calls K A0 c0 l0 a 0 _ (Kd.zb6 HR.out _) HC.out HK.out).mono ?_; rintro e w1 ⟨rfl, hb⟩; have HB1 := Lib.hid (zaf (zaa (Below.refl w.heap.size w) _) hb); clear hb) | (go_at_call 10; refine (za8.calls K A0 c0 l0 a x q 0 _ (Kd.zca HR.out HB1.out) HC.out (Tabs.below HT.out HB1.out) HP.out).mono ?_; rintro e w2 ⟨v, rfl, hv, hb⟩; obtain ⟨A2, c2, rfl⟩ := Kd.zbk hv; have HV := Lib.hid (Kd.zbg hv); have HB2 := Lib.hid (zaf HB1.out hb); clear hb hv) | (go_at_call 15; refine (zbl.calls A2 c2 x 0 _ HV.out.2.2 HV.out.2.1 HCK.out).mono ?_; rintro e w3 ⟨rfl, hb⟩; have HB3 := Lib.hid (zaf HB2.out hb); have HX3 := Lib.hid (Kd.zca HV.out.2.2 hb); clear hb))
  clear hb1 hb2 hb3 hn1 hn2 hza
  have HW4 := Lib.hid (zab (Below.refl w3.heap.size w3) (.cells Z 40 (0, 0)))
  have HA4 := Lib.hid (show Arr (w3.alloc (.cells Z 40 (0, 0))) w3.heap.size (fun _ => 0) from ⟨Z, blk_new _ _, fun p hp => by rw [HZ.out]; exact zer_at p hp⟩)
  obtain ⟨g, hg⟩ : ∃ g, g = w3.heap.size := ⟨_, rfl⟩
  rw [← hg] at HA4 ⊢
  have HGG := Lib.hid hg
  clear hg
  generalize w3.alloc (.cells Z 40 (0, 0)) = w4 at HW4 HA4 ⊢
  go_loopg [8, 9, 11] (q - a) (fun kq v8 v9 v11 W' => ∃ i : Nat, v11 = .int .i64 (i : Int) ∧ v8 = .int .i64 (cnt l0 a i : Int) ∧ v9 = .int .i64 (opn l0 a i : Int) ∧ zad (a ≤ i ∧ i + kq = q) ∧ zad (Arr W' g (fun p => (num l0 a i (p : Int) : Int))) ∧ zad (Below w3.heap.size w3 W'))
  case atStart =>
    obtain ⟨z1, z2, _⟩ := at_first l0 a 0
    exact ⟨a, rfl, by rw [z2]; rfl, by rw [z1]; rfl, ⟨Nat.le_refl _, by have := HAQ.out; omega⟩, ⟨by
      have h := HA4.out
      have e : (fun p : Nat => (num l0 a a (p : Int) : Int)) = fun _ => 0 := funext fun p => by rw [(at_first l0 a (p : Int)).2.2]; rfl
      rw [e]; exact h⟩, ⟨HW4.out⟩⟩
  case round =>
    obtain ⟨i, rfl, rfl, rfl, HQ, HF, HW3⟩ := hrel
    have HW := Lib.hid (zaf HB3.out HW3.out)
    by_cases hi : i < q
    · have hai := HQ.out.1
      have hrun := HRn.out
      have hil : i < l0.length := hrun.lt hai hi
      have hle := counts_le hrun HL.out.len hai (Nat.le_of_lt hi)
      have hle1 := counts_le hrun HL.out.len (Nat.le_succ_of_le hai) hi
      obtain ⟨hv, hp0, hp4, hps⟩ := HL.out.tok l0[i] (List.getElem_mem hil)
      have hbr := bracket_f l0[i] hv
      obtain ⟨ad, had, t0, t1, t2⟩ := zc1 (Kd.zca HR.out HW.out) (i : Int) (by omega) (by omega)
      subst had
      rw [Int.toNat_natCast] at t0 t1 t2
      rw [show za6 l0 (i : Int) = l0[i] from rd_get l0 i hil] at t0 t1 t2
      have hlt1 : decide ((i : Int) < (q : Int)) = true := decide_eq_true (by omega)
      have hlt2 : decide (i < q) = true := decide_eq_true hi
      have hltl : (i : Int) < (l0.length : Int) := by omega
      have hwi : wrap64 ((i : Int) + 1) = ((i + 1 : Nat) : Int) := wr_up rfl (Nat.le_trans (Nat.le_of_lt hil) HL.out.len)
      by_cases h5 : (cT l0[i]).c = 5
      · obtain ⟨s1, s2, s3⟩ := hrun.open_ hai hi h5
        rw [decide_eq_true (.inl h5)] at hbr
        have hn1 : l0[i].f0 ≠ 1 := fun e => by unfold cT at h5; rw [if_pos e] at h5; cases h5
        have htx : l0[i].f1 = ⟨#[40]⟩ := by
          have hc : codeS l0[i].f1.data.toList = 5 := by unfold cT at h5; rw [if_neg hn1] at h5; exact h5
          exact ba_of ((code_iff _ 5 (by decide)).1 hc)
        generalize l0[i] = tk at t0 t1 t2 hbr htx
        obtain ⟨q0, q1, q2⟩ := tk
        simp only at t0 t1 t2 hbr htx
        subst htx
        have hwo : wrap64 ((opn l0 a i : Int) + 1) = ((opn l0 a (i + 1) : Nat) : Int) := wr_up s1 hle.1
        have hneg : decide (((opn l0 a (i + 1) : Nat) : Int) < 0) = false := decide_eq_false (Int.not_lt.2 (Int.natCast_nonneg _))
        have HBr := Lib.hid hbr
        have HS := Lib.hid (And.intro s1 (And.intro s2 s3))
        have HI := Lib.hid hi
        clear s1 s2 s3 hbr hi hai hrun hil hle hle1 hv hp0 hp4 hps h5 hn1
        go_wp2_with (first | (go_at_call 16; refine (zbo.calls q0 ⟨#[40]⟩ q2 true _ HBr.out).mono ?_; rintro e w5 ⟨rfl, hb⟩; have HB5 := Lib.hid hb; have t1b := zax hb t1; have t2b := zax hb t2; clear hb))
        go_roundg (q - (i + 1))
        case measure => have h1 := HQ.out; have h2 := HI.out; omega
        case rel =>
          refine ⟨i + 1, by rw [hwi], ?_, by rw [hwo], ⟨by have h1 := HQ.out; have h2 := HI.out; omega⟩, ⟨?_⟩, ⟨zaf HW3.out HB5.out⟩⟩
          · rw [HS.out.2.1]
          · have h := HF.out.below HB5.out
            have e : (fun p : Nat => (num l0 a (i + 1) (p : Int) : Int)) = fun p : Nat => (num l0 a i (p : Int) : Int) := funext fun p => by rw [HS.out.2.2]
            rw [e]; exact h
      · by_cases h6 : (cT l0[i]).c = 6
        · obtain ⟨s1, s2, s3⟩ := hrun.close_ hai hi h6
          rw [decide_eq_true (.inr h6)] at hbr
          have hn1 : l0[i].f0 ≠ 1 := fun e => by unfold cT at h6; rw [if_pos e] at h6; cases h6
          have htx : l0[i].f1 = ⟨#[41]⟩ := by
            have hc : codeS l0[i].f1.data.toList = 6 := by unfold cT at h6; rw [if_neg hn1] at h6; exact h6
            exact ba_of ((code_iff _ 6 (by decide)).1 hc)
          generalize l0[i] = tk at t0 t1 t2 hbr htx
          obtain ⟨q0, q1, q2⟩ := tk
          simp only at t0 t1 t2 hbr htx
          subst htx
          have hwo : wrap64 ((opn l0 a i : Int) - 1) = ((opn l0 a (i + 1) : Nat) : Int) := wr_dn s1 hle.1
          have hneg : decide (((opn l0 a (i + 1) : Nat) : Int) < 0) = false := decide_eq_false (Int.not_lt.2 (Int.natCast_nonneg _))
          have HBr := Lib.hid hbr
          have HS := Lib.hid (And.intro s1 (And.intro s2 s3))
          have HI := Lib.hid hi
          clear s1 s2 s3 hbr hi hai hrun hil hle hle1 hv hp0 hp4 hps h5 h6 hn1
          go_wp2_with (first | (go_at_call 16; refine (zbo.calls q0 ⟨#[41]⟩ q2 true _ HBr.out).mono ?_; rintro e w5 ⟨rfl, hb⟩; have HB5 := Lib.hid hb; have t1b := zax hb t1; have t2b := zax hb t2; clear hb))
          go_roundg (q - (i + 1))
          case measure => have h1 := HQ.out; have h2 := HI.out; omega
          case rel =>
            refine ⟨i + 1, by rw [hwi], ?_, by rw [hwo], ⟨by have h1 := HQ.out; have h2 := HI.out; omega⟩, ⟨?_⟩, ⟨zaf HW3.out HB5.out⟩⟩
            · rw [HS.out.2.1]
            · have h := HF.out.below HB5.out
              have e : (fun p : Nat => (num l0 a (i + 1) (p : Int) : Int)) = fun p : Nat => (num l0 a i (p : Int) : Int) := funext fun p => by rw [HS.out.2.2]
              rw [e]; exact h
        · obtain ⟨s1, s2, s3⟩ := hrun.none_ hai hi h5 h6
          rw [decide_eq_false (by rintro (e | e); exact h5 e; exact h6 e)] at hbr
          generalize l0[i] = tk at t0 t1 t2 hbr s3 hp0 hp4
          obtain ⟨q0, q1, q2⟩ := tk
          simp only at t0 t1 t2 hbr s3 hp0 hp4
          obtain ⟨p, rfl⟩ : ∃ p : Nat, q2 = (p : Int) := ⟨q2.toNat, (Int.toNat_of_nonneg hp0).symm⟩
          have hp401 : p < 401 := Nat.lt_succ_of_le (Int.ofNat_le.1 hp4)
          have hpi : (p : Int) < 401 := Int.lt_add_one_of_le hp4
          have hcell := HF.out.cell p hp401
          have hwc : wrap64 ((cnt l0 a i : Int) + 1) = ((cnt l0 a (i + 1) : Nat) : Int) := wr_up s2 hle.2.1
          obtain ⟨m, hm⟩ : ∃ m : Nat, m = num l0 a i (p : Int) := ⟨_, rfl⟩
          have hm1 : num l0 a (i + 1) (p : Int) = m + 1 := by rw [s3, if_pos rfl, hm]
          have hml : m ≤ 200 := by rw [hm]; exact hle.2.2 _
          rw [← hm] at hcell
          have hwm : wrap64 ((m : Int) + 1) = ((m + 1 : Nat) : Int) := wr_up rfl hml
          have HM := Lib.hid (And.intro hm hm1)
          obtain ⟨cs, hcs, hcs2⟩ := HF.out.ex
          have HBr := Lib.hid hbr
          have HS := Lib.hid (And.intro s1 (And.intro s2 s3))
          have HI := Lib.hid hi
          have HG5 := Lib.hid (Nat.lt_of_lt_of_le (blk_lt hcs) (Nat.le_refl _))
          clear s1 s2 s3 hbr hi hai hrun hil hle hle1 hv hp0 hp4 hps h5 h6 hm hm1 hml hcs2
          go_wp2_with (first | (go_at_call 16; refine (zbo.calls q0 q1 (p : Int) false _ HBr.out).mono ?_; rintro e w5 ⟨rfl, hb⟩; have HB5 := Lib.hid hb; have t1b := zax hb t1; have t2b := zax hb t2; have hcell5 := zax hb hcell; have hcs5 := zbn hcs hb; have hfz := zaj hcs5 p; clear hb hcell hcs))
          go_roundg (q - (i + 1))
          case measure => have h1 := HQ.out; have h2 := HI.out; omega
          case rel =>
            refine ⟨i + 1, by rw [hwi], by rw [hwc], ?_, ⟨by have h1 := HQ.out; have h2 := HI.out; omega⟩, ⟨?_⟩, ⟨zaq (zaf HW3.out HB5.out) (by rw [HGG.out]; exact Nat.le_refl _)⟩⟩
            · rw [HS.out.1]
            · refine (HF.out.below HB5.out).set p _ (fun j hj => ?_)
              show (num l0 a (i + 1) (j : Int) : Int) = _
              by_cases e : j = p
              · subst e; rw [if_pos rfl, HM.out.2]; rfl
              · rw [if_neg e, HS.out.2.2, if_neg (fun e2 : (p : Int) = (j : Int) => e (Int.ofNat.inj e2).symm)]; rfl
    · have hiq : i = q := Nat.le_antisymm (by have h1 := HQ.out; omega) (Nat.le_of_not_lt hi)
      subst hiq
      have hlt1 : decide ((i : Int) < (i : Int)) = false := decide_eq_false (Int.lt_irrefl _)
      have hlt2 : decide (i < i) = false := decide_eq_false (Nat.lt_irrefl _)
      have HI := Lib.hid hi
      clear hi
      go_wp2
      have hxl : x.length = (evp t).length := by rw [HX.out, ← flat_evp t 0, List.length_map]
      have hx60 : x.length ≤ 60 := by rw [HX.out, t.zb7]; exact HTO.out.2.1
      have HXL := Lib.hid (And.intro hxl hx60)
      have hlf : zad (∀ p, num l0 a i p ≤ 200) := ⟨(counts_le HRn.out HL.out.len HQ.out.1 (Nat.le_refl _)).2.2⟩
      clear hxl hx60
      go_loopg [12] x.length (fun kq v12 W' => ∃ j : Nat, v12 = .int .i64 (j : Int) ∧ zad (j + kq = x.length) ∧ zad (Arr W' g (lft (num l0 a i) (evp t) j)) ∧ zad (Below w3.heap.size w3 W'))
      case atStart =>
        refine ⟨0, rfl, ⟨by omega⟩, ⟨?_⟩, ⟨HW3.out⟩⟩
        have h := HF.out
        have e : (lft (num l0 a i) (evp t) 0) = fun p : Nat => (num l0 a i (p : Int) : Int) := funext fun p => by unfold lft; rw [List.take_zero, List.count_nil]; exact Int.sub_zero _
        rw [e]; exact h
      case round =>
        obtain ⟨j, rfl, HQ2, HF2, HW2⟩ := hrel
        by_cases hj : j < x.length
        · obtain ⟨ad, had, t0, t1, t2, t3, t4⟩ := at_T43 (Kd.zca HX3.out HW2.out) (j : Int) (by omega) (by omega)
          subst had
          rw [Int.toNat_natCast] at t0 t1 t2 t3 t4
          rw [show zbf x (j : Int) = x[j] from rdN_get x j hj] at t0 t1 t2 t3 t4
          have hje : j < (evp t).length := by rw [← HXL.out.1]; exact hj
          have hev : x[j].f4 = (evp t)[j] := by
            have h1 : (x.map (fun y => y.f4))[j]? = (evp t)[j]? := by rw [HX.out, flat_evp]
            rw [List.getElem?_map, List.getElem?_eq_getElem hj, List.getElem?_eq_getElem hje] at h1
            exact Option.some.inj h1
          obtain ⟨hp0, hp4⟩ := evp_range t HTO.out.1 x[j].f4 (by rw [hev]; exact List.getElem_mem hje)
          have hsu := fun p => lft_succ (num l0 a i) (evp t) j hje p
          rw [← hev] at hsu
          generalize x[j] = nd2 at t0 t1 t2 t3 t4 hp0 hp4 hsu
          obtain ⟨y0, y1, y2, y3, y4⟩ := nd2
          simp only at t0 t1 t2 t3 t4 hp0 hp4 hsu
          obtain ⟨p, rfl⟩ : ∃ p : Nat, y4 = (p : Int) := ⟨y4.toNat, (Int.toNat_of_nonneg hp0).symm⟩
          have hp401 : p < 401 := Nat.lt_succ_of_le (Int.ofNat_le.1 hp4)
          have hpi : (p : Int) < 401 := Int.lt_add_one_of_le hp4
          have hd0 : decide ((p : Int) < 0) = false := decide_eq_false (Int.not_lt.2 hp0)
          have hd4 : decide ((p : Int) > 400) = false := decide_eq_false (Int.not_lt.2 hp4)
          have hd4' : decide ((400 : Int) < (p : Int)) = false := decide_eq_false (Int.not_lt.2 hp4)
          have hd4n : decide (400 < p) = false := decide_eq_false (Nat.not_lt.2 (Int.ofNat_le.1 hp4))
          have hcell := HF2.out.cell p hp401
          have hr := lft_range hlf.out (by rw [← HXL.out.1]; exact Nat.le_trans HXL.out.2 (by decide)) j p
          have hr1 := lft_range hlf.out (by rw [← HXL.out.1]; exact Nat.le_trans HXL.out.2 (by decide)) (j + 1) p
          have hs1 := hsu p
          rw [if_pos rfl] at hs1
          obtain ⟨m, hm⟩ : ∃ m : Int, m = lft (num l0 a i) (evp t) j p := ⟨_, rfl⟩
          rw [← hm] at hcell hs1 hr
          have hwm : wrap64 (m - 1) = m - 1 := by rw [← hs1]; exact wr_in (by omega) (by omega)
          obtain ⟨cs, hcs, hcs2⟩ := HF2.out.ex
          have hfz := zaj hcs p
          have HS := Lib.hid (And.intro hs1 hsu)
          have HJ := Lib.hid hj
          have hlt3 : decide ((j : Int) < (x.length : Int)) = true := decide_eq_true (Int.ofNat_lt.2 hj)
          have hlt4 : decide (j < x.length) = true := decide_eq_true hj
          have hltx : (j : Int) < (x.length : Int) := Int.ofNat_lt.2 hj
          have hwj : wrap64 ((j : Int) + 1) = ((j + 1 : Nat) : Int) := wr_up rfl (Nat.le_trans (Nat.le_of_lt hj) (Nat.le_trans HXL.out.2 (by decide)))
          clear hcs2 hr hr1 hs1 hsu hj hje hev hm
          go_wp2
          go_roundg (x.length - (j + 1))
          case measure => have h1 := HQ2.out; have h2 := HJ.out; omega
          case rel =>
            refine ⟨j + 1, by rw [hwj], ⟨by have h1 := HQ2.out; have h2 := HJ.out; omega⟩, ⟨?_⟩, ⟨zaq HW2.out (by rw [HGG.out]; exact Nat.le_refl _)⟩⟩
            refine HF2.out.set p _ (fun k hk => ?_)
            by_cases e : k = p
            · subst e; rw [if_pos rfl, HS.out.1]
            · rw [if_neg e, HS.out.2, if_neg (fun e2 : (p : Int) = (k : Int) => e (Int.ofNat.inj e2).symm)]; exact Int.sub_zero _
        · have hjx : j = x.length := Nat.le_antisymm (by have h1 := HQ2.out; omega) (Nat.le_of_not_lt hj)
          subst hjx
          have hlt3 : decide ((x.length : Int) < (x.length : Int)) = false := decide_eq_false (Int.lt_irrefl _)
          have hlt4 : decide (x.length < x.length) = false := decide_eq_false (Nat.lt_irrefl _)
          have hz0 : zad (∀ p, lft (num l0 a i) (evp t) x.length p = 0) := ⟨fun p => by
            unfold lft; rw [HXL.out.1, List.take_length, HNM.out]; exact Int.sub_self _⟩
          clear hj
          go_wp2
          go_loopg [13] 401 (fun kq v13 W' => ∃ k : Nat, v13 = .int .i64 (k : Int) ∧ zad (k + kq = 401) ∧ zad (Arr W' g (fun _ => 0)) ∧ zad (Below w3.heap.size w3 W'))
          case atStart =>
            refine ⟨0, rfl, ⟨by omega⟩, ⟨?_⟩, ⟨HW2.out⟩⟩
            have h := HF2.out
            rw [show lft (num l0 a i) (evp t) x.length = fun _ => 0 from funext fun p => hz0.out p] at h
            exact h
          case round =>
            obtain ⟨k, rfl, HQ3, HF3, HW5⟩ := hrel
            by_cases hk : k < 401
            · have hcell := HF3.out.cell k hk
              have hlt5 : decide ((k : Int) < 401) = true := decide_eq_true (by omega)
              have hlt6 : decide (k < 401) = true := decide_eq_true hk
              have hki : (k : Int) < 401 := by omega
              have hwk : wrap64 ((k : Int) + 1) = ((k + 1 : Nat) : Int) := by rw [zb4 (by omega) (by omega)]; rfl
              have HK2 := Lib.hid hk
              clear hk
              go_wp2
              go_roundg (401 - (k + 1))
              case measure => have h1 := HQ3.out; have h2 := HK2.out; omega
              case rel => exact ⟨k + 1, rfl, ⟨by have h1 := HQ3.out; have h2 := HK2.out; omega⟩, ⟨HF3.out⟩, ⟨HW5.out⟩⟩
            · have hk4 : k = 401 := by have h1 := HQ3.out; omega
              subst hk4
              have ho : ((opn l0 a i : Nat) : Int) = 0 := by rw [HOP.out]; rfl
              have hc : ((cnt l0 a i : Nat) : Int) = (x.length : Int) := by rw [HCN.out, HX.out, t.zb7]
              have hcn2 : cnt l0 a i = x.length := by rw [HCN.out, HX.out, t.zb7]
              have hcb : (((cnt l0 a i : Nat) : Int) == (x.length : Int)) = true := by rw [hc]; exact beq_self_eq_true _
              have hob : (((opn l0 a i : Nat) : Int) == 0) = true := by rw [ho]; rfl
              have hon : opn l0 a i = 0 := HOP.out
              clear hk
              go_wp2_with (first | (go_at_call 12; refine (zbc.calls 500 true _ (Tabs.below HT.out (zaf HB3.out HW5.out)) HA.out).mono ?_; rintro e w6 ⟨rfl, hb⟩; have HB6 := Lib.hid hb; clear hb))
              go_ret
              exact ⟨rfl, zaf (zaf HB3.out HW5.out) HB6.out⟩
end Go.Proofs.YtgmmngipnjmkfaaGreatDoor.PureL
end
section
namespace Go.Proofs.YtgmmngipnjmkfaaGreatDoor.Pure
open Go.RowKit Go.Proofs.YtgmmngipnjmkfaaGreatDoor.Hand Go.Proofs.YtgmmngipnjmkfaaGreatDoor.Q Go.Proofs.YtgmmngipnjmkfaaGreatDoorW.PrintWords Go.Proofs.YtgmmngipnjmkfaaGreatDoorW.PrintLast Go.Proofs.YtgmmngipnjmkfaaGreatDoorW.PrintMore
theorem ExprsCounts_walk (A0 : Option Addr) (c0 : Nat) (l0 : List Tk) (a1 : Int) (w : World) (hc0 : l0.length ≤ c0) (hr0 : Kd.C k33 w A0 l0.length l0) (_ : (Lit.int .i64 a1).wf = true) (hT : Tabs w) :
    Calls Tryz.prog 4 #[.slice A0 l0.length c0, .int .i64 a1] w fun e w' => e = .returned (.bool true) ∧ Below w.heap.size w w' := by
  obtain ⟨K, hK⟩ : ∃ K : Nat, K = 400000000000000 := ⟨_, rfl⟩
  obtain ⟨gb, hg, hf⟩ := PureL.great_f l0 K (by omega)
  cases gb with
  | true => exact PureL.counts_great K A0 c0 l0 a1 w hc0 hr0 hT hg
  | false =>
    obtain ⟨_, hz⟩ := hf rfl
    obtain ⟨c, ha, h0⟩ := PureL.asked_f l0 (fun t ht => Nat.le_trans (hz t ht) (by decide)) a1 K (by omega)
    by_cases hc : c = 0
    · subst hc
      obtain ⟨hL, h1, h2⟩ := h0 rfl
      obtain ⟨a, rfl⟩ : ∃ a : Nat, a1 = (a : Int) := ⟨a1.toNat, (Int.toNat_of_nonneg h1).symm⟩
      have hal : a ≤ l0.length := Int.ofNat_le.1 h2
      have hp := PureL.parse_f hL a hal K (by omega)
      have hlen := hL.len
      obtain ⟨r, hr, hb⟩ := run_ends (CL l0) K (.expr 1) a ⟨by decide, by decide⟩ (by rw [zcu]; exact hal) (by rw [show rk (.expr 1) = 14 from rfl]; have := zcu l0; omega)
      rw [hr] at hp
      cases r with
      | bad e q =>
        have hq2 := hb.2
        rw [zcu] at hq2
        exact PureL.counts_bad K A0 c0 l0 a w hc0 hr0 hT hg ha q e hp (run_err _ _ _ _ _ _ hr) (Int.ofNat_le.2 hb.1) (Int.ofNat_le.2 hq2)
      | ok t q =>
        obtain ⟨hR, ht, haq, hcn, hnm, hop⟩ := PureL.parsed_run hL hal hr
        exact PureL.counts_main K A0 c0 l0 a w hc0 hr0 hT hg ha hL t q hp hR ht haq hcn hnm hop
    · exact PureL.counts_asked K A0 c0 l0 a1 w hc0 hr0 hT hg c ha hc
end Go.Proofs.YtgmmngipnjmkfaaGreatDoor.Pure
end
section
namespace Go.Proofs.YtgmmngipnjmkfaaGreatDoor.Pure
open Go.ChangeShapes Go.WideShapes Go.Deep Go.RowKit Go.Proofs.YtgmmngipnjmkfaaGreatDoor.Q Go.Proofs.YtgmmngipnjmkfaaGreatDoorW.PrintWords
set_option maxRecDepth 100000 in
theorem open_tokens {H : Type} {enc : TypeId × Value → H} {w : World} {b : Nat} {v : Value} {d : DataW H} {p : List MemPlace}
    (hv : Value.okWide Tryz.prog w .any b 25 v) (h : DataW.Trod enc Tryz.prog w 0 (fun _ => true) true 25 v d p) :
    ∃ (A : Option Addr) (c : Nat) (l : List S33), v = .slice A l.length c ∧ l.length ≤ c ∧ Kd.C k33 w A l.length l := by
  obtain ⟨a, len, cap, rfl⟩ := okWide_slice Tryz.underlying25 hv
  obtain ⟨fuel, hf⟩ := h
  rcases open_slice Tryz.underlying25 hf with ⟨h0, _⟩ | ⟨ad, len', cap', m, n, D, Pl, h0, _, hl, hm, hmm, _, hi⟩
  · have h0 : Value.slice a len cap = .slice none 0 0 := List.head_eq_of_cons_eq (show [Value.slice a len cap] = [.slice none 0 0] from h0)
    injection h0 with h1 h2 h3
    subst h1; subst h2; subst h3
    exact ⟨none, 0, [], rfl, Nat.le_refl _, Kd.C_nil _ w⟩
  · have h0 : Value.slice a len cap = .slice (some ad) len' cap' := List.head_eq_of_cons_eq (show [Value.slice a len cap] = [.slice (some ad) len' cap'] from h0)
    injection h0 with h1 h2 h3
    subst h1; subst h2; subst h3
    have hC : Tryz.prog.cellsOf 33 = 3 := by kernel_rfl
    have hall : ∀ i, i < len → ∃ x : S33, w.cell? (ad.add (i * 3 + 0)) = some (.int .u8 x.f0) ∧ w.cell? (ad.add (i * 3 + 1)) = some (.string x.f1) ∧ w.cell? (ad.add (i * 3 + 2)) = some (.int .i64 x.f2) := by
      intro i hil
      obtain ⟨cs, hc, ht⟩ := hi i (by rw [hmm]; simp only [if_true]; omega)
      rw [hC] at hc
      obtain ⟨ys, n', _, _, _, hyl, hfl⟩ := DataW.trod_struct Tryz.underlying33 ht
      obtain ⟨_, hcl, hat⟩ := World.cells?_some hc
      match cs, hcl, ys, hyl with
      | [c0, c1, c2], _, [y0, y1, y2], _ =>
        have g0 := hfl 0 _ rfl
        have g1 := hfl 1 _ rfl
        have g2 := hfl 2 _ rfl
        obtain ⟨x0, e0, _, _⟩ := DataW.trod_int Tryz.underlying5 (g0 : _ = some y0)
        obtain ⟨x1, e1, _, _⟩ := DataW.trod_string Tryz.underlying9 (g1 : _ = some y1)
        obtain ⟨x2, e2, _, _⟩ := DataW.trod_int Tryz.underlying3 (g2 : _ = some y2)
        have u0 : c0 = .int .u8 x0 := List.head_eq_of_cons_eq (show [c0] = [.int .u8 x0] from e0)
        have u1 : c1 = .string x1 := List.head_eq_of_cons_eq (show [c1] = [.string x1] from e1)
        have u2 : c2 = .int .i64 x2 := List.head_eq_of_cons_eq (show [c2] = [.int .i64 x2] from e2)
        clear e0 e1 e2 g0 g1 g2 hfl ht
        subst u0; subst u1; subst u2
        have a0 := hat 0 (by omega); have a1 := hat 1 (by omega); have a2 := hat 2 (by omega)
        rw [Go.Deep.add_add] at a0 a1 a2
        exact ⟨⟨x0, x1, x2⟩, a0, a1, a2⟩
    have hX : ∃ X : Nat → S33, ∀ i, i < len → w.cell? (ad.add (i * 3 + 0)) = some (.int .u8 (X i).f0) ∧ w.cell? (ad.add (i * 3 + 1)) = some (.string (X i).f1) ∧ w.cell? (ad.add (i * 3 + 2)) = some (.int .i64 (X i).f2) :=
      ⟨fun i => if hh : i < len then Classical.choose (hall i hh) else z33, fun i hh => by simp only [dif_pos hh]; exact Classical.choose_spec (hall i hh)⟩
    obtain ⟨X, hX⟩ := hX
    have hlen : ((List.range len).map X).length = len := by simp
    refine ⟨some ad, cap, (List.range len).map X, by rw [hlen], by rw [hlen]; exact hl, ?_⟩
    rw [hlen]
    refine ⟨hlen, by unfold maxLen at hm; omega, fun _ => ⟨ad, rfl, fun j x hj => ?_⟩⟩
    have hjl : j < len := by
      rcases Nat.lt_or_ge j len with q | q
      · exact q
      · rw [List.getElem?_eq_none (by rw [hlen]; exact q)] at hj; cases hj
    have hxe : x = X j := by
      rw [List.getElem?_map, List.getElem?_range hjl] at hj
      exact (Option.some.inj hj).symm
    subst hxe
    obtain ⟨q0, q1, q2⟩ := hX j hjl
    refine ⟨_, rfl, k33_mk w (X j), fun i u hu => ?_⟩
    show w.cell? (ad.add (j * 3 + i)) = some u
    match i, hu with
    | 0, hu => rw [q0]; exact hu
    | 1, hu => rw [q1]; exact hu
    | 2, hu => rw [q2]; exact hu
end Go.Proofs.YtgmmngipnjmkfaaGreatDoor.Pure
end
section
namespace Go.Proofs.YtgmmngipnjmkfaaGreatDoor.exprsCounts
open Go.ChangeShapes Go.WideShapes Go.ChangeAt Go.RowKit
open Go.ChangeMaps (open_string shut_string)
set_option linter.unusedVariables false
theorem own : ownKnob Tryz.prog.godebug = none := by kernel_rfl
theorem laidOut : laidOutB Tryz.prog = true := by kernel_rfl
set_option maxRecDepth 100000 in
theorem contract (H : Type) (enc : TypeId × Value → H) (W : World) (base : Nat) (args : Array Value) (ds gs : List (DataW H)) (before : List MemPlace)
    (hval0 : ∀ (j : Nat) t v, Tryz.f4.params[j]? = some t → args[j]? = some v → Value.okWide Tryz.prog W .any base t v)
    (hW : DataW.Whole enc Tryz.prog Tryz.f4.params.toList Rows.exprsCountsSpec.vars false W args.toList ds gs before)
    (hsz : (DataW.weightsEach Tryz.prog (Tryz.f4.params.toList ++ Rows.exprsCountsSpec.plain.varTypes Tryz.prog) (ds ++ gs)).all (· ≤ reachBytes) = true)
    (hL : laidMetH Tryz.prog Rows.exprsCountsRow.laid W) :
    Calls Tryz.prog 4 args W fun e W' => ∃ v, e = .returned v ∧ Rows.exprsCountsSpec.post enc Tryz.prog Tryz.f4 false true false false W args v W' := by
  have hT : Hand.Tabs W := Hand.tabs_of hL
  have hval : ∀ (j : Nat) t v, Tryz.f4.params[j]? = some t → args[j]? = some v → Value.okWide Tryz.prog W .any base t v := hval0
  have hW' := hW
  obtain ⟨p, q, hA0, hV, rfl, hfz, hnd⟩ := hW
  have hA : DataW.TrodAll enc Tryz.prog W 0 (fun _ => true) true Tryz.f4.params.toList args.toList ds p := hA0
  rw [Tryz.params4] at hA hval hsz
  obtain ⟨v0, vs0, d0, ds0, p0, q0, hargs, rfl, rfl, h0, r0⟩ := trodAll_cons hA
  obtain ⟨v1, vs1, d1, ds1, p1, q1, rfl, rfl, rfl, h1, r1⟩ := trodAll_cons r0
  obtain ⟨rfl, rfl, rfl⟩ := trodAll_nil r1
  obtain rfl : args = #[v0, v1] := by cases args; simp_all
  obtain ⟨rfl, rfl⟩ := trodVars_none hV
  have k0 := h0
  have lt0 : ∀ x ∈ p0, x.block < W.heap.size := by obtain ⟨m, hm⟩ := k0; exact DataW.trod_lt m _ _ _ hm
  obtain ⟨A0, c0, l0, rfl, hc0, hr0⟩ := Pure.open_tokens (hval 0 25 v0 rfl rfl) h0
  obtain ⟨a1, rfl, rfl, rfl, w1⟩ := open_int Tryz.underlying3 (hval 1 3 v1 rfl rfl) h1
  clear hA0 hval0 hsz
  refine (Pure.ExprsCounts_walk A0 c0 l0 a1 W hc0 hr0 w1 hT).mono fun e W' ⟨he, bel⟩ => ?_
  subst he
  exact ⟨_, rfl, _, _, _, [], _, [], hW', trodAll_mk1 (shut_bool Tryz.underlying4 _), (trodAll_cons_mk (Below.trod laidOut (by kernel_rfl) (of_decide_eq_true (by kernel_rfl)) k0 bel lt0) (trodAll_cons_mk (shut_int Tryz.underlying3 w1) trodAll_mk0)), rfl, bel.frame _, fun h => by cases h⟩
theorem reads (os : Os) {H : Type} (enc : TypeId × Value → H) : ∃ places, DataW.whole enc Tryz.prog ((Hand.laidWorld os).forCall (fun _ _ => 0) ⟨#[], #[.slice none 0 0, .int .i64 0], []⟩).memory Tryz.f4.params.toList Rows.exprsCountsSpec.vars false (#[.slice none 0 0, .int .i64 0] : Array Value).toList 8 = some ([.nil, .lit (.int .i64 0)], [], places) :=
  ⟨[], by kernel_rfl⟩
set_option maxRecDepth 100000 in
theorem lifted (os : Os) (started : os.Started) (H : Type) (enc : TypeId × Value → H) (F : Stop.Interp) :
    ReturnsInHanded {} Tryz.checked os 4 .any ((OpenSpec.ofChange Rows.exprsCountsSpec).preRow enc Tryz.prog Tryz.f4 Rows.exprsCountsRow.domain false Rows.exprsCountsRow.laid) (((OpenSpec.ofChange Rows.exprsCountsSpec).at F).post enc Tryz.prog Tryz.f4 false true false false) := by
  obtain ⟨places, hx⟩ := reads os enc
  refine returnsInHanded_of_row (C := Tryz.checked) (s := OpenSpec.ofChange Rows.exprsCountsSpec) own started (by kernel_rfl) Tryz.func4
    (witness_row_atRef (enc := enc) (C := Tryz.checked) false (Hand.laidWorld os) #[.slice none 0 0, .int .i64 0] rfl (by kernel_rfl) (by kernel_rfl) (by kernel_rfl)
      (OpenSpec.preRow_of_cond 8 hx (by kernel_rfl) (fun k hk => by cases hk) (by kernel_rfl) (Hand.laid_met os _))) ?_
  intro W base args ds gs before hval hW _ _ hsz hL _ _
  exact contract H enc W base args ds gs before hval hW hsz hL
theorem said : Rows.ExprsCountsSaid :=
  OpenClaim.holds_of_cond 4 Tryz.f4 rfl rfl rfl rfl rfl rfl rfl ⟨rfl, rfl, rfl, rfl, rfl⟩ rfl rfl rfl rfl rfl (by kernel_rfl) Tryz.func4 (by kernel_rfl)
    (of_decide_eq_true (by kernel_rfl)) (by unfold Func.isWrapper; first | (rw [if_pos (by decide +kernel)]; kernel_rfl) | (rw [if_neg (by decide +kernel)]; exact ⟨rfl, rfl⟩))
    (fun os started H enc _ F => by rw [OpenClaim.pre_eq_preRow]; exact lifted os started H enc F)
theorem plain (f : FuncId) (fn : Func) (hf : Tryz.pinned.checked.prog.funcNamed "tailwater/tailwaterlaw05.ExprsCounts" = some f) (hfn : Tryz.pinned.checked.prog.funcs[f]? = some fn) :
    true = Tryz.pinned.checked.prog.looks [] ∧ ∀ (j : Nat) t, fn.params[j]? = some t → Tryz.pinned.checked.prog.wantsStandIn t = false := by
  obtain rfl : f = 4 := Option.some.inj ((show Tryz.prog.funcNamed "tailwater/tailwaterlaw05.ExprsCounts" = some 4 by kernel_rfl).symm.trans hf) |>.symm
  obtain rfl : fn = Tryz.f4 := (Option.some.inj (Tryz.func4.symm.trans hfn)).symm
  refine ⟨by kernel_rfl, fun j t ht => ?_⟩
  rw [Tryz.params4] at ht
  have hm := Array.mem_of_getElem? ht
  have hm2 : t = 25 ∨ t = 3 := by simpa using hm
  rcases hm2 with rfl | rfl
  · exact (show Tryz.prog.wantsStandIn 25 = false by kernel_rfl)
  · exact (show Tryz.prog.wantsStandIn 3 = false by kernel_rfl)
theorem card : Rows.ExprsCountsCardSaid :=
  Claim7.holds_tied_plain_at .later [] _ _ _ _ said (fun _ h => by cases h) (by kernel_rfl) (fun _ h => by cases h) exprsCounts_row_tie rfl ⟨rfl, rfl⟩ (by kernel_rfl) rfl plain (by kernel_rfl)
#print axioms card
end Go.Proofs.YtgmmngipnjmkfaaGreatDoor.exprsCounts
namespace Go.Proofs.YtgmmngipnjmkfaaGreatDoor
theorem exprsCounts_holds : Rows.ExprsCountsCardSaid := exprsCounts.card
end Go.Proofs.YtgmmngipnjmkfaaGreatDoor
end
