/- CharsTells: Kind, Symbol and Word return the reference's results and errors for any byte, texts of at most 400 bytes and any index; the plain law over the functions that the program computes. -/
import Derived.Test.YtdlhdeejdefmaaaDoorPureB
namespace Go.Proofs.YtdlhdeejdefmaaaDoor.Pure
open Go.RowKit Go.Proofs.YtdlhdeejdefmaaaDoor.Hand Go.Proofs.YtdlhdeejdefmaaaDoor.Q Go.Proofs.YtdlhdeejdefmaaaDoorW.PrintWords Go.Proofs.YtdlhdeejdefmaaaDoorW.PrintLast Go.Proofs.YtdlhdeejdefmaaaDoorW.PrintMore
theorem longest_l0 (s : ByteArray) (a : Nat) (ha : a ≤ s.size) (hs : s.size ≤ 400) (l : List ByteArray) (hl : l.length ≤ 1000) (hx : ∀ x ∈ l, x.size ≤ 100) (d : Nat) : ∀ (k i : Nat), l.length - i = d → i ≤ l.length → d < k →
    tailwaterref02_Longest.l0 k s (a : Int) l (i : Int) = some (findL ((s.extract a s.size).data.toList) ((l.drop i).map fun x => x.data.toList)) := by
  have hT : (s.extract a s.size).data.toList = s.data.toList.drop a := by
    rw [Lib.extract_data, List.take_of_length_le (by rw [List.length_drop, data_length]; omega)]
  rw [hT]
  induction d with
  | zero =>
    intro k i hd hi hk
    obtain ⟨k, rfl⟩ : ∃ m, k = m + 1 := ⟨k - 1, by omega⟩
    simp only [tailwaterref02_Longest.l0]; rw [if_neg (show ¬ (i : Int) < (l.length : Int) by omega), List.drop_of_length_le (show l.length ≤ i by omega)]; rfl
  | succ d ih =>
    intro k i hd hi hk
    obtain ⟨k, rfl⟩ : ∃ m, k = m + 1 := ⟨k - 1, by omega⟩
    have hlt : i < l.length := by omega
    have hz := hx l[i] (List.getElem_mem hlt)
    have hih := ih k (i + 1) (by omega) (by omega) (by omega)
    have c1 : (i : Int) < (l.length : Int) := by omega
    have c2 : (0 : Int) ≤ (i : Int) := by omega
    have c3 : (0 : Int) ≤ (a : Int) := by omega
    have c4 : (a : Int) ≤ ((a + l[i].size : Nat) : Int) := by omega
    have c5 : l[i].size ≤ s.size - a → ((a + l[i].size : Nat) : Int) ≤ (s.size : Int) := by omega
    have c6 : (((l[i].size : Nat) : Int) ≤ ((s.size - a : Nat) : Int)) ↔ l[i].size ≤ s.size - a := by omega
    have hw : wrap64 ((i : Int) + 1) = ((i + 1 : Nat) : Int) := by clear hih ih; unfold wrap64; omega
    have hw1 : wrap64 ((s.size : Int) - (a : Int)) = ((s.size - a : Nat) : Int) := by clear hih ih hw; unfold wrap64; omega
    have hw2 : wrap64 ((a : Int) + (l[i].size : Int)) = ((a + l[i].size : Nat) : Int) := by clear hih ih hw hw1; unfold wrap64; omega
    have hr : rdOf ByteArray.empty l (i : Int) = l[i] := by simp [rdOf, hlt]
    have hlen : (s.data.toList.drop a).length = s.size - a := by rw [List.length_drop, data_length]
    have hxl : l[i].data.toList.length = l[i].size := data_length _
    rw [List.drop_eq_getElem_cons hlt, List.map_cons]
    simp only [tailwaterref02_Longest.l0, findL]
    rw [if_pos c1, if_pos c2, hr, hw, hw1, hw2, hlen, hxl]
    by_cases h1 : l[i].size ≤ s.size - a
    · rw [if_pos (c6.2 h1), if_pos c3, if_pos c4, if_pos (c5 h1)]
      have he : (s.extract ((a : Int)).toNat (((a + l[i].size : Nat) : Int)).toNat).toList = (s.data.toList.drop a).take l[i].size := by
        rw [ByteArray.toList_eq, Int.toNat_natCast, Int.toNat_natCast, Lib.extract_data, Nat.add_sub_cancel_left]
      rw [he, ByteArray.toList_eq]
      by_cases h2 : (s.data.toList.drop a).take l[i].size = l[i].data.toList
      · rw [if_pos h2, if_pos ⟨h1, h2⟩]
      · rw [if_neg h2, if_neg (fun h => h2 h.2)]
        exact hih
    · rw [if_neg (fun h => h1 (c6.1 h)), if_neg (fun h => h1 h.1)]
      exact hih
def refSymbols : List ByteArray := (tailwaterref02_Symbols.f).getD []
theorem longest_ref (s : ByteArray) (a : Nat) (ha : a ≤ s.size) (hs : s.size ≤ 400) : tailwaterref02_Longest.f 60 s (a : Int) = some (symT (s.extract a s.size)) := by
  have h13 : refSymbols.length = 13 := by kernel_rfl
  have h2 : ∀ x ∈ refSymbols, x.size ≤ 100 := by
    have : refSymbols.all (fun x => decide (x.size ≤ 100)) = true := by kernel_rfl
    intro x hx
    have := List.all_eq_true.1 this x hx
    simpa using this
  have h3 : refSymbols.map (fun x => x.data.toList) = symbolsL := by kernel_rfl
  have h := longest_l0 s a ha hs refSymbols (by omega) h2 13 60 0 (by omega) (by omega) (by omega)
  rw [List.drop_zero, h3, ← sym_find, ← symT_L] at h
  exact h
theorem symbol_ref (s : ByteArray) (a : Int) (hs : s.size ≤ 400) : tailwaterref02_Symbol.f 60 s a = chars_Symbol.f s a := by
  unfold tailwaterref02_Symbol.f chars_Symbol.f
  by_cases h1 : a < 0
  · rw [if_pos h1, if_pos (.inl h1)]
  · rw [if_neg h1]
    by_cases h2 : a > (s.size : Int)
    · rw [if_pos h2, if_pos (.inr h2)]
    · rw [if_neg h2, if_neg (fun h => h.elim h1 h2)]
      obtain ⟨n, rfl⟩ := Int.eq_ofNat_of_zero_le (show 0 ≤ a by omega)
      rw [longest_ref s n (by omega) hs]; rfl
theorem CharsTells : tailwaterlaw02_CharsTells.Pure := by
  intro c s w a hc hs hw ha
  refine ⟨61, ?_⟩
  have hc0 : 0 ≤ c ∧ c ≤ 255 := by
    have := hc; simp [Lit.wf, IntKind.min, IntKind.max, IntKind.signed, IntKind.bits] at this; omega
  have ht : tailwaterlaw02_CharsTells.j0 61 c s w a true = some true := by simp only [tailwaterlaw02_CharsTells.j0, if_true]
  unfold tailwaterlaw02_CharsTells.f
  by_cases c1 : (s.size : Int) > 400
  · rw [if_pos c1]; exact ht
  rw [if_neg c1]
  by_cases c2 : (w.size : Int) > 400
  · rw [decide_eq_true c2]; exact ht
  rw [decide_eq_false c2]
  simp only [tailwaterlaw02_CharsTells.j0]
  rw [if_neg (by simp), symbol_ref s a (by omega), kind_ref c hc0.1 hc0.2, word_ref w]
  have hsy : ∃ p, chars_Symbol.f s a = some p := by
    unfold chars_Symbol.f; split <;> exact ⟨_, rfl⟩
  obtain ⟨p, hp⟩ := hsy
  rw [hp]
  simp [chars_Kind.f, chars_Word.f]
end Go.Proofs.YtdlhdeejdefmaaaDoor.Pure
