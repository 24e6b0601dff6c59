/- CharsLongest: a symbol has at most two bytes, all of a symbol's kind; what is behind one of two bytes does not matter; one of one byte is one in front of others, unless it makes one of two (a text of at most 400 bytes, an index, a text behind of at most 10); the plain law over the functions that the program computes. -/
import Derived.Test.YtdlhdeejdefmaaaDoorPureB
import Derived.Test.YtdlhdeejdefmaaaDoorQx4
namespace Go.Proofs.YtdlhdeejdefmaaaDoor.Pure
open Go.RowKit Go.Proofs.YtdlhdeejdefmaaaDoor.Hand Go.Proofs.YtdlhdeejdefmaaaDoor.Q Go.Proofs.YtdlhdeejdefmaaaDoorW.PrintWords Go.Proofs.YtdlhdeejdefmaaaDoorW.PrintLast Go.Proofs.YtdlhdeejdefmaaaDoorW.PrintMore
theorem len_all (t : ByteArray) : tailwaterlaw02_length.f t 0 = some (symL t.data.toList) := by
  have h := len_eq t 0 (by omega)
  rw [ext_all, symT_L] at h; exact h
theorem two_kind {c d : Int} (h : two c d = true) : kindOf d = 4 := by
  unfold two at h
  have : d = 61 ∨ d = 60 ∨ d = 62 := by
    simp only [Bool.or_eq_true, Bool.and_eq_true, beq_iff_eq] at h
    omega
  rcases this with rfl | rfl | rfl <;> rfl
theorem symL_cases (a : UInt8) (r : List UInt8) : (symL (a :: r) = 0 ∧ (kindOf a.toNat ≠ 4 ∨ (a.toNat : Int) = 33)) ∨ (symL (a :: r) = 1 ∧ kindOf a.toNat = 4 ∧ symL [a] = 1 ∧ ∀ b l, r = b :: l → symL [a, b] = 1) ∨
    (∃ b l, r = b :: l ∧ symL (a :: r) = 2 ∧ kindOf a.toNat = 4 ∧ kindOf b.toNat = 4 ∧ ∀ m, symL (a :: b :: m) = 2) := by
  by_cases hk : kindOf a.toNat = 4
  · cases r with
    | nil =>
      by_cases h33 : (a.toNat : Int) = 33
      · left; simp only [symL]; rw [if_neg (by rw [hk]; simp), if_pos h33]; exact ⟨rfl, .inr h33⟩
      · right; left; simp only [symL]; rw [if_neg (by rw [hk]; simp), if_neg h33]; exact ⟨rfl, hk, rfl, fun b l h => by cases h⟩
    | cons b l =>
      by_cases ht : two a.toNat b.toNat = true
      · right; right
        refine ⟨b, l, rfl, ?_, hk, two_kind ht, fun m => ?_⟩ <;> (simp only [symL]; rw [if_neg (by rw [hk]; simp), if_pos ht])
      · by_cases h33 : (a.toNat : Int) = 33
        · left; simp only [symL]; rw [if_neg (by rw [hk]; simp), if_neg ht, if_pos h33]; exact ⟨rfl, .inr h33⟩
        · right; left
          have e : ∀ m, symL (a :: b :: m) = 1 := fun m => by simp only [symL]; rw [if_neg (by rw [hk]; simp), if_neg ht, if_neg h33]
          refine ⟨e l, hk, ?_, fun b' l' h => by cases h; exact e []⟩
          simp only [symL]; rw [if_neg (by rw [hk]; simp), if_neg h33]
  · left
    refine ⟨?_, .inl hk⟩
    cases r <;> (simp only [symL]; rw [if_pos hk])
theorem l0_next (k : Nat) (s q : ByteArray) (a : Int) (n j p : Int) (hj : j < n) (hp : wrap64 (a + j) = p) (h0 : 0 ≤ p) (h1 : p < (s.size : Int)) (hk : kindOf (bt s p) = 4) :
    tailwaterlaw02_CharsLongest.l0 (k + 1) s a q n j = tailwaterlaw02_CharsLongest.l0 k s a q n (wrap64 (j + 1)) := by
  simp only [tailwaterlaw02_CharsLongest.l0]
  rw [if_pos hj, hp, if_pos h0, if_pos h1]
  simp only [chars_Kind.f, Option.bind_some]
  rw [if_pos hk]
theorem CharsLongest : tailwaterlaw02_CharsLongest.Pure := by
  intro s i q hs hi hq
  refine ⟨10, ?_⟩
  have ht : tailwaterlaw02_CharsLongest.j0 10 s i q true = some true := by simp only [tailwaterlaw02_CharsLongest.j0, if_true, alive, Option.bind_some]
  unfold tailwaterlaw02_CharsLongest.f
  by_cases c1 : (s.size : Int) > 400
  · rw [if_pos c1]; exact ht
  rw [if_neg c1]
  by_cases c2 : (q.size : Int) > 10
  · rw [if_pos c2]; exact ht
  rw [if_neg c2]
  by_cases c3 : i < 0
  · rw [if_pos c3]; exact ht
  rw [if_neg c3]
  by_cases c4 : i > (s.size : Int)
  · rw [decide_eq_true c4]; exact ht
  rw [decide_eq_false c4]
  obtain ⟨a, rfl⟩ := Int.eq_ofNat_of_zero_le (show 0 ≤ i by omega)
  have ha : a ≤ s.size := by omega
  have hlen : (s.data.toList.drop a).length = s.size - a := by rw [List.length_drop, data_length]
  have hex : ∀ n, (s.extract a (a + n)).data.toList = (s.data.toList.drop a).take n := fun n => by rw [Lib.extract_data, Nat.add_sub_cancel_left]
  have hsym : chars_Symbol.f s (a : Int) = some (symL (s.data.toList.drop a), 0) := by
    unfold chars_Symbol.f
    rw [if_neg (by omega), Int.toNat_natCast, symT_L, Lib.extract_data, List.take_of_length_le (by omega)]
  have hbt : ∀ j c, (s.data.toList.drop a)[j]? = some c → bt s ((a + j : Nat) : Int) = c.toNat := fun j c h => bt_list s (a + j) c (by rw [← h, List.getElem?_drop])
  have hz : (s.size : Int) ≤ 400 := by omega
  have hqz : (q.size : Int) ≤ 10 := by omega
  have e0 : wrap64 ((s.size : Int) - (a : Int)) = ((s.size - a : Nat) : Int) := by unfold wrap64; omega
  have e1 : wrap64 ((a : Int) + 0) = (a : Int) := by clear e0; unfold wrap64; omega
  have e2 : wrap64 ((a : Int) + 1) = ((a + 1 : Nat) : Int) := by clear e0 e1; unfold wrap64; omega
  have e3 : wrap64 ((a : Int) + 2) = ((a + 2 : Nat) : Int) := by clear e0 e1 e2; unfold wrap64; omega
  have w1 : wrap64 ((0 : Int) + 1) = 1 := by clear e0 e1 e2 e3; unfold wrap64; omega
  have w2 : wrap64 ((1 : Int) + 1) = 2 := by clear e0 e1 e2 e3 w1; unfold wrap64; omega
  simp only [tailwaterlaw02_CharsLongest.j0]
  rw [if_neg (by simp), hsym]
  simp only [Option.bind_some, if_true]
  cases hT : s.data.toList.drop a with
  | nil =>
    have hae : a = s.size := by rw [hT] at hlen; simp at hlen; omega
    have : symL [] = 0 := rfl
    rw [this, if_neg (by omega), if_neg (by omega), e0, decide_eq_false (by omega)]
    simp only [tailwaterlaw02_CharsLongest.j1]
    rw [if_neg (by simp)]
    simp only [tailwaterlaw02_CharsLongest.l0]
    rw [if_neg (by omega), if_pos trivial, if_pos (by omega), alive]; rfl
  | cons x r =>
    rw [hT] at hlen hex hbt
    have hsz : 1 ≤ s.size - a := by rw [← hlen]; simp
    have b0 := hbt 0 x rfl
    rw [Nat.add_zero] at b0
    rcases symL_cases x r with ⟨hn, hk⟩ | ⟨hn, hk, hone, hmore⟩ | ⟨y, l, rfl, hn, hk, hky, hall⟩
    · rw [hn, if_neg (by omega), if_neg (by omega), e0, decide_eq_false (by omega)]
      simp only [tailwaterlaw02_CharsLongest.j1]
      rw [if_neg (by simp)]
      simp only [tailwaterlaw02_CharsLongest.l0]
      rw [if_neg (by omega), if_pos trivial, if_neg (by omega), if_pos (by omega), if_pos (by omega), b0, alive]
      simp only [chars_Kind.f, Option.bind_some]
      by_cases h4 : kindOf x.toNat = 4
      · rw [if_pos h4, if_pos (hk.resolve_left (fun h => h h4))]
      · rw [if_neg h4]
    · rw [hn, if_neg (by omega), if_neg (by omega), e0, decide_eq_false (by omega)]
      simp only [tailwaterlaw02_CharsLongest.j1]
      rw [if_neg (by simp)]
      have hown := len_all (s.extract a (a + 1))
      rw [hex 1] at hown
      have hl1 : tailwaterlaw02_CharsLongest.l0 7 s (a : Int) q 1 1 = some true := by
        simp only [tailwaterlaw02_CharsLongest.l0]
        rw [if_neg (by omega), if_neg (by omega), if_pos (by omega), e2, if_pos (by omega), if_pos (by omega), if_neg (by omega)]
        rw [Int.toNat_natCast, Int.toNat_natCast]
        simp only [tailwaterlaw02_CharsLongest.j3]
        rw [if_neg (by simp), hown]
        rw [show symL (List.take 1 (x :: r)) = 1 from hone]
        simp only [Option.bind_some, if_true]
        rw [if_neg (by omega), e0]
        by_cases h2 : s.size - a < 2
        · rw [if_pos (by omega), alive]; rfl
        · rw [if_neg (by omega), if_pos (by omega), e3, if_pos (by omega), if_pos (by omega), Int.toNat_natCast, Int.toNat_natCast, len_all, hex 2]
          cases r with
          | nil => simp at hlen; omega
          | cons y l =>
            rw [show symL (List.take 2 (x :: y :: l)) = 1 from hmore y l rfl, alive]; rfl
      rw [l0_next 7 s q (a : Int) 1 0 (a : Int) (by omega) e1 (by omega) (by omega) (by rw [b0]; exact hk), w1]
      exact hl1
    · have hsz2 : 2 ≤ s.size - a := by rw [← hlen]; simp
      have b1 := hbt 1 y rfl
      rw [hn, if_neg (by omega), if_neg (by omega), e0, decide_eq_false (by omega)]
      simp only [tailwaterlaw02_CharsLongest.j1]
      rw [if_neg (by simp)]
      rw [l0_next 7 s q (a : Int) 2 0 (a : Int) (by omega) e1 (by omega) (by omega) (by rw [b0]; exact hk), w1]
      rw [l0_next 6 s q (a : Int) 2 1 ((a + 1 : Nat) : Int) (by omega) e2 (by omega) (by omega) (by rw [b1]; exact hky), w2]
      have hx2 : (s.extract a (a + 2)).data.toList = [x, y] := hex 2
      have hz2 : (s.extract a (a + 2)).size = 2 := by rw [← data_length, hx2]; rfl
      have happ : (s.extract a (a + 2) ++ q).data.toList = x :: y :: q.data.toList := by
        rw [ByteArray.data_append, Array.toList_append, hx2]; rfl
      simp only [tailwaterlaw02_CharsLongest.l0]
      rw [if_neg (by omega), if_neg (by omega), if_pos (by omega), e3, if_pos (by omega), if_pos (by omega), if_pos trivial, Int.toNat_natCast, Int.toNat_natCast, hz2, if_pos (by omega), len_all, happ, hall]
      simp only [Option.bind_some]
      simp only [tailwaterlaw02_CharsLongest.j3]
      rw [if_neg (by decide), len_all, hx2, hall]
      simp only [Option.bind_some, if_true]
      rw [alive]; rfl
end Go.Proofs.YtdlhdeejdefmaaaDoor.Pure
