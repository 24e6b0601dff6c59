/- chars.Symbol: for every text and every index it returns symT of the rest of the text, or the error outside of it. -/
import Derived.Test.YtdccajohjknnbaaDoorHandB
namespace Go.Proofs.YtdccajohjknnbaaDoor.Hand
open Go.RowKit Go.Proofs.YtdccajohjknnbaaDoorW.PrintWords
theorem u8_cast (d : UInt8) : ((d.toNat : Int).toNat.toUInt8) = d := by
  rw [Int.toNat_natCast]; simp
theorem ix_two_yes (a b d : UInt8) (h : d = a ∨ d = b) : 0 ≤ Lib.indexByte [a, b] ((d.toNat : Int).toNat.toUInt8) := by
  rw [u8_cast]
  simp only [Lib.indexByte]
  rcases h with rfl | rfl
  · simp
  · by_cases e : a = d
    · simp [e]
    · simp [e]
theorem ix_two_no (a b d : UInt8) (h : ¬ (d = a ∨ d = b)) : Lib.indexByte [a, b] ((d.toNat : Int).toNat.toUInt8) < 0 := by
  rw [u8_cast]
  simp only [Lib.indexByte]
  have h1 : ¬ a = d := fun e => h (.inl e.symm)
  have h2 : ¬ b = d := fun e => h (.inr e.symm)
  simp [h1, h2]
theorem ix_one_yes (a d : UInt8) (h : d = a) : 0 ≤ Lib.indexByte [a] ((d.toNat : Int).toNat.toUInt8) := by
  rw [u8_cast]; subst h; simp [Lib.indexByte]
theorem ix_one_no (a d : UInt8) (h : ¬ d = a) : Lib.indexByte [a] ((d.toNat : Int).toNat.toUInt8) < 0 := by
  rw [u8_cast]
  have h1 : ¬ a = d := fun e => h e.symm
  simp [Lib.indexByte, h1]
theorem u8_eq (c : UInt8) (n : Nat) (hn : n < 256) : (c.toNat : Int) = (n : Int) ↔ c = n.toUInt8 := by
  constructor
  · intro h
    have h' : c.toNat = n := by omega
    rw [← h']; simp
  · rintro rfl
    simp; omega
theorem b0 : (((⟨#[60, 62, 33]⟩ : ByteArray)[0]'(by decide)).toNat : Int) = 60 := rfl
theorem b1 : (((⟨#[60, 62, 33]⟩ : ByteArray)[1]'(by decide)).toNat : Int) = 62 := rfl
theorem b2 : (((⟨#[60, 62, 33]⟩ : ByteArray)[2]'(by decide)).toNat : Int) = 33 := rfl
theorem beq_t {a b : Int} (h : a = b) : (a == b) = true := by simpa using h
theorem beq_f {a b : Int} (h : ¬ a = b) : (a == b) = false := by simpa using h
theorem symbol_in (s : ByteArray) (k : Nat) (w : World) (hk : k ≤ s.size) :
    Calls Tryd.prog 33 #[.string s, .int .i64 k] w (symPost (symT (s.extract k s.size)) w) := by
  have hsz : (s.extract k s.size).size = s.size - k := by simp
  by_cases e : k = s.size
  · have : symT (s.extract k s.size) = 0 := by unfold symT; rw [if_pos (by omega)]
    rw [this]; exact symbol_empty s k w e
  have hlt : k < s.size := by omega
  have hne : (s.extract k s.size).toList.isEmpty = false := by
    rw [List.isEmpty_eq_false_iff]; intro h
    have h2 : (s.extract k s.size).toList.length = 0 := by rw [h]; rfl
    have h3 : (s.extract k s.size).toList.length = (s.extract k s.size).size := by rw [ByteArray.toList_eq, data_length]
    omega
  have z0 := bt_zero (s.extract k s.size) (by omega)
  unfold symT
  rw [if_neg (show ¬ (s.extract k s.size).size = 0 by omega), z0]
  by_cases hc : kindOf ((s.extract k s.size)[0]'(by omega)).toNat = 4
  · have hcb : (kindOf ((s.extract k s.size)[0]'(by omega)).toNat != 4) = false := by rw [hc]; rfl
    rw [if_neg (by rw [hc]; simp)]
    by_cases h1 : s.size - k ≤ 1
    · rw [if_neg (fun h => absurd h.1 (by omega))]
      by_cases h33 : (((s.extract k s.size)[0]'(by omega)).toNat : Int) = 33
      · rw [if_pos h33]
        exact symbol_last s k w hlt h1 true hne hcb (beq_t h33)
      · rw [if_neg h33]
        exact symbol_last s k w hlt h1 false hne hcb (beq_f h33)
    · have h1' : 1 < s.size - k := by omega
      have z1 := bt_one (s.extract k s.size) (by omega)
      rw [z1]
      generalize hC : (s.extract k s.size)[0]'(by omega) = c at *
      generalize hD : (s.extract k s.size)[1]'(by omega) = d at *
      by_cases e60 : (c.toNat : Int) = 60
      · by_cases ed : d = 61 ∨ d = 60
        · rw [if_pos ⟨by omega, by unfold two; rw [e60]; rcases ed with rfl | rfl <;> rfl⟩]
          exact symbol_lt_yes s k w _ (ix_two_yes 61 60 d ed) h1' hne (by rw [hC]; exact hcb) (by rw [hC, b0]; exact beq_t e60) (by rw [hD])
        · have hz : two (c.toNat : Int) (d.toNat : Int) = false := by
            unfold two
            rw [e60, beq_f (show ¬ (d.toNat : Int) = 61 from fun h => ed (.inl ((u8_eq d 61 (by omega)).1 h))), beq_f (show ¬ (d.toNat : Int) = 60 from fun h => ed (.inr ((u8_eq d 60 (by omega)).1 h)))]; rfl
          rw [if_neg (by rw [hz]; simp), if_neg (by omega)]
          exact symbol_lt_no s k w _ (ix_two_no 61 60 d ed) h1' hne (by rw [hC]; exact hcb) (by rw [hC, b0]; exact beq_t e60) (by rw [hC, b1]; exact beq_f (by omega)) (by rw [hC, b2]; exact beq_f (by omega)) (by rw [hC]; exact beq_f (by omega)) (by rw [hD])
      by_cases e62 : (c.toNat : Int) = 62
      · by_cases ed : d = 61 ∨ d = 62
        · rw [if_pos ⟨by omega, by unfold two; rw [e62]; rcases ed with rfl | rfl <;> rfl⟩]
          exact symbol_gt_yes s k w _ (ix_two_yes 61 62 d ed) h1' hne (by rw [hC]; exact hcb) (by rw [hC, b0]; exact beq_f e60) (by rw [hC, b1]; exact beq_t e62) (by rw [hD])
        · have hz : two (c.toNat : Int) (d.toNat : Int) = false := by
            unfold two
            rw [e62, beq_f (show ¬ (d.toNat : Int) = 61 from fun h => ed (.inl ((u8_eq d 61 (by omega)).1 h))), beq_f (show ¬ (d.toNat : Int) = 62 from fun h => ed (.inr ((u8_eq d 62 (by omega)).1 h)))]; rfl
          rw [if_neg (by rw [hz]; simp), if_neg (by omega)]
          exact symbol_gt_no s k w _ (ix_two_no 61 62 d ed) h1' hne (by rw [hC]; exact hcb) (by rw [hC, b0]; exact beq_f e60) (by rw [hC, b1]; exact beq_t e62) (by rw [hC, b2]; exact beq_f (by omega)) (by rw [hC]; exact beq_f (by omega)) (by rw [hD])
      by_cases e33 : (c.toNat : Int) = 33
      · by_cases ed : d = 61
        · rw [if_pos ⟨by omega, by unfold two; rw [e33, ed]; rfl⟩]
          exact symbol_ne_yes s k w _ (ix_one_yes 61 d ed) h1' hne (by rw [hC]; exact hcb) (by rw [hC, b0]; exact beq_f e60) (by rw [hC, b1]; exact beq_f e62) (by rw [hC, b2]; exact beq_t e33) (by rw [hD])
        · have hz : two (c.toNat : Int) (d.toNat : Int) = false := by
            unfold two
            rw [e33, beq_f (show ¬ (d.toNat : Int) = 61 from fun h => ed ((u8_eq d 61 (by omega)).1 h))]; rfl
          rw [if_neg (by rw [hz]; simp), if_pos e33]
          exact symbol_ne_no s k w _ (ix_one_no 61 d ed) h1' hne (by rw [hC]; exact hcb) (by rw [hC, b0]; exact beq_f e60) (by rw [hC, b1]; exact beq_f e62) (by rw [hC, b2]; exact beq_t e33) (by rw [hC]; exact beq_t e33) (by rw [hD])
      · have hz : two (c.toNat : Int) (d.toNat : Int) = false := by
          unfold two
          rw [beq_f e60, beq_f e62, beq_f e33]; rfl
        rw [if_neg (by rw [hz]; simp), if_neg e33]
        exact symbol_other s k w h1' hne (by rw [hC]; exact hcb) (by rw [hC, b0]; exact beq_f e60) (by rw [hC, b1]; exact beq_f e62) (by rw [hC, b2]; exact beq_f e33) (by rw [hC]; exact beq_f e33)
  · rw [if_pos hc]
    exact symbol_none s k w hlt hne (by rw [bne_iff_ne]; exact hc)
/-- outside of the text -/
theorem symbol_out (s : ByteArray) (a : Int) (w : World) (h : a < 0 ∨ (s.size : Int) < a) :
    Calls Tryd.prog 33 #[.string s, .int .i64 a] w fun e w' => e = .returned (.tuple #[.int .i64 0, .int .i64 2]) ∧ Below w.heap.size w w' := by
  by_cases h0 : a < 0
  · clear h
    go_enter Tryd.func33, Tryd.ntmps33
    go_wp2_with fail
    go_ret2
    exact ⟨rfl, Below.refl _ _⟩
  · have h1 : (s.size : Int) < a := by omega
    have h2 : ¬ a ≤ (s.size : Int) := by omega
    clear h
    go_enter Tryd.func33, Tryd.ntmps33
    go_wp2_with fail
    go_ret2
    exact ⟨rfl, Below.refl _ _⟩
end Go.Proofs.YtdccajohjknnbaaDoor.Hand
