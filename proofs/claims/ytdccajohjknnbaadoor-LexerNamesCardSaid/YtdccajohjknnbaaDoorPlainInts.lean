/- Plain laws on numbers that are read from digits: what the library's Trim and ParseInt give at digits. -/
import Derived.Lib.SlTrimSet
import Derived.Lib.ParseIntB
namespace Go.Proofs.YtdccajohjknnbaaDoor.Hand
open Go.Lib
def digB (c : UInt8) : Bool := decide (48 ≤ c.toNat) && decide (c.toNat ≤ 57)
def decFrom (a : Nat) (l : List UInt8) : Nat := l.foldl (fun a c => a * 10 + (c.toNat - 48)) a
/-- what ints.Read gives: the number, and the error -/
def readL (l : List UInt8) : Int × Int :=
  if l = [] then (0, 12) else if l.all digB = true then (if decFrom 0 l ≤ 9223372036854775807 then ((decFrom 0 l : Int), 0) else (0, 16)) else (0, 12)
theorem decFrom_ge (l : List UInt8) : ∀ a, a ≤ decFrom a l := by
  induction l with
  | nil => intro a; exact Nat.le_refl _
  | cons c r ih =>
    intro a
    have := ih (a * 10 + (c.toNat - 48))
    show a ≤ decFrom (a * 10 + (c.toNat - 48)) r
    omega
theorem digB_iff {c : UInt8} : digB c = true ↔ 48 ≤ c.toNat ∧ c.toNat ≤ 57 := by
  unfold digB; simp
theorem parseUint_digits (M : Nat) (hM : M = 18446744073709551615) (l : List UInt8) : ∀ acc, acc ≤ M → l.all digB = true → parseUintM M acc l = if decFrom acc l ≤ M then .ok (decFrom acc l) else .range := by
  induction l with
  | nil => intro acc h _; simp only [parseUintM]; rw [if_pos (show decFrom acc [] ≤ M from h)]; rfl
  | cons c r ih =>
    intro acc h hd
    rw [List.all_cons, Bool.and_eq_true] at hd
    have hc := digB_iff.1 hd.1
    have e : decFrom acc (c :: r) = decFrom (acc * 10 + (c.toNat - 48)) r := rfl
    have hge := decFrom_ge r (acc * 10 + (c.toNat - 48))
    simp only [parseUintM]
    rw [if_pos hc, e]
    by_cases h1 : 1844674407370955162 ≤ acc
    · rw [if_pos h1, if_neg (by omega)]
    · rw [if_neg h1]
      by_cases h2 : M < acc * 10 + (c.toNat - 48)
      · rw [if_pos h2, if_neg (by omega)]
      · rw [if_neg h2]
        exact ih _ (by omega) hd.2
theorem parseInt_digits (l : List UInt8) (hl : l ≠ []) (hd : l.all digB = true) : parseIntB 64 l = if decFrom 0 l ≤ 9223372036854775807 then .ok (decFrom 0 l : Int) else .range := by
  cases l with
  | nil => exact absurd rfl hl
  | cons c r =>
    have hc := digB_iff.1 (List.all_eq_true.1 hd c (List.mem_cons_self ..))
    have h43 : ¬ (c.toNat = 43 ∨ c.toNat = 45) := by omega
    have h45 : ¬ c.toNat = 45 := by omega
    simp only [parseIntB]
    rw [if_neg h43]
    unfold parseUintB
    rw [if_neg (by simp), parseUint_digits (2 ^ 64 - 1) (by decide) (c :: r) 0 (by decide) hd]
    by_cases h1 : decFrom 0 (c :: r) ≤ 18446744073709551615
    · rw [if_pos (show decFrom 0 (c :: r) ≤ 2 ^ 64 - 1 from h1)]
      simp only [h45, not_false_eq_true, true_and, false_and, if_false]
      by_cases h2 : decFrom 0 (c :: r) ≤ 9223372036854775807
      · have e : ¬ 2 ^ (64 - 1) ≤ decFrom 0 (c :: r) := by
          have : (2 : Nat) ^ (64 - 1) = 9223372036854775808 := by decide
          omega
        rw [if_pos h2, if_neg e]
      · have e : 2 ^ (64 - 1) ≤ decFrom 0 (c :: r) := by
          have : (2 : Nat) ^ (64 - 1) = 9223372036854775808 := by decide
          omega
        rw [if_neg h2, if_pos e]
    · rw [if_neg (show ¬ decFrom 0 (c :: r) ≤ 2 ^ 64 - 1 from h1), if_neg (by omega)]
def digitsB : List UInt8 := [48, 49, 50, 51, 52, 53, 54, 55, 56, 57]
theorem digits_contains (c : UInt8) : digitsB.contains c = digB c := by
  have h : ∀ n : Fin 256, digitsB.contains (UInt8.ofNat n.val) = digB (UInt8.ofNat n.val) := by decide +kernel
  have := h ⟨c.toNat, c.toNat_lt⟩
  simpa using this
theorem dropWhile_nil {p : UInt8 → Bool} {l : List UInt8} : l.dropWhile p = [] ↔ ∀ x ∈ l, p x = true := by
  induction l with
  | nil => simp
  | cons c r ih =>
    by_cases hc : p c = true
    · rw [List.dropWhile_cons_of_pos hc, ih]; simp [hc]
    · rw [List.dropWhile_cons_of_neg hc]; simp [hc]
theorem mem_dropWhile {p : UInt8 → Bool} {l : List UInt8} {x : UInt8} (hx : x ∈ l) (hp : ¬ p x = true) : x ∈ l.dropWhile p := by
  induction l with
  | nil => exact hx
  | cons c r ih =>
    by_cases hc : p c = true
    · rw [List.dropWhile_cons_of_pos hc]
      rcases List.mem_cons.1 hx with rfl | h
      · exact absurd hc hp
      · exact ih h
    · rw [List.dropWhile_cons_of_neg hc]; exact hx
theorem trim_nil (l : List UInt8) : trimS l digitsB = [] ↔ l.all digB = true := by
  unfold trimS trimLeftS trimRightS
  rw [dropWhile_nil, List.all_eq_true]
  constructor
  · intro h x hx
    by_cases hd : digB x = true
    · exact hd
    · have hm : x ∈ (l.reverse.dropWhile (digitsB.contains ·)) := mem_dropWhile (List.mem_reverse.2 hx) (by rw [digits_contains]; exact hd)
      have := h x (List.mem_reverse.2 hm)
      rw [digits_contains] at this; exact this
  · intro h x hx
    have hm := List.mem_reverse.1 hx
    have : x ∈ l.reverse := (List.dropWhile_sublist _).subset hm
    rw [digits_contains]; exact h x (List.mem_reverse.1 this)
end Go.Proofs.YtdccajohjknnbaaDoor.Hand
