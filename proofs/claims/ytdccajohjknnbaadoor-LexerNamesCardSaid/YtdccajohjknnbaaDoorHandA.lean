/- chars.Kind: the kind of each byte is kindOf; what it makes in memory is new (every byte, every world). -/
import Derived.Test.YtdccajohjknnbaaDoorProg
import Derived.WalkKit
import Derived.Below
import Derived.Tactics
import Derived.KernelRfl
import Derived.BigQuiet
namespace Go.Proofs.YtdccajohjknnbaaDoor.Hand
open Go.RowKit

def kindOf (c : Int) : Int :=
  if c = 32 ∨ c = 10 then 1 else if 48 ≤ c ∧ c ≤ 57 then 2 else if 97 ≤ c ∧ c ≤ 122 then 3
  else if (40 ≤ c ∧ c ≤ 43) ∨ (60 ≤ c ∧ c ≤ 62) ∨ c = 45 ∨ c = 33 then 4 else 0
def bw (a b c : Int) : Bool := decide (a ≤ c ∧ c ≤ b)
theorem bw_true {a b c : Int} (h : bw a b c = true) : a ≤ c ∧ c ≤ b := of_decide_eq_true h
theorem bw_false {a b c : Int} (h : bw a b c = false) : ¬ (a ≤ c ∧ c ≤ b) := of_decide_eq_false h
theorem bw_yes {a b c : Int} (h1 : a ≤ c) (h2 : c ≤ b) : bw a b c = true := decide_eq_true ⟨h1, h2⟩
theorem bw_no {a b c : Int} (h : ¬ (a ≤ c ∧ c ≤ b)) : bw a b c = false := decide_eq_false h

set_option maxHeartbeats 400000 in
theorem between_yes (a b c : Int) (x : Addr) (w : World) (hc : w.cell? x = some (.int .u8 c)) (h1 : a ≤ c) (h2 : c ≤ b) :
    Calls Tryd.prog 30 #[.int .u8 a, .int .u8 b, .pointer (some x)] w fun e w' => e = .returned (.bool true) ∧ w = w' := by
  go_enter Tryd.func30, Tryd.ntmps30
  go_wp2
  go_ret
  exact ⟨rfl, rfl⟩
set_option maxHeartbeats 400000 in
theorem between_no (a b c : Int) (x : Addr) (w : World) (hc : w.cell? x = some (.int .u8 c)) (h : c < a ∨ b < c) :
    Calls Tryd.prog 30 #[.int .u8 a, .int .u8 b, .pointer (some x)] w fun e w' => e = .returned (.bool false) ∧ w = w' := by
  by_cases h1 : a ≤ c
  · have hd : decide (c ≤ b) = false := decide_eq_false (by omega)
    clear h
    go_enter Tryd.func30, Tryd.ntmps30
    go_wp2
    go_ret
    exact ⟨rfl, rfl⟩
  · clear h
    go_enter Tryd.func30, Tryd.ntmps30
    go_wp2
    go_ret
    exact ⟨rfl, rfl⟩
theorem ret_int {k : IntKind} {a b : Int} (h : a = b) : Ending.returned (.int k a) = .returned (.int k b) := by rw [h]
set_option maxHeartbeats 2000000 in
theorem kind_any (c : Int) (w : World) :
    Calls Tryd.prog 21 #[.int .u8 c] w fun e w' => e = .returned (.int .u8 (kindOf c)) ∧ Below w.heap.size w w' := by
  have hB : Below w.heap.size w (w.alloc (.cells #[.int .u8 c] 5)) := (Below.refl _ _).alloc (Nat.le_refl _) _
  have hc : (w.alloc (.cells #[.int .u8 c] 5)).cell? ⟨w.heap.size, 0, none⟩ = some (.int .u8 c) := by simp
  by_cases e1 : c = 32
  · have hf : kindOf c = 1 := if_pos (.inl e1)
    rw [hf]; clear hf hc
    have f1 : (c == 32) = true := by simpa using e1
    clear e1
    go_enter Tryd.func21, Tryd.ntmps21
    go_wp2
    go_ret
    exact ⟨rfl, hB⟩
  by_cases e2 : c = 10
  · have hf : kindOf c = 1 := if_pos (.inr e2)
    rw [hf]; clear hf hc
    have f1 : (c == 10) = true := by simpa using e2
    have f2 : (c == 32) = false := by simpa using e1
    clear e1 e2
    go_enter Tryd.func21, Tryd.ntmps21
    go_wp2
    go_ret
    exact ⟨rfl, hB⟩
  have f1 : (c == 10) = false := by simpa using e2
  have f2 : (c == 32) = false := by simpa using e1
  by_cases h0 : 48 ≤ c ∧ c ≤ 57
  · have hf : kindOf c = 2 := by unfold kindOf; rw [if_neg (by omega), if_pos h0]
    rw [hf]; clear hf e1 e2
    go_enter Tryd.func21, Tryd.ntmps21
    go_wp2_with fail
    refine (between_yes 48 57 c _ _ hc (by omega) (by omega)).mono ?_
    rintro e w' ⟨rfl, rfl⟩
    go_wp2
    go_ret
    exact ⟨rfl, hB⟩
  by_cases h1 : 97 ≤ c ∧ c ≤ 122
  · have hf : kindOf c = 3 := by unfold kindOf; rw [if_neg (by omega), if_neg (by omega), if_pos h1]
    rw [hf]; clear hf e1 e2
    go_enter Tryd.func21, Tryd.ntmps21
    go_wp2_with fail
    refine (between_no 48 57 c _ _ hc (by omega)).mono ?_
    rintro e w' ⟨rfl, rfl⟩
    go_wp2_with fail
    refine (between_yes 97 122 c _ _ hc (by omega) (by omega)).mono ?_
    rintro e w' ⟨rfl, rfl⟩
    go_wp2
    go_ret
    exact ⟨rfl, hB⟩
  by_cases h2 : 40 ≤ c ∧ c ≤ 43
  · have hf : kindOf c = 4 := by unfold kindOf; rw [if_neg (by omega), if_neg (by omega), if_neg (by omega), if_pos (.inl h2)]
    rw [hf]; clear hf e1 e2
    go_enter Tryd.func21, Tryd.ntmps21
    go_wp2_with fail
    refine (between_no 48 57 c _ _ hc (by omega)).mono ?_
    rintro e w' ⟨rfl, rfl⟩
    go_wp2_with fail
    refine (between_no 97 122 c _ _ hc (by omega)).mono ?_
    rintro e w' ⟨rfl, rfl⟩
    go_wp2_with fail
    refine (between_yes 40 43 c _ _ hc (by omega) (by omega)).mono ?_
    rintro e w' ⟨rfl, rfl⟩
    go_wp2
    go_ret
    exact ⟨rfl, hB⟩
  by_cases h3 : 60 ≤ c ∧ c ≤ 62
  · have hf : kindOf c = 4 := by unfold kindOf; rw [if_neg (by omega), if_neg (by omega), if_neg (by omega), if_pos (.inr (.inl h3))]
    rw [hf]; clear hf e1 e2
    go_enter Tryd.func21, Tryd.ntmps21
    go_wp2_with fail
    refine (between_no 48 57 c _ _ hc (by omega)).mono ?_
    rintro e w' ⟨rfl, rfl⟩
    go_wp2_with fail
    refine (between_no 97 122 c _ _ hc (by omega)).mono ?_
    rintro e w' ⟨rfl, rfl⟩
    go_wp2_with fail
    refine (between_no 40 43 c _ _ hc (by omega)).mono ?_
    rintro e w' ⟨rfl, rfl⟩
    go_wp2_with fail
    refine (between_yes 60 62 c _ _ hc (by omega) (by omega)).mono ?_
    rintro e w' ⟨rfl, rfl⟩
    go_wp2
    go_ret
    exact ⟨rfl, hB⟩
  by_cases e4 : c = 45
  · have hf : kindOf c = 4 := by unfold kindOf; rw [if_neg (by omega), if_neg (by omega), if_neg (by omega), if_pos (.inr (.inr (.inl e4)))]
    rw [hf]
    have g1 : (c == 45) = true := by simpa using e4
    clear hf e1 e2 e4
    go_enter Tryd.func21, Tryd.ntmps21
    go_wp2_with fail
    refine (between_no 48 57 c _ _ hc (by omega)).mono ?_
    rintro e w' ⟨rfl, rfl⟩
    go_wp2_with fail
    refine (between_no 97 122 c _ _ hc (by omega)).mono ?_
    rintro e w' ⟨rfl, rfl⟩
    go_wp2_with fail
    refine (between_no 40 43 c _ _ hc (by omega)).mono ?_
    rintro e w' ⟨rfl, rfl⟩
    go_wp2_with fail
    refine (between_no 60 62 c _ _ hc (by omega)).mono ?_
    rintro e w' ⟨rfl, rfl⟩
    go_wp2
    go_ret
    exact ⟨rfl, hB⟩
  by_cases e5 : c = 33
  · have hf : kindOf c = 4 := by unfold kindOf; rw [if_neg (by omega), if_neg (by omega), if_neg (by omega), if_pos (.inr (.inr (.inr e5)))]
    rw [hf]
    have g1 : (c == 45) = false := by simpa using e4
    have g2 : (c == 33) = true := by simpa using e5
    clear hf e1 e2 e4 e5
    go_enter Tryd.func21, Tryd.ntmps21
    go_wp2_with fail
    refine (between_no 48 57 c _ _ hc (by omega)).mono ?_
    rintro e w' ⟨rfl, rfl⟩
    go_wp2_with fail
    refine (between_no 97 122 c _ _ hc (by omega)).mono ?_
    rintro e w' ⟨rfl, rfl⟩
    go_wp2_with fail
    refine (between_no 40 43 c _ _ hc (by omega)).mono ?_
    rintro e w' ⟨rfl, rfl⟩
    go_wp2_with fail
    refine (between_no 60 62 c _ _ hc (by omega)).mono ?_
    rintro e w' ⟨rfl, rfl⟩
    go_wp2
    go_ret
    exact ⟨rfl, hB⟩
  have hf : kindOf c = 0 := by unfold kindOf; rw [if_neg (by omega), if_neg (by omega), if_neg (by omega), if_neg (by omega)]
  rw [hf]
  have g1 : (c == 45) = false := by simpa using e4
  have g2 : (c == 33) = false := by simpa using e5
  clear hf e1 e2 e4 e5
  go_enter Tryd.func21, Tryd.ntmps21
  go_wp2_with fail
  refine (between_no 48 57 c _ _ hc (by omega)).mono ?_
  rintro e w' ⟨rfl, rfl⟩
  go_wp2_with fail
  refine (between_no 97 122 c _ _ hc (by omega)).mono ?_
  rintro e w' ⟨rfl, rfl⟩
  go_wp2_with fail
  refine (between_no 40 43 c _ _ hc (by omega)).mono ?_
  rintro e w' ⟨rfl, rfl⟩
  go_wp2_with fail
  refine (between_no 60 62 c _ _ hc (by omega)).mono ?_
  rintro e w' ⟨rfl, rfl⟩
  go_wp2
  go_ret
  exact ⟨rfl, hB⟩
end Go.Proofs.YtdccajohjknnbaaDoor.Hand
