/- chars.Symbol, way by way: what it returns for a text of which the first bytes are of a given kind. -/
import Derived.Test.YtdccajohjknnbaaDoorHandA
import Derived.Test.YtdccajohjknnbaaDoorShelfA
import Derived.Test.YtdccajohjknnbaaDoorWWords
import Derived.BigQuiet
import Derived.Deep.QuietTactic
import Derived.LoopNIn
import Derived.WalkSpells
import Derived.Lib.Hide
namespace Go.Proofs.YtdccajohjknnbaaDoor.Hand
open Go.RowKit Go.Proofs.YtdccajohjknnbaaDoorW.PrintWords
def two (c d : Int) : Bool := (c == 60 && (d == 61 || d == 60)) || (c == 62 && (d == 61 || d == 62)) || (c == 33 && d == 61)
def symT (t : ByteArray) : Int :=
  if t.size = 0 then 0 else if kindOf (bt t 0) ≠ 4 then 0 else if 1 < t.size ∧ two (bt t 0) (bt t 1) = true then 2 else if bt t 0 = 33 then 0 else 1
theorem bt_zero (t : ByteArray) (h : 0 < t.size) : bt t 0 = ((t[0]'h).toNat : Int) := by
  unfold bt; rw [dif_pos (by simpa using h)]; rfl
theorem bt_one (t : ByteArray) (h : 1 < t.size) : bt t 1 = ((t[1]'h).toNat : Int) := by
  unfold bt; rw [dif_pos (by simpa using h)]; rfl
def symPost (n : Int) (w : World) (e : Ending) (w' : World) : Prop := e = .returned (.tuple #[.int .i64 n, .int .i64 0]) ∧ Below w.heap.size w w'
set_option maxHeartbeats 1000000 in
theorem symbol_empty (s : ByteArray) (k : Nat) (w : World) (hk : k = s.size) :
    Calls Tryd.prog 33 #[.string s, .int .i64 k] w (symPost 0 w) := by
  have hk1 : k ≤ s.size := by omega
  have he : (s.extract k s.size).toList = [] := by rw [hk]; simp
  clear hk
  go_enter Tryd.func33, Tryd.ntmps33
  go_wp2_with fail
  go_ret2
  exact ⟨rfl, Below.refl _ _⟩
set_option maxHeartbeats 1000000 in
theorem symbol_none (s : ByteArray) (k : Nat) (w : World) (hk : k < s.size)
    (hne : (s.extract k s.size).toList.isEmpty = false) (hc : (kindOf ((s.extract k s.size)[0]'(by simp; omega)).toNat != 4) = true) :
    Calls Tryd.prog 33 #[.string s, .int .i64 k] w (symPost 0 w) := by
  have hk1 : k ≤ s.size := by omega
  have hk2 : 0 < s.size - k := by omega
  go_enter Tryd.func33, Tryd.ntmps33
  go_wp2_with fail
  refine (kind_any _ _).mono ?_
  rintro e w1 ⟨rfl, hB⟩
  go_wp2_with fail
  go_ret2
  exact ⟨rfl, hB⟩
set_option maxHeartbeats 1000000 in
theorem symbol_last (s : ByteArray) (k : Nat) (w : World) (hk : k < s.size) (h1 : s.size - k ≤ 1) (b : Bool)
    (hne : (s.extract k s.size).toList.isEmpty = false) (hc : (kindOf ((s.extract k s.size)[0]'(by simp; omega)).toNat != 4) = false)
    (h33b : ((((s.extract k s.size)[0]'(by simp; omega)).toNat : Int) == 33) = b) :
    Calls Tryd.prog 33 #[.string s, .int .i64 k] w (symPost (if b = true then 0 else 1) w) := by
  have hk1 : k ≤ s.size := by omega
  have hk2 : 0 < s.size - k := by omega
  cases b
  all_goals
    go_enter Tryd.func33, Tryd.ntmps33
    go_wp2_with fail
    refine (kind_any _ _).mono ?_
    rintro e w1 ⟨rfl, hB⟩
    go_wp2_with fail
    go_ret2
    exact ⟨rfl, hB⟩
theorem ib_some (l : ByteArray) (c : Int) (n : Int) (w : World) (h : Lib.indexByte l.data.toList c.toNat.toUInt8 = n) :
    Calls Tryd.prog 44 #[.string l, .int .u8 c] w fun e w' => e = .returned (.int .i64 n) ∧ w' = w := by
  rw [← h]; exact Tryd.strings_IndexByte l c w
theorem later_same {P : Program} {f : FuncId} {args : Array Value} {w : World} {a n : Nat} {v : Value}
    (h : Calls P f args (w.drewN (a + n)) fun e w' => e = .returned v ∧ w' = w.drewN (a + n)) :
    Calls P f args (w.drewN (a + n)) fun e w'' => e = .returned v ∧ ∃ m, w'' = w.drewN (a + m) := h.mono fun _ _ h2 => ⟨h2.1, _, h2.2⟩
set_option maxHeartbeats 4000000 in
theorem symbol_lt_yes (s : ByteArray) (k : Nat) (w : World) (n : Int) (hn : 0 ≤ n) (h1 : 1 < s.size - k)
    (hne : (s.extract k s.size).toList.isEmpty = false) (hc : (kindOf ((s.extract k s.size)[0]'(by simp; omega)).toNat != 4) = false)
    (hx0 : ((((s.extract k s.size)[0]'(by simp; omega)).toNat : Int) == (((⟨#[60, 62, 33]⟩ : ByteArray)[0]'(by decide)).toNat : Int)) = true)
    (hi : Lib.indexByte [61, 60] (((s.extract k s.size)[1]'(by simp; omega)).toNat : Int).toNat.toUInt8 = n) :
    Calls Tryd.prog 33 #[.string s, .int .i64 k] w (symPost 2 w) := by
  have hk1 : k ≤ s.size := by omega
  have hk2 : 0 < s.size - k := by omega
  have i0 : ∀ w, (Instr.index 80 (.agg #[.string ⟨#[61, 60]⟩, .string ⟨#[61, 62]⟩, .string ⟨#[61]⟩]) (.int .i64 0)).run Tryd.prog w = .ok (.string ⟨#[61, 60]⟩) w := fun _ => by kernel_rfl
  have Hi := Lib.hid hi
  clear hi
  go_enter Tryd.func33, Tryd.ntmps33
  go_wp2_with fail
  refine (kind_any _ _).mono ?_
  rintro e w1 ⟨rfl, hB⟩
  go_wp2_with fail
  refine wp_loop_rounds 4 ?_
  rw [rounds_succ]
  go_wp2_with fail
  go_quiet ((go_at_call 44; first | exact Calls.quiet_of_same (ib_some _ _ _ _ Hi.out) | exact later_same (ib_some _ _ _ _ Hi.out)))
  go_wp2_with fail
  go_ret2
  exact ⟨rfl, by repeat (first | exact hB | apply pw_below_drewN)⟩
set_option maxHeartbeats 4000000 in
theorem symbol_lt_no (s : ByteArray) (k : Nat) (w : World) (n : Int) (hn : n < 0) (h1 : 1 < s.size - k)
    (hne : (s.extract k s.size).toList.isEmpty = false) (hc : (kindOf ((s.extract k s.size)[0]'(by simp; omega)).toNat != 4) = false)
    (hx0 : ((((s.extract k s.size)[0]'(by simp; omega)).toNat : Int) == (((⟨#[60, 62, 33]⟩ : ByteArray)[0]'(by decide)).toNat : Int)) = true)
    (hx1 : ((((s.extract k s.size)[0]'(by simp; omega)).toNat : Int) == (((⟨#[60, 62, 33]⟩ : ByteArray)[1]'(by decide)).toNat : Int)) = false)
    (hx2 : ((((s.extract k s.size)[0]'(by simp; omega)).toNat : Int) == (((⟨#[60, 62, 33]⟩ : ByteArray)[2]'(by decide)).toNat : Int)) = false)
    (h33 : ((((s.extract k s.size)[0]'(by simp; omega)).toNat : Int) == 33) = false)
    (hi : Lib.indexByte [61, 60] (((s.extract k s.size)[1]'(by simp; omega)).toNat : Int).toNat.toUInt8 = n) :
    Calls Tryd.prog 33 #[.string s, .int .i64 k] w (symPost 1 w) := by
  have hk1 : k ≤ s.size := by omega
  have hk2 : 0 < s.size - k := by omega
  have i0 : ∀ w, (Instr.index 80 (.agg #[.string ⟨#[61, 60]⟩, .string ⟨#[61, 62]⟩, .string ⟨#[61]⟩]) (.int .i64 0)).run Tryd.prog w = .ok (.string ⟨#[61, 60]⟩) w := fun _ => by kernel_rfl
  have i1 : ∀ w, (Instr.index 80 (.agg #[.string ⟨#[61, 60]⟩, .string ⟨#[61, 62]⟩, .string ⟨#[61]⟩]) (.int .i64 1)).run Tryd.prog w = .ok (.string ⟨#[61, 62]⟩) w := fun _ => by kernel_rfl
  have i2 : ∀ w, (Instr.index 80 (.agg #[.string ⟨#[61, 60]⟩, .string ⟨#[61, 62]⟩, .string ⟨#[61]⟩]) (.int .i64 2)).run Tryd.prog w = .ok (.string ⟨#[61]⟩) w := fun _ => by kernel_rfl
  have Hi := Lib.hid hi
  clear hi
  go_enter Tryd.func33, Tryd.ntmps33
  go_wp2_with fail
  refine (kind_any _ _).mono ?_
  rintro e w1 ⟨rfl, hB⟩
  go_wp2_with fail
  refine wp_loop_rounds 4 ?_
  rw [rounds_succ]
  go_wp2_with fail
  go_quiet ((go_at_call 44; first | exact Calls.quiet_of_same (ib_some _ _ _ _ Hi.out) | exact later_same (ib_some _ _ _ _ Hi.out)))
  go_wp2_with fail
  rw [rounds_succ]
  go_wp2_with fail
  go_quiet (fail)
  go_wp2_with fail
  rw [rounds_succ]
  go_wp2_with fail
  go_quiet (fail)
  go_wp2_with fail
  rw [rounds_succ]
  go_wp2_with fail
  go_ret2
  exact ⟨rfl, by repeat (first | exact hB | apply pw_below_drewN)⟩
set_option maxHeartbeats 4000000 in
theorem symbol_gt_yes (s : ByteArray) (k : Nat) (w : World) (n : Int) (hn : 0 ≤ n) (h1 : 1 < s.size - k)
    (hne : (s.extract k s.size).toList.isEmpty = false) (hc : (kindOf ((s.extract k s.size)[0]'(by simp; omega)).toNat != 4) = false)
    (hx0 : ((((s.extract k s.size)[0]'(by simp; omega)).toNat : Int) == (((⟨#[60, 62, 33]⟩ : ByteArray)[0]'(by decide)).toNat : Int)) = false)
    (hx1 : ((((s.extract k s.size)[0]'(by simp; omega)).toNat : Int) == (((⟨#[60, 62, 33]⟩ : ByteArray)[1]'(by decide)).toNat : Int)) = true)
    (hi : Lib.indexByte [61, 62] (((s.extract k s.size)[1]'(by simp; omega)).toNat : Int).toNat.toUInt8 = n) :
    Calls Tryd.prog 33 #[.string s, .int .i64 k] w (symPost 2 w) := by
  have hk1 : k ≤ s.size := by omega
  have hk2 : 0 < s.size - k := by omega
  have i0 : ∀ w, (Instr.index 80 (.agg #[.string ⟨#[61, 60]⟩, .string ⟨#[61, 62]⟩, .string ⟨#[61]⟩]) (.int .i64 0)).run Tryd.prog w = .ok (.string ⟨#[61, 60]⟩) w := fun _ => by kernel_rfl
  have i1 : ∀ w, (Instr.index 80 (.agg #[.string ⟨#[61, 60]⟩, .string ⟨#[61, 62]⟩, .string ⟨#[61]⟩]) (.int .i64 1)).run Tryd.prog w = .ok (.string ⟨#[61, 62]⟩) w := fun _ => by kernel_rfl
  have Hi := Lib.hid hi
  clear hi
  go_enter Tryd.func33, Tryd.ntmps33
  go_wp2_with fail
  refine (kind_any _ _).mono ?_
  rintro e w1 ⟨rfl, hB⟩
  go_wp2_with fail
  refine wp_loop_rounds 4 ?_
  rw [rounds_succ]
  go_wp2_with fail
  go_quiet (fail)
  go_wp2_with fail
  rw [rounds_succ]
  go_wp2_with fail
  go_quiet ((go_at_call 44; first | exact Calls.quiet_of_same (ib_some _ _ _ _ Hi.out) | exact later_same (ib_some _ _ _ _ Hi.out)))
  go_wp2_with fail
  go_ret2
  exact ⟨rfl, by repeat (first | exact hB | apply pw_below_drewN)⟩
set_option maxHeartbeats 4000000 in
theorem symbol_gt_no (s : ByteArray) (k : Nat) (w : World) (n : Int) (hn : n < 0) (h1 : 1 < s.size - k)
    (hne : (s.extract k s.size).toList.isEmpty = false) (hc : (kindOf ((s.extract k s.size)[0]'(by simp; omega)).toNat != 4) = false)
    (hx0 : ((((s.extract k s.size)[0]'(by simp; omega)).toNat : Int) == (((⟨#[60, 62, 33]⟩ : ByteArray)[0]'(by decide)).toNat : Int)) = false)
    (hx1 : ((((s.extract k s.size)[0]'(by simp; omega)).toNat : Int) == (((⟨#[60, 62, 33]⟩ : ByteArray)[1]'(by decide)).toNat : Int)) = true)
    (hx2 : ((((s.extract k s.size)[0]'(by simp; omega)).toNat : Int) == (((⟨#[60, 62, 33]⟩ : ByteArray)[2]'(by decide)).toNat : Int)) = false)
    (h33 : ((((s.extract k s.size)[0]'(by simp; omega)).toNat : Int) == 33) = false)
    (hi : Lib.indexByte [61, 62] (((s.extract k s.size)[1]'(by simp; omega)).toNat : Int).toNat.toUInt8 = n) :
    Calls Tryd.prog 33 #[.string s, .int .i64 k] w (symPost 1 w) := by
  have hk1 : k ≤ s.size := by omega
  have hk2 : 0 < s.size - k := by omega
  have i0 : ∀ w, (Instr.index 80 (.agg #[.string ⟨#[61, 60]⟩, .string ⟨#[61, 62]⟩, .string ⟨#[61]⟩]) (.int .i64 0)).run Tryd.prog w = .ok (.string ⟨#[61, 60]⟩) w := fun _ => by kernel_rfl
  have i1 : ∀ w, (Instr.index 80 (.agg #[.string ⟨#[61, 60]⟩, .string ⟨#[61, 62]⟩, .string ⟨#[61]⟩]) (.int .i64 1)).run Tryd.prog w = .ok (.string ⟨#[61, 62]⟩) w := fun _ => by kernel_rfl
  have i2 : ∀ w, (Instr.index 80 (.agg #[.string ⟨#[61, 60]⟩, .string ⟨#[61, 62]⟩, .string ⟨#[61]⟩]) (.int .i64 2)).run Tryd.prog w = .ok (.string ⟨#[61]⟩) w := fun _ => by kernel_rfl
  have Hi := Lib.hid hi
  clear hi
  go_enter Tryd.func33, Tryd.ntmps33
  go_wp2_with fail
  refine (kind_any _ _).mono ?_
  rintro e w1 ⟨rfl, hB⟩
  go_wp2_with fail
  refine wp_loop_rounds 4 ?_
  rw [rounds_succ]
  go_wp2_with fail
  go_quiet (fail)
  go_wp2_with fail
  rw [rounds_succ]
  go_wp2_with fail
  go_quiet ((go_at_call 44; first | exact Calls.quiet_of_same (ib_some _ _ _ _ Hi.out) | exact later_same (ib_some _ _ _ _ Hi.out)))
  go_wp2_with fail
  rw [rounds_succ]
  go_wp2_with fail
  go_quiet (fail)
  go_wp2_with fail
  rw [rounds_succ]
  go_wp2_with fail
  go_ret2
  exact ⟨rfl, by repeat (first | exact hB | apply pw_below_drewN)⟩
set_option maxHeartbeats 4000000 in
theorem symbol_ne_yes (s : ByteArray) (k : Nat) (w : World) (n : Int) (hn : 0 ≤ n) (h1 : 1 < s.size - k)
    (hne : (s.extract k s.size).toList.isEmpty = false) (hc : (kindOf ((s.extract k s.size)[0]'(by simp; omega)).toNat != 4) = false)
    (hx0 : ((((s.extract k s.size)[0]'(by simp; omega)).toNat : Int) == (((⟨#[60, 62, 33]⟩ : ByteArray)[0]'(by decide)).toNat : Int)) = false)
    (hx1 : ((((s.extract k s.size)[0]'(by simp; omega)).toNat : Int) == (((⟨#[60, 62, 33]⟩ : ByteArray)[1]'(by decide)).toNat : Int)) = false)
    (hx2 : ((((s.extract k s.size)[0]'(by simp; omega)).toNat : Int) == (((⟨#[60, 62, 33]⟩ : ByteArray)[2]'(by decide)).toNat : Int)) = true)
    (hi : Lib.indexByte [61] (((s.extract k s.size)[1]'(by simp; omega)).toNat : Int).toNat.toUInt8 = n) :
    Calls Tryd.prog 33 #[.string s, .int .i64 k] w (symPost 2 w) := by
  have hk1 : k ≤ s.size := by omega
  have hk2 : 0 < s.size - k := by omega
  have i0 : ∀ w, (Instr.index 80 (.agg #[.string ⟨#[61, 60]⟩, .string ⟨#[61, 62]⟩, .string ⟨#[61]⟩]) (.int .i64 0)).run Tryd.prog w = .ok (.string ⟨#[61, 60]⟩) w := fun _ => by kernel_rfl
  have i1 : ∀ w, (Instr.index 80 (.agg #[.string ⟨#[61, 60]⟩, .string ⟨#[61, 62]⟩, .string ⟨#[61]⟩]) (.int .i64 1)).run Tryd.prog w = .ok (.string ⟨#[61, 62]⟩) w := fun _ => by kernel_rfl
  have i2 : ∀ w, (Instr.index 80 (.agg #[.string ⟨#[61, 60]⟩, .string ⟨#[61, 62]⟩, .string ⟨#[61]⟩]) (.int .i64 2)).run Tryd.prog w = .ok (.string ⟨#[61]⟩) w := fun _ => by kernel_rfl
  have Hi := Lib.hid hi
  clear hi
  go_enter Tryd.func33, Tryd.ntmps33
  go_wp2_with fail
  refine (kind_any _ _).mono ?_
  rintro e w1 ⟨rfl, hB⟩
  go_wp2_with fail
  refine wp_loop_rounds 4 ?_
  rw [rounds_succ]
  go_wp2_with fail
  go_quiet (fail)
  go_wp2_with fail
  rw [rounds_succ]
  go_wp2_with fail
  go_quiet (fail)
  go_wp2_with fail
  rw [rounds_succ]
  go_wp2_with fail
  go_quiet ((go_at_call 44; first | exact Calls.quiet_of_same (ib_some _ _ _ _ Hi.out) | exact later_same (ib_some _ _ _ _ Hi.out)))
  go_wp2_with fail
  go_ret2
  exact ⟨rfl, by repeat (first | exact hB | apply pw_below_drewN)⟩
set_option maxHeartbeats 4000000 in
theorem symbol_ne_no (s : ByteArray) (k : Nat) (w : World) (n : Int) (hn : n < 0) (h1 : 1 < s.size - k)
    (hne : (s.extract k s.size).toList.isEmpty = false) (hc : (kindOf ((s.extract k s.size)[0]'(by simp; omega)).toNat != 4) = false)
    (hx0 : ((((s.extract k s.size)[0]'(by simp; omega)).toNat : Int) == (((⟨#[60, 62, 33]⟩ : ByteArray)[0]'(by decide)).toNat : Int)) = false)
    (hx1 : ((((s.extract k s.size)[0]'(by simp; omega)).toNat : Int) == (((⟨#[60, 62, 33]⟩ : ByteArray)[1]'(by decide)).toNat : Int)) = false)
    (hx2 : ((((s.extract k s.size)[0]'(by simp; omega)).toNat : Int) == (((⟨#[60, 62, 33]⟩ : ByteArray)[2]'(by decide)).toNat : Int)) = true)
    (h33 : ((((s.extract k s.size)[0]'(by simp; omega)).toNat : Int) == 33) = true)
    (hi : Lib.indexByte [61] (((s.extract k s.size)[1]'(by simp; omega)).toNat : Int).toNat.toUInt8 = n) :
    Calls Tryd.prog 33 #[.string s, .int .i64 k] w (symPost 0 w) := by
  have hk1 : k ≤ s.size := by omega
  have hk2 : 0 < s.size - k := by omega
  have i0 : ∀ w, (Instr.index 80 (.agg #[.string ⟨#[61, 60]⟩, .string ⟨#[61, 62]⟩, .string ⟨#[61]⟩]) (.int .i64 0)).run Tryd.prog w = .ok (.string ⟨#[61, 60]⟩) w := fun _ => by kernel_rfl
  have i1 : ∀ w, (Instr.index 80 (.agg #[.string ⟨#[61, 60]⟩, .string ⟨#[61, 62]⟩, .string ⟨#[61]⟩]) (.int .i64 1)).run Tryd.prog w = .ok (.string ⟨#[61, 62]⟩) w := fun _ => by kernel_rfl
  have i2 : ∀ w, (Instr.index 80 (.agg #[.string ⟨#[61, 60]⟩, .string ⟨#[61, 62]⟩, .string ⟨#[61]⟩]) (.int .i64 2)).run Tryd.prog w = .ok (.string ⟨#[61]⟩) w := fun _ => by kernel_rfl
  have Hi := Lib.hid hi
  clear hi
  go_enter Tryd.func33, Tryd.ntmps33
  go_wp2_with fail
  refine (kind_any _ _).mono ?_
  rintro e w1 ⟨rfl, hB⟩
  go_wp2_with fail
  refine wp_loop_rounds 4 ?_
  rw [rounds_succ]
  go_wp2_with fail
  go_quiet (fail)
  go_wp2_with fail
  rw [rounds_succ]
  go_wp2_with fail
  go_quiet (fail)
  go_wp2_with fail
  rw [rounds_succ]
  go_wp2_with fail
  go_quiet ((go_at_call 44; first | exact Calls.quiet_of_same (ib_some _ _ _ _ Hi.out) | exact later_same (ib_some _ _ _ _ Hi.out)))
  go_wp2_with fail
  rw [rounds_succ]
  go_wp2_with fail
  go_ret2
  exact ⟨rfl, by repeat (first | exact hB | apply pw_below_drewN)⟩
set_option maxHeartbeats 4000000 in
theorem symbol_other (s : ByteArray) (k : Nat) (w : World) (h1 : 1 < s.size - k)
    (hne : (s.extract k s.size).toList.isEmpty = false) (hc : (kindOf ((s.extract k s.size)[0]'(by simp; omega)).toNat != 4) = false)
    (hx0 : ((((s.extract k s.size)[0]'(by simp; omega)).toNat : Int) == (((⟨#[60, 62, 33]⟩ : ByteArray)[0]'(by decide)).toNat : Int)) = false)
    (hx1 : ((((s.extract k s.size)[0]'(by simp; omega)).toNat : Int) == (((⟨#[60, 62, 33]⟩ : ByteArray)[1]'(by decide)).toNat : Int)) = false)
    (hx2 : ((((s.extract k s.size)[0]'(by simp; omega)).toNat : Int) == (((⟨#[60, 62, 33]⟩ : ByteArray)[2]'(by decide)).toNat : Int)) = false)
    (h33 : ((((s.extract k s.size)[0]'(by simp; omega)).toNat : Int) == 33) = false) :
    Calls Tryd.prog 33 #[.string s, .int .i64 k] w (symPost 1 w) := by
  have hk1 : k ≤ s.size := by omega
  have hk2 : 0 < s.size - k := by omega
  have i0 : ∀ w, (Instr.index 80 (.agg #[.string ⟨#[61, 60]⟩, .string ⟨#[61, 62]⟩, .string ⟨#[61]⟩]) (.int .i64 0)).run Tryd.prog w = .ok (.string ⟨#[61, 60]⟩) w := fun _ => by kernel_rfl
  have i1 : ∀ w, (Instr.index 80 (.agg #[.string ⟨#[61, 60]⟩, .string ⟨#[61, 62]⟩, .string ⟨#[61]⟩]) (.int .i64 1)).run Tryd.prog w = .ok (.string ⟨#[61, 62]⟩) w := fun _ => by kernel_rfl
  have i2 : ∀ w, (Instr.index 80 (.agg #[.string ⟨#[61, 60]⟩, .string ⟨#[61, 62]⟩, .string ⟨#[61]⟩]) (.int .i64 2)).run Tryd.prog w = .ok (.string ⟨#[61]⟩) w := fun _ => by kernel_rfl
  go_enter Tryd.func33, Tryd.ntmps33
  go_wp2_with fail
  refine (kind_any _ _).mono ?_
  rintro e w1 ⟨rfl, hB⟩
  go_wp2_with fail
  refine wp_loop_rounds 4 ?_
  rw [rounds_succ]
  go_wp2_with fail
  go_quiet (fail)
  go_wp2_with fail
  rw [rounds_succ]
  go_wp2_with fail
  go_quiet (fail)
  go_wp2_with fail
  rw [rounds_succ]
  go_wp2_with fail
  go_quiet (fail)
  go_wp2_with fail
  rw [rounds_succ]
  go_wp2_with fail
  go_ret2
  exact ⟨rfl, by repeat (first | exact hB | apply pw_below_drewN)⟩
end Go.Proofs.YtdccajohjknnbaaDoor.Hand
