/- strings.FieldsSeq at a short text of ASCII: its iterator hands over the text's words in their order (the table of blanks as laid). -/
import Derived.RangeFuncBox
import Derived.RangeFuncNested
import Derived.RangeFuncBound
import Derived.RangeFuncCalls
import Derived.RangeFuncLeaves
import Derived.Shelf.Abstract
import Derived.WalkKit
import Derived.OwnWalkIn
import Derived.TacticsInMore
import Derived.LoopNIn
import Derived.LoopIn
import Derived.WalkSpells
import Derived.Lib.Hide
import Derived.Test.YtdccajohjknnbaaDoorProg
namespace Go.Proofs.YtdccajohjknnbaaDoor.Hand
open Go.RowKit Go.Shelf
attribute [local go_sem] Oper.semAt_some

/-- strings.asciiSpace -/
def asp (i : Nat) : Int := if i = 32 ∨ (9 ≤ i ∧ i ≤ 13) then 1 else 0
structure Spaces (w : World) : Prop where
  cell : ∀ i, i < 256 → w.cell? ⟨0, i, none⟩ = some (.int .u8 (asp i))
theorem Spaces.below {w w' : World} {b : Nat} (h : Spaces w) (hb : Below b w w') (h0 : 0 < b) : Spaces w' :=
  ⟨fun i hi => (hb.cell (p := ⟨_, i, none⟩) h0).trans (h.cell i hi)⟩
/-- the words of a text from byte i on (d bytes are left), a word begun at o -/
def byte_ (s : ByteArray) (i : Nat) : UInt8 := if h : i < s.size then s[i]'h else 0
def fl (s : ByteArray) : Nat → Nat → Option Nat → List ByteArray
  | 0, _, none => []
  | 0, _, some j => [s.extract j s.size]
  | d + 1, i, none => if asp (byte_ s i).toNat = 1 then fl s d (i + 1) none else fl s d (i + 1) (some i)
  | d + 1, i, some j => if asp (byte_ s i).toNat = 1 then s.extract j i :: fl s d (i + 1) none else fl s d (i + 1) (some j)
def flds (s : ByteArray) (i : Nat) (o : Option Nat) : List ByteArray := fl s (s.size - i) i o
theorem flds_end (s : ByteArray) (i : Nat) (h : ¬ i < s.size) : flds s i none = [] := by
  unfold flds; rw [show s.size - i = 0 by omega]; rfl
theorem flds_last (s : ByteArray) (i j : Nat) (h : ¬ i < s.size) : flds s i (some j) = [s.extract j s.size] := by
  unfold flds; rw [show s.size - i = 0 by omega]; rfl
theorem byte_eq (s : ByteArray) (i : Nat) (h : i < s.size) : byte_ s i = s[i]'h := dif_pos h
theorem flds_sp (s : ByteArray) (i : Nat) (h : i < s.size) (hs : asp (s[i]'h).toNat = 1) : flds s i none = flds s (i + 1) none := by
  unfold flds; rw [show s.size - i = (s.size - (i + 1)) + 1 by omega]; simp only [fl]; rw [byte_eq s i h, if_pos hs]
theorem flds_cut (s : ByteArray) (i j : Nat) (h : i < s.size) (hs : asp (s[i]'h).toNat = 1) : flds s i (some j) = s.extract j i :: flds s (i + 1) none := by
  unfold flds; rw [show s.size - i = (s.size - (i + 1)) + 1 by omega]; simp only [fl]; rw [byte_eq s i h, if_pos hs]
theorem flds_in (s : ByteArray) (i : Nat) (o : Option Nat) (h : i < s.size) (hs : ¬ asp (s[i]'h).toNat = 1) : flds s i o = flds s (i + 1) (some (o.getD i)) := by
  unfold flds; rw [show s.size - i = (s.size - (i + 1)) + 1 by omega]
  cases o <;> simp only [fl, Option.getD_none, Option.getD_some] <;> rw [byte_eq s i h, if_neg hs]
def stOf : Option Nat → Int
  | none => -1
  | some j => (j : Int)
set_option maxRecDepth 100000 in
set_option maxHeartbeats 4000000 in
theorem fields_run (F : Fence) (n : Nat) (h24 : F.fn 57) (hro : F.round = none) (hn : 1 ≤ n) (l Bs n1 : Nat) (s : ByteArray) (hs : s.size ≤ 1000) (hascii : ∀ i (h : i < s.size), (s[i]'h).toNat < 128)
    (J Jx : List ByteArray → World → Prop)
    (hY : ∀ pre x W, J pre W → pre.length < (flds s 0 none).length → YieldAt F (n - 1) Tryd.prog l #[.string x] W fun e W' =>
      (e = .returned (.bool true) ∧ J (pre ++ [x]) W' ∧ Below n1 W W') ∨ (e = .returned (.bool false) ∧ Jx (pre ++ [x]) W'))
    (W : World) (hBs : Bs < n1) (hG : 0 < n1) (hc : W.cell? ⟨Bs, 0, none⟩ = some (.string s)) (hT : Spaces W) (h0 : J [] W) :
    CallsIn F n Tryd.prog 57 #[.func (.yield l) #[] #[], .pointer (some ⟨Bs, 0, none⟩)] W fun e W' => (∃ v, e = .returned v) ∧
      ((∃ ys, ys = flds s 0 none ∧ J ys W') ∨ (∃ pre, pre <+: flds s 0 none ∧ Jx pre W')) := by
  refine callsIn_of_wp Tryd.func57 rfl h24 ?_ hro
  simp only [Tryd.ntmps57, List.size_toArray, List.length_cons, List.length_nil, Nat.reduceAdd, Nat.reduceSub, Array.replicate_succ, Array.replicate_zero, List.push_toArray, List.append_toArray, List.nil_append, List.cons_append]
  gi_wp2
  gi_loopw [3, 4] (fun st i wr => ∃ (k : Nat) (o : Option Nat) (pre : List ByteArray), k ≤ s.size ∧ i = .int .i64 k ∧ st = .int .i64 (stOf o) ∧ (∀ j, o = some j → j < k) ∧ pre ++ flds s k o = flds s 0 none ∧ J pre wr ∧ Below n1 W wr)
    (fun _ i _ => s.size - (intOf i).toNat)
  case atStart => exact ⟨0, none, [], Nat.zero_le _, rfl, rfl, (fun j h => by cases h), rfl, h0, Below.refl _ _⟩
  case round =>
    obtain ⟨k, o, pre, hk, rfl, rfl, ho, hpre, hJs, hnx⟩ := hrel
    have hcx : wr.cell? ⟨Bs, 0, none⟩ = some (.string s) := (hnx.cell (p := ⟨Bs, 0, none⟩) hBs).trans hc
    have hTx := hT.below hnx hG
    by_cases hlt : k < s.size
    · have ha := hascii k hlt
      have hsp := hTx.cell (s[k]'hlt).toNat (by omega)
      by_cases h1 : asp (s[k]'hlt).toNat = 1
      · rw [h1] at hsp
        cases o with
        | none =>
          have hR := (flds_sp s k hlt h1)
          have HR := Lib.hid hR
          clear hR h1
          simp only [stOf]
          gi_wp2_with (fail)
          go_roundw
          case rel => exact ⟨k + 1, none, pre, by omega, by go_num, rfl, (fun j h => by cases h), by rw [← HR.out]; exact hpre, hJs, hnx⟩
          case measure => simp [intOf]; omega
        | some j =>
          have hj := ho j rfl
          have hR := (flds_cut s k j hlt h1)
          rw [hR] at hpre
          have Hpre := Lib.hid hpre
          clear hR h1 hpre ho
          obtain ⟨fn, tmps, assign, body, hy, hRd⟩ := hY pre (s.extract j k) wr hJs (by rw [← Hpre.out]; simp)
          simp only [stOf]
          gi_wp2_with (fail)
          refine hRd.mono ?_
          rintro e W3 (⟨rfl, hJ3, hk3⟩ | ⟨rfl, hJx3⟩)
          · gi_wp2_with (fail)
            go_roundw
            case rel => exact ⟨k + 1, none, pre ++ [s.extract j k], by omega, by go_num, rfl, (fun j h => by cases h), by rw [← Hpre.out]; simp, hJ3, hnx.trans hk3⟩
            case measure => simp [intOf]; omega
          · gi_wp2_with (fail)
            refine bodyPost_ret (results_none rfl _ _ _) rfl ?_
            exact ⟨⟨_, rfl⟩, .inr ⟨_, ⟨flds s (k + 1) none, by rw [← Hpre.out]; simp⟩, hJx3⟩⟩
      · have h0 : asp (s[k]'hlt).toNat = 0 := by
          unfold asp at h1 ⊢
          by_cases hh : (s[k]'hlt).toNat = 32 ∨ (9 ≤ (s[k]'hlt).toNat ∧ (s[k]'hlt).toNat ≤ 13)
          · exact absurd (if_pos hh) h1
          · exact if_neg hh
        rw [h0] at hsp
        have hR := flds_in s k o hlt h1
        rw [hR] at hpre
        have Hpre := Lib.hid hpre
        clear hR h1 h0 hpre
        cases o with
        | none =>
          simp only [stOf]
          gi_wp2_with (fail)
          go_roundw
          case rel => exact ⟨k + 1, some k, pre, by omega, by go_num, rfl, (fun j h => by cases h; omega), Hpre.out, hJs, hnx⟩
          case measure => simp [intOf]; omega
        | some j =>
          have hj := ho j rfl
          clear ho
          simp only [stOf]
          gi_wp2_with (fail)
          go_roundw
          case rel => exact ⟨k + 1, some j, pre, by omega, by go_num, rfl, (fun j h => by cases h; omega), Hpre.out, hJs, hnx⟩
          case measure => simp [intOf]; omega
    · cases o with
      | none =>
        rw [flds_end s k hlt] at hpre
        have Hpre := Lib.hid hpre
        clear hpre
        simp only [stOf]
        gi_wp2_with (fail)
        go_end0
        exact ⟨⟨_, rfl⟩, .inl ⟨_, by rw [← Hpre.out]; simp, hJs⟩⟩
      | some j =>
        have hj := ho j rfl
        rw [flds_last s k j hlt] at hpre
        have Hpre := Lib.hid hpre
        clear hpre ho
        obtain ⟨fn, tmps, assign, body, hy, hRd⟩ := hY pre (s.extract j s.size) wr hJs (by rw [← Hpre.out]; simp)
        simp only [stOf]
        gi_wp2_with (fail)
        refine hRd.mono ?_
        rintro e W3 (⟨rfl, hJ3, hk3⟩ | ⟨rfl, hJx3⟩)
        · gi_wp2_with (fail)
          go_end0
          exact ⟨⟨_, rfl⟩, .inl ⟨_, Hpre.out, hJ3⟩⟩
        · gi_wp2_with (fail)
          go_end0
          exact ⟨⟨_, rfl⟩, .inr ⟨_, by rw [← Hpre.out]; exact ⟨[], by simp⟩, hJx3⟩⟩
/-- strings.FieldsSeq(s), s a short text of ASCII: its words in their order -/
theorem fields_stops (F : Fence) (n : Nat) (h24 : F.fn 57) (hro : F.round = none) (hn : 1 ≤ n) (Bs n1 : Nat) (s : ByteArray) (hs : s.size ≤ 1000) (hascii : ∀ i (h : i < s.size), (s[i]'h).toNat < 128)
    (w : World) (hBs : Bs < n1) (hn1 : n1 ≤ w.heap.size) (hG : 0 < n1) (hc : w.cell? ⟨Bs, 0, none⟩ = some (.string s)) (hT : Spaces w) :
    SeqStopsK F n Tryd.prog 57 #[.pointer (some ⟨Bs, 0, none⟩)] (fun x : ByteArray => #[Value.string x]) (Below n1) (fun ys => ys = flds s 0 none) (fun pre => pre <+: flds s 0 none) (flds s 0 none).length w := fun l J Jx W hW _ _ hY h0 =>
  fields_run F n h24 hro hn l Bs n1 s hs hascii J Jx hY W hBs hG ((hW.cell (p := ⟨Bs, 0, none⟩) (Nat.lt_of_lt_of_le hBs hn1)).trans hc) (hT.below hW (by omega)) h0
set_option maxHeartbeats 1000000 in
theorem fieldsSeq_in (F : Fence) (n : Nat) (h19 : F.fn 43) (hro : F.round = none) (s : ByteArray) (w : World) :
    CallsIn F n Tryd.prog 43 #[.string s] w fun e w' => e = .returned (.func (.func 57) #[] #[.pointer (some ⟨w.heap.size, 0, none⟩)]) ∧ w' = w.alloc (.cells #[.string s] 9) := by
  refine callsIn_of_wp Tryd.func43 rfl h19 ?_ hro
  simp only [Tryd.ntmps43, List.size_toArray, List.length_cons, List.length_nil, Nat.reduceAdd, Nat.reduceSub, Array.replicate_succ, Array.replicate_zero, List.push_toArray, List.append_toArray, List.nil_append, List.cons_append]
  gi_wp2
  go_ret
  exact ⟨rfl, rfl⟩
end Go.Proofs.YtdccajohjknnbaaDoor.Hand
