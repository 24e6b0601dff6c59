/- Lemmas of the proof (cut to what it uses, by wip/trim.py). -/
import Derived.Below
import Derived.LoopIn
import Derived.RowKit
import Derived.LoopNIn
import Derived.OwnWalk
import Derived.RowKit3
import Derived.Tactics
import Derived.WalkKit
import Derived.BigQuiet
import Derived.Lib.Hide
import Derived.WalkMore
import Derived.WideLaws
import Derived.ArgAppend
import Derived.KernelRfl
import Derived.Laws.Rows
import Derived.OwnWalkIn
import Derived.Deep.Draws
import Derived.Lib.LaidIn
import Derived.OrdersHeld
import Derived.WalkSpells
import Derived.Laws.Slices
import Derived.Lib.ItoaNum
import Derived.Lib.LaidTab
import Derived.Deep.OwnRows
import Derived.Laws.MakeOwn
import Derived.Laws.OwnMore
import Derived.RangeFuncBox
import Derived.Stop.LaidErr
import Derived.Deep.CutBlock
import Derived.Laws.BytesArg
import Derived.Lib.AppendStr
import Derived.Lib.ConvBytes
import Derived.Maps.AppendAt
import Derived.TacticsInMore
import Derived.Deep.LoopGhost
import Derived.Laws.IdiomCopy
import Derived.RangeFuncBound
import Derived.RangeFuncCalls
import Derived.Shelf.Abstract
import Derived.Deep.AppendLies
import Derived.Laws.BitsLemmas
import Derived.RangeFuncLeaves
import Derived.RangeFuncNested
import Derived.Deep.DeepCutAuto
import Derived.Deep.QuietTactic
import Derived.Deep.RegionHeld3
import Derived.Shelf.Small.Strs
import Derived.Deep.DeepHandedRow
import Derived.Deep.DeepWitnessRowRef
import Derived.Shelf.Strings.OnBuilder
import Derived.Shelf.Strings.SlTrimAscii
import Derived.Shelf.Strconv.ErrVarParseInt
import Derived.Shelf.Strconv.ParseIntPublic10
import Derived.Test.YtgmmngipnjmkfaaGreatDoorProg
import Derived.Test.YtgmmngipnjmkfaaGreatDoorRows
import Derived.Test.YtgmmngipnjmkfaaGreatDoorEo1
import Derived.Test.YtgmmngipnjmkfaaGreatDoorEo2
section
namespace Go.Proofs.YtgmmngipnjmkfaaGreatDoor.Hand
open Go.RowKit Go.Shelf
attribute [local go_sem] Oper.semAt_some
def asp (i : Nat) : Int := if i = 32 ∨ (9 ≤ i ∧ i ≤ 13) then 1 else 0
structure Spaces (w : World) : Prop where
  cell : ∀ i, i < 256 → w.cell? ⟨0, i, none⟩ = some (.int .u8 (asp i))
theorem Spaces.below {w w' : World} {b : Nat} (h : Spaces w) (hb : Below b w w') (h0 : 0 < b) : Spaces w' :=
  ⟨fun i hi => (hb.cell (p := ⟨_, i, none⟩) h0).trans (h.cell i hi)⟩
def byte_ (s : ByteArray) (i : Nat) : UInt8 := if h : i < s.size then s[i]'h else 0
def fl (s : ByteArray) : Nat → Nat → Option Nat → List ByteArray
  | 0, _, none => []
  | 0, _, some j => [s.extract j s.size]
  | d + 1, i, none => if asp (byte_ s i).toNat = 1 then fl s d (i + 1) none else fl s d (i + 1) (some i)
  | d + 1, i, some j => if asp (byte_ s i).toNat = 1 then s.extract j i :: fl s d (i + 1) none else fl s d (i + 1) (some j)
def flds (s : ByteArray) (i : Nat) (o : Option Nat) : List ByteArray := fl s (s.size - i) i o
theorem flds_end (s : ByteArray) (i : Nat) (h : ¬ i < s.size) : flds s i none = [] := by
  unfold flds; rw [show s.size - i = 0 by omega]; rfl
theorem flds_last (s : ByteArray) (i j : Nat) (h : ¬ i < s.size) : flds s i (some j) = [s.extract j s.size] := by
  unfold flds; rw [show s.size - i = 0 by omega]; rfl
theorem byte_eq (s : ByteArray) (i : Nat) (h : i < s.size) : byte_ s i = s[i]'h := dif_pos h
theorem flds_sp (s : ByteArray) (i : Nat) (h : i < s.size) (hs : asp (s[i]'h).toNat = 1) : flds s i none = flds s (i + 1) none := by
  unfold flds; rw [show s.size - i = (s.size - (i + 1)) + 1 by omega]; simp only [fl]; rw [byte_eq s i h, if_pos hs]
theorem flds_cut (s : ByteArray) (i j : Nat) (h : i < s.size) (hs : asp (s[i]'h).toNat = 1) : flds s i (some j) = s.extract j i :: flds s (i + 1) none := by
  unfold flds; rw [show s.size - i = (s.size - (i + 1)) + 1 by omega]; simp only [fl]; rw [byte_eq s i h, if_pos hs]
theorem flds_in (s : ByteArray) (i : Nat) (o : Option Nat) (h : i < s.size) (hs : ¬ asp (s[i]'h).toNat = 1) : flds s i o = flds s (i + 1) (some (o.getD i)) := by
  unfold flds; rw [show s.size - i = (s.size - (i + 1)) + 1 by omega]
  cases o <;> simp only [fl, Option.getD_none, Option.getD_some] <;> rw [byte_eq s i h, if_neg hs]
def stOf : Option Nat → Int
  | none => -1
  | some j => (j : Int)
set_option maxRecDepth 100000 in
set_option maxHeartbeats 4000000 in
theorem fields_run (F : Fence) (n : Nat) (h24 : F.fn 79) (hro : F.round = none) (hn : 1 ≤ n) (l Bs n1 : Nat) (s : ByteArray) (hs : s.size ≤ 1000) (hascii : ∀ i (h : i < s.size), (s[i]'h).toNat < 128)
    (J Jx : List ByteArray → World → Prop)
    (hY : ∀ pre x W, J pre W → pre.length < (flds s 0 none).length → YieldAt F (n - 1) Tryz.prog l #[.string x] W fun e W' =>
      (e = .returned (.bool true) ∧ J (pre ++ [x]) W' ∧ Below n1 W W') ∨ (e = .returned (.bool false) ∧ Jx (pre ++ [x]) W'))
    (W : World) (hBs : Bs < n1) (hG : 0 < n1) (hc : W.cell? ⟨Bs, 0, none⟩ = some (.string s)) (hT : Spaces W) (h0 : J [] W) :
    CallsIn F n Tryz.prog 79 #[.func (.yield l) #[] #[], .pointer (some ⟨Bs, 0, none⟩)] W fun e W' => (∃ v, e = .returned v) ∧
      ((∃ ys, ys = flds s 0 none ∧ J ys W') ∨ (∃ pre, pre <+: flds s 0 none ∧ Jx pre W')) := by
  refine callsIn_of_wp Tryz.func79 rfl h24 ?_ hro
  simp only [Tryz.ntmps79, List.size_toArray, List.length_cons, List.length_nil, Nat.reduceAdd, Nat.reduceSub, Array.replicate_succ, Array.replicate_zero, List.push_toArray, List.append_toArray, List.nil_append, List.cons_append]
  gi_wp2
  gi_loopw [3, 4] (fun st i wr => ∃ (k : Nat) (o : Option Nat) (pre : List ByteArray), k ≤ s.size ∧ i = .int .i64 k ∧ st = .int .i64 (stOf o) ∧ (∀ j, o = some j → j < k) ∧ pre ++ flds s k o = flds s 0 none ∧ J pre wr ∧ Below n1 W wr)
    (fun _ i _ => s.size - (intOf i).toNat)
  case atStart => exact ⟨0, none, [], Nat.zero_le _, rfl, rfl, (fun j h => by cases h), rfl, h0, Below.refl _ _⟩
  case round =>
    obtain ⟨k, o, pre, hk, rfl, rfl, ho, hpre, hJs, hnx⟩ := hrel
    have hcx : wr.cell? ⟨Bs, 0, none⟩ = some (.string s) := (hnx.cell (p := ⟨Bs, 0, none⟩) hBs).trans hc
    have hTx := hT.below hnx hG
    by_cases hlt : k < s.size
    · have ha := hascii k hlt
      have hsp := hTx.cell (s[k]'hlt).toNat (by omega)
      by_cases h1 : asp (s[k]'hlt).toNat = 1
      · rw [h1] at hsp
        cases o with
        | none =>
          have hR := (flds_sp s k hlt h1)
          have HR := Lib.hid hR
          clear hR h1
          simp only [stOf]
          gi_wp2_with (fail)
          go_roundw
          case rel => exact ⟨k + 1, none, pre, by omega, by go_num, rfl, (fun j h => by cases h), by rw [← HR.out]; exact hpre, hJs, hnx⟩
          case measure => simp [intOf]; omega
        | some j =>
          have hj := ho j rfl
          have hR := (flds_cut s k j hlt h1)
          rw [hR] at hpre
          have Hpre := Lib.hid hpre
          clear hR h1 hpre ho
          obtain ⟨fn, tmps, assign, body, hy, hRd⟩ := hY pre (s.extract j k) wr hJs (by rw [← Hpre.out]; simp)
          simp only [stOf]
          gi_wp2_with (fail)
          refine hRd.mono ?_
          rintro e W3 (⟨rfl, hJ3, hk3⟩ | ⟨rfl, hJx3⟩)
          · gi_wp2_with (fail)
            go_roundw
            case rel => exact ⟨k + 1, none, pre ++ [s.extract j k], by omega, by go_num, rfl, (fun j h => by cases h), by rw [← Hpre.out]; simp, hJ3, hnx.trans hk3⟩
            case measure => simp [intOf]; omega
          · gi_wp2_with (fail)
            refine bodyPost_ret (results_none rfl _ _ _) rfl ?_
            exact ⟨⟨_, rfl⟩, .inr ⟨_, ⟨flds s (k + 1) none, by rw [← Hpre.out]; simp⟩, hJx3⟩⟩
      · have h0 : asp (s[k]'hlt).toNat = 0 := by
          unfold asp at h1 ⊢
          by_cases hh : (s[k]'hlt).toNat = 32 ∨ (9 ≤ (s[k]'hlt).toNat ∧ (s[k]'hlt).toNat ≤ 13)
          · exact absurd (if_pos hh) h1
          · exact if_neg hh
        rw [h0] at hsp
        have hR := flds_in s k o hlt h1
        rw [hR] at hpre
        have Hpre := Lib.hid hpre
        clear hR h1 h0 hpre
        cases o with
        | none =>
          simp only [stOf]
          gi_wp2_with (fail)
          go_roundw
          case rel => exact ⟨k + 1, some k, pre, by omega, by go_num, rfl, (fun j h => by cases h; omega), Hpre.out, hJs, hnx⟩
          case measure => simp [intOf]; omega
        | some j =>
          have hj := ho j rfl
          clear ho
          simp only [stOf]
          gi_wp2_with (fail)
          go_roundw
          case rel => exact ⟨k + 1, some j, pre, by omega, by go_num, rfl, (fun j h => by cases h; omega), Hpre.out, hJs, hnx⟩
          case measure => simp [intOf]; omega
    · cases o with
      | none =>
        rw [flds_end s k hlt] at hpre
        have Hpre := Lib.hid hpre
        clear hpre
        simp only [stOf]
        gi_wp2_with (fail)
        go_end0
        exact ⟨⟨_, rfl⟩, .inl ⟨_, by rw [← Hpre.out]; simp, hJs⟩⟩
      | some j =>
        have hj := ho j rfl
        rw [flds_last s k j hlt] at hpre
        have Hpre := Lib.hid hpre
        clear hpre ho
        obtain ⟨fn, tmps, assign, body, hy, hRd⟩ := hY pre (s.extract j s.size) wr hJs (by rw [← Hpre.out]; simp)
        simp only [stOf]
        gi_wp2_with (fail)
        refine hRd.mono ?_
        rintro e W3 (⟨rfl, hJ3, hk3⟩ | ⟨rfl, hJx3⟩)
        · gi_wp2_with (fail)
          go_end0
          exact ⟨⟨_, rfl⟩, .inl ⟨_, Hpre.out, hJ3⟩⟩
        · gi_wp2_with (fail)
          go_end0
          exact ⟨⟨_, rfl⟩, .inr ⟨_, by rw [← Hpre.out]; exact ⟨[], by simp⟩, hJx3⟩⟩
theorem fields_stops (F : Fence) (n : Nat) (h24 : F.fn 79) (hro : F.round = none) (hn : 1 ≤ n) (Bs n1 : Nat) (s : ByteArray) (hs : s.size ≤ 1000) (hascii : ∀ i (h : i < s.size), (s[i]'h).toNat < 128)
    (w : World) (hBs : Bs < n1) (hn1 : n1 ≤ w.heap.size) (hG : 0 < n1) (hc : w.cell? ⟨Bs, 0, none⟩ = some (.string s)) (hT : Spaces w) :
    SeqStopsK F n Tryz.prog 79 #[.pointer (some ⟨Bs, 0, none⟩)] (fun x : ByteArray => #[Value.string x]) (Below n1) (fun ys => ys = flds s 0 none) (fun pre => pre <+: flds s 0 none) (flds s 0 none).length w := fun l J Jx W hW _ _ hY h0 =>
  fields_run F n h24 hro hn l Bs n1 s hs hascii J Jx hY W hBs hG ((hW.cell (p := ⟨Bs, 0, none⟩) (Nat.lt_of_lt_of_le hBs hn1)).trans hc) (hT.below hW (by omega)) h0
set_option maxHeartbeats 1000000 in
theorem zdr (F : Fence) (n : Nat) (h19 : F.fn 60) (hro : F.round = none) (s : ByteArray) (w : World) :
    CallsIn F n Tryz.prog 60 #[.string s] w fun e w' => e = .returned (.func (.func 79) #[] #[.pointer (some ⟨w.heap.size, 0, none⟩)]) ∧ w' = w.alloc (.cells #[.string s] 9) := by
  refine callsIn_of_wp Tryz.func60 rfl h19 ?_ hro
  simp only [Tryz.ntmps60, List.size_toArray, List.length_cons, List.length_nil, Nat.reduceAdd, Nat.reduceSub, Array.replicate_succ, Array.replicate_zero, List.push_toArray, List.append_toArray, List.nil_append, List.cons_append]
  gi_wp2
  go_ret
  exact ⟨rfl, rfl⟩
end Go.Proofs.YtgmmngipnjmkfaaGreatDoor.Hand
end
section
namespace Go.Proofs.YtgmmngipnjmkfaaGreatDoor.Hand
open Go.RowKit
structure Tabs (w : World) : Prop where
  sp : Spaces w
  pow : Lib.TabIs Tryz.prog w "internal/strconv.uint64pow10" .u64 Lib.pow10Tab
  rng : ∃ tp p, w.var? Tryz.prog "strconv.ErrRange" = some #[.iface tp p]
theorem lt_of_cell {w : World} {a : Addr} {v : Value} (h : w.cell? a = some v) : a.block < w.heap.size := by
  obtain ⟨o, ho, _⟩ := cells_of_cell h
  exact (Array.getElem?_eq_some_iff.1 ho).1
theorem Tabs.size {w : World} (h : Tabs w) : 0 < w.heap.size := lt_of_cell (h.sp.cell 0 (by omega))
theorem var?_below {P : Program} {w w' : World} {n : String} {cs : Array Value} (h : w.var? P n = some cs) (hb : Below w.heap.size w w') : w'.var? P n = some cs := by
  unfold World.var? at h ⊢
  cases hg : P.globalNamed n with
  | none => rw [hg] at h; simp at h
  | some g =>
    rw [hg] at h
    simp only [Option.bind_some] at h ⊢
    have hlt : g < w.heap.size := by
      cases hw : w.heap[g]? with
      | none => rw [hw] at h; simp at h
      | some o => exact (Array.getElem?_eq_some_iff.1 hw).1
    rw [hb.block g hlt]; exact h
theorem Tabs.below {w w' : World} (h : Tabs w) (hb : Below w.heap.size w w') : Tabs w' where
  sp := h.sp.below hb h.size
  pow := var?_below h.pow hb
  rng := h.rng.elim fun tp h => h.elim fun p h => ⟨tp, p, var?_below h hb⟩
end Go.Proofs.YtgmmngipnjmkfaaGreatDoor.Hand
end
section
namespace Go.Proofs.YtgmmngipnjmkfaaGreatDoor.Hand
open Go.RowKit Go.Lib
def laidList : List (String × DataW Unit) := [("math/bits.deBruijn32tab", Rows.laid_math_bits_deBruijn32tab), ("math/bits.deBruijn64tab", Rows.laid_math_bits_deBruijn64tab), ("internal/strconv.uint64pow10", Rows.laid_internal_strconv_uint64pow10), ("unicode/utf8.acceptRanges", Rows.laid_unicode_utf8_acceptRanges), ("strconv.ErrRange", Rows.laid_strconv_ErrRange), ("strconv.ErrSyntax", Rows.laid_strconv_ErrSyntax), ("unicode.White_Space", Rows.laid_unicode_White_Space), ("strings.asciiSpace", Rows.laid_strings_asciiSpace), ("unicode/utf8.first", Rows.laid_unicode_utf8_first)]
noncomputable abbrev N0 : Nat := (World.settled Tryz.prog default).heap.size
noncomputable def laidWorld (os : Os) : World :=
  let N := (World.settled Tryz.prog os).heap.size
  let w0 := World.holding Tryz.prog os ⟨#[.cells #[.string ⟨#[118, 97, 108, 117, 101, 32, 111, 117, 116, 32, 111, 102, 32, 114, 97, 110, 103, 101]⟩] 187,
    .cells #[.string ⟨#[105, 110, 118, 97, 108, 105, 100, 32, 115, 121, 110, 116, 97, 120]⟩] 187,
    .cells #[.slice (some ⟨N + 3, 0, none⟩) 7 7, .slice none 0 0, .int .i64 2] 170,
    .cells #[.int .u16 9, .int .u16 13, .int .u16 1, .int .u16 32, .int .u16 133, .int .u16 101, .int .u16 160, .int .u16 5760, .int .u16 5600, .int .u16 8192, .int .u16 8202, .int .u16 1, .int .u16 8232, .int .u16 8233, .int .u16 1, .int .u16 8239, .int .u16 8287, .int .u16 48, .int .u16 12288, .int .u16 12288, .int .u16 1] 173], #[], []⟩
  let put (h : Array Obj) (g : Nat) (cs : Array Value) : Array Obj := h.modify g fun
    | .cells _ t frozen => .cells cs t frozen
    | o => o
  let h0 := put w0.heap 8 #[.int .u8 0, .int .u8 1, .int .u8 28, .int .u8 2, .int .u8 29, .int .u8 14, .int .u8 24, .int .u8 3, .int .u8 30, .int .u8 22, .int .u8 20, .int .u8 15, .int .u8 25, .int .u8 17, .int .u8 4, .int .u8 8, .int .u8 31, .int .u8 27, .int .u8 13, .int .u8 23, .int .u8 21, .int .u8 19, .int .u8 16, .int .u8 7, .int .u8 26, .int .u8 12, .int .u8 18, .int .u8 6, .int .u8 11, .int .u8 5, .int .u8 10, .int .u8 9]
  let h1 := put h0 9 #[.int .u8 0, .int .u8 1, .int .u8 56, .int .u8 2, .int .u8 57, .int .u8 49, .int .u8 28, .int .u8 3, .int .u8 61, .int .u8 58, .int .u8 42, .int .u8 50, .int .u8 38, .int .u8 29, .int .u8 17, .int .u8 4, .int .u8 62, .int .u8 47, .int .u8 59, .int .u8 36, .int .u8 45, .int .u8 43, .int .u8 51, .int .u8 22, .int .u8 53, .int .u8 39, .int .u8 33, .int .u8 30, .int .u8 24, .int .u8 18, .int .u8 12, .int .u8 5, .int .u8 63, .int .u8 55, .int .u8 48, .int .u8 27, .int .u8 60, .int .u8 41, .int .u8 37, .int .u8 16, .int .u8 46, .int .u8 35, .int .u8 44, .int .u8 21, .int .u8 52, .int .u8 32, .int .u8 23, .int .u8 11, .int .u8 54, .int .u8 26, .int .u8 40, .int .u8 15, .int .u8 34, .int .u8 20, .int .u8 31, .int .u8 10, .int .u8 25, .int .u8 14, .int .u8 19, .int .u8 9, .int .u8 13, .int .u8 8, .int .u8 7, .int .u8 6]
  let h2 := put h1 7 #[.int .u64 1, .int .u64 10, .int .u64 100, .int .u64 1000, .int .u64 10000, .int .u64 100000, .int .u64 1000000, .int .u64 10000000, .int .u64 100000000, .int .u64 1000000000, .int .u64 10000000000, .int .u64 100000000000, .int .u64 1000000000000, .int .u64 10000000000000, .int .u64 100000000000000, .int .u64 1000000000000000, .int .u64 10000000000000000, .int .u64 100000000000000000, .int .u64 1000000000000000000, .int .u64 10000000000000000000]
  let h3 := put h2 6 #[.int .u8 128, .int .u8 191, .int .u8 160, .int .u8 191, .int .u8 128, .int .u8 159, .int .u8 144, .int .u8 191, .int .u8 128, .int .u8 143, .int .u8 0, .int .u8 0, .int .u8 0, .int .u8 0, .int .u8 0, .int .u8 0, .int .u8 0, .int .u8 0, .int .u8 0, .int .u8 0, .int .u8 0, .int .u8 0, .int .u8 0, .int .u8 0, .int .u8 0, .int .u8 0, .int .u8 0, .int .u8 0, .int .u8 0, .int .u8 0, .int .u8 0, .int .u8 0]
  let h4 := put h3 4 #[.iface 185 (.pointer (some ⟨N + 0, 0, none⟩))]
  let h5 := put h4 3 #[.iface 185 (.pointer (some ⟨N + 1, 0, none⟩))]
  let h6 := put h5 1 #[.pointer (some ⟨N + 2, 0, none⟩)]
  let h7 := put h6 0 #[.int .u8 0, .int .u8 0, .int .u8 0, .int .u8 0, .int .u8 0, .int .u8 0, .int .u8 0, .int .u8 0, .int .u8 0, .int .u8 1, .int .u8 1, .int .u8 1, .int .u8 1, .int .u8 1, .int .u8 0, .int .u8 0, .int .u8 0, .int .u8 0, .int .u8 0, .int .u8 0, .int .u8 0, .int .u8 0, .int .u8 0, .int .u8 0, .int .u8 0, .int .u8 0, .int .u8 0, .int .u8 0, .int .u8 0, .int .u8 0, .int .u8 0, .int .u8 0, .int .u8 1, .int .u8 0, .int .u8 0, .int .u8 0, .int .u8 0, .int .u8 0, .int .u8 0, .int .u8 0, .int .u8 0, .int .u8 0, .int .u8 0, .int .u8 0, .int .u8 0, .int .u8 0, .int .u8 0, .int .u8 0, .int .u8 0, .int .u8 0, .int .u8 0, .int .u8 0, .int .u8 0, .int .u8 0, .int .u8 0, .int .u8 0, .int .u8 0, .int .u8 0, .int .u8 0, .int .u8 0, .int .u8 0, .int .u8 0, .int .u8 0, .int .u8 0, .int .u8 0, .int .u8 0, .int .u8 0, .int .u8 0, .int .u8 0, .int .u8 0, .int .u8 0, .int .u8 0, .int .u8 0, .int .u8 0, .int .u8 0, .int .u8 0, .int .u8 0, .int .u8 0, .int .u8 0, .int .u8 0, .int .u8 0, .int .u8 0, .int .u8 0, .int .u8 0, .int .u8 0, .int .u8 0, .int .u8 0, .int .u8 0, .int .u8 0, .int .u8 0, .int .u8 0, .int .u8 0, .int .u8 0, .int .u8 0, .int .u8 0, .int .u8 0, .int .u8 0, .int .u8 0, .int .u8 0, .int .u8 0, .int .u8 0, .int .u8 0, .int .u8 0, .int .u8 0, .int .u8 0, .int .u8 0, .int .u8 0, .int .u8 0, .int .u8 0, .int .u8 0, .int .u8 0, .int .u8 0, .int .u8 0, .int .u8 0, .int .u8 0, .int .u8 0, .int .u8 0, .int .u8 0, .int .u8 0, .int .u8 0, .int .u8 0, .int .u8 0, .int .u8 0, .int .u8 0, .int .u8 0, .int .u8 0, .int .u8 0, .int .u8 0, .int .u8 0, .int .u8 0, .int .u8 0, .int .u8 0, .int .u8 0, .int .u8 0, .int .u8 0, .int .u8 0, .int .u8 0, .int .u8 0, .int .u8 0, .int .u8 0, .int .u8 0, .int .u8 0, .int .u8 0, .int .u8 0, .int .u8 0, .int .u8 0, .int .u8 0, .int .u8 0, .int .u8 0, .int .u8 0, .int .u8 0, .int .u8 0, .int .u8 0, .int .u8 0, .int .u8 0, .int .u8 0, .int .u8 0, .int .u8 0, .int .u8 0, .int .u8 0, .int .u8 0, .int .u8 0, .int .u8 0, .int .u8 0, .int .u8 0, .int .u8 0, .int .u8 0, .int .u8 0, .int .u8 0, .int .u8 0, .int .u8 0, .int .u8 0, .int .u8 0, .int .u8 0, .int .u8 0, .int .u8 0, .int .u8 0, .int .u8 0, .int .u8 0, .int .u8 0, .int .u8 0, .int .u8 0, .int .u8 0, .int .u8 0, .int .u8 0, .int .u8 0, .int .u8 0, .int .u8 0, .int .u8 0, .int .u8 0, .int .u8 0, .int .u8 0, .int .u8 0, .int .u8 0, .int .u8 0, .int .u8 0, .int .u8 0, .int .u8 0, .int .u8 0, .int .u8 0, .int .u8 0, .int .u8 0, .int .u8 0, .int .u8 0, .int .u8 0, .int .u8 0, .int .u8 0, .int .u8 0, .int .u8 0, .int .u8 0, .int .u8 0, .int .u8 0, .int .u8 0, .int .u8 0, .int .u8 0, .int .u8 0, .int .u8 0, .int .u8 0, .int .u8 0, .int .u8 0, .int .u8 0, .int .u8 0, .int .u8 0, .int .u8 0, .int .u8 0, .int .u8 0, .int .u8 0, .int .u8 0, .int .u8 0, .int .u8 0, .int .u8 0, .int .u8 0, .int .u8 0, .int .u8 0, .int .u8 0, .int .u8 0, .int .u8 0, .int .u8 0, .int .u8 0, .int .u8 0, .int .u8 0, .int .u8 0, .int .u8 0, .int .u8 0, .int .u8 0, .int .u8 0, .int .u8 0, .int .u8 0, .int .u8 0, .int .u8 0, .int .u8 0, .int .u8 0, .int .u8 0, .int .u8 0, .int .u8 0, .int .u8 0]
  let h8 := put h7 5 #[.int .u8 240, .int .u8 240, .int .u8 240, .int .u8 240, .int .u8 240, .int .u8 240, .int .u8 240, .int .u8 240, .int .u8 240, .int .u8 240, .int .u8 240, .int .u8 240, .int .u8 240, .int .u8 240, .int .u8 240, .int .u8 240, .int .u8 240, .int .u8 240, .int .u8 240, .int .u8 240, .int .u8 240, .int .u8 240, .int .u8 240, .int .u8 240, .int .u8 240, .int .u8 240, .int .u8 240, .int .u8 240, .int .u8 240, .int .u8 240, .int .u8 240, .int .u8 240, .int .u8 240, .int .u8 240, .int .u8 240, .int .u8 240, .int .u8 240, .int .u8 240, .int .u8 240, .int .u8 240, .int .u8 240, .int .u8 240, .int .u8 240, .int .u8 240, .int .u8 240, .int .u8 240, .int .u8 240, .int .u8 240, .int .u8 240, .int .u8 240, .int .u8 240, .int .u8 240, .int .u8 240, .int .u8 240, .int .u8 240, .int .u8 240, .int .u8 240, .int .u8 240, .int .u8 240, .int .u8 240, .int .u8 240, .int .u8 240, .int .u8 240, .int .u8 240, .int .u8 240, .int .u8 240, .int .u8 240, .int .u8 240, .int .u8 240, .int .u8 240, .int .u8 240, .int .u8 240, .int .u8 240, .int .u8 240, .int .u8 240, .int .u8 240, .int .u8 240, .int .u8 240, .int .u8 240, .int .u8 240, .int .u8 240, .int .u8 240, .int .u8 240, .int .u8 240, .int .u8 240, .int .u8 240, .int .u8 240, .int .u8 240, .int .u8 240, .int .u8 240, .int .u8 240, .int .u8 240, .int .u8 240, .int .u8 240, .int .u8 240, .int .u8 240, .int .u8 240, .int .u8 240, .int .u8 240, .int .u8 240, .int .u8 240, .int .u8 240, .int .u8 240, .int .u8 240, .int .u8 240, .int .u8 240, .int .u8 240, .int .u8 240, .int .u8 240, .int .u8 240, .int .u8 240, .int .u8 240, .int .u8 240, .int .u8 240, .int .u8 240, .int .u8 240, .int .u8 240, .int .u8 240, .int .u8 240, .int .u8 240, .int .u8 240, .int .u8 240, .int .u8 240, .int .u8 240, .int .u8 240, .int .u8 240, .int .u8 240, .int .u8 240, .int .u8 241, .int .u8 241, .int .u8 241, .int .u8 241, .int .u8 241, .int .u8 241, .int .u8 241, .int .u8 241, .int .u8 241, .int .u8 241, .int .u8 241, .int .u8 241, .int .u8 241, .int .u8 241, .int .u8 241, .int .u8 241, .int .u8 241, .int .u8 241, .int .u8 241, .int .u8 241, .int .u8 241, .int .u8 241, .int .u8 241, .int .u8 241, .int .u8 241, .int .u8 241, .int .u8 241, .int .u8 241, .int .u8 241, .int .u8 241, .int .u8 241, .int .u8 241, .int .u8 241, .int .u8 241, .int .u8 241, .int .u8 241, .int .u8 241, .int .u8 241, .int .u8 241, .int .u8 241, .int .u8 241, .int .u8 241, .int .u8 241, .int .u8 241, .int .u8 241, .int .u8 241, .int .u8 241, .int .u8 241, .int .u8 241, .int .u8 241, .int .u8 241, .int .u8 241, .int .u8 241, .int .u8 241, .int .u8 241, .int .u8 241, .int .u8 241, .int .u8 241, .int .u8 241, .int .u8 241, .int .u8 241, .int .u8 241, .int .u8 241, .int .u8 241, .int .u8 241, .int .u8 241, .int .u8 2, .int .u8 2, .int .u8 2, .int .u8 2, .int .u8 2, .int .u8 2, .int .u8 2, .int .u8 2, .int .u8 2, .int .u8 2, .int .u8 2, .int .u8 2, .int .u8 2, .int .u8 2, .int .u8 2, .int .u8 2, .int .u8 2, .int .u8 2, .int .u8 2, .int .u8 2, .int .u8 2, .int .u8 2, .int .u8 2, .int .u8 2, .int .u8 2, .int .u8 2, .int .u8 2, .int .u8 2, .int .u8 2, .int .u8 2, .int .u8 19, .int .u8 3, .int .u8 3, .int .u8 3, .int .u8 3, .int .u8 3, .int .u8 3, .int .u8 3, .int .u8 3, .int .u8 3, .int .u8 3, .int .u8 3, .int .u8 3, .int .u8 35, .int .u8 3, .int .u8 3, .int .u8 52, .int .u8 4, .int .u8 4, .int .u8 4, .int .u8 68, .int .u8 241, .int .u8 241, .int .u8 241, .int .u8 241, .int .u8 241, .int .u8 241, .int .u8 241, .int .u8 241, .int .u8 241, .int .u8 241, .int .u8 241]
  { w0 with heap := h8 }
set_option maxRecDepth 1000000 in
theorem laid_met (os : Os) (args : Array Value) : laidMet Tryz.prog laidList ((laidWorld os).forCall (fun _ _ => 0) ⟨#[], args, []⟩).memory :=
  (LaidIn.of_run [8, 9, 7, 6, 4, N0 + 0, 3, N0 + 1, 1, N0 + 2, N0 + 3, 0, 5] 8 (by kernel_rfl) (by kernel_rfl) (by kernel_rfl) (by kernel_rfl)).met
def aspL : List Int := [0, 0, 0, 0, 0, 0, 0, 0, 0, 1, 1, 1, 1, 1, 0, 0, 0, 0, 0, 0, 0, 0, 0, 0, 0, 0, 0, 0, 0, 0, 0, 0, 1, 0, 0, 0, 0, 0, 0, 0, 0, 0, 0, 0, 0, 0, 0, 0, 0, 0, 0, 0, 0, 0, 0, 0, 0, 0, 0, 0, 0, 0, 0, 0, 0, 0, 0, 0, 0, 0, 0, 0, 0, 0, 0, 0, 0, 0, 0, 0, 0, 0, 0, 0, 0, 0, 0, 0, 0, 0, 0, 0, 0, 0, 0, 0, 0, 0, 0, 0, 0, 0, 0, 0, 0, 0, 0, 0, 0, 0, 0, 0, 0, 0, 0, 0, 0, 0, 0, 0, 0, 0, 0, 0, 0, 0, 0, 0, 0, 0, 0, 0, 0, 0, 0, 0, 0, 0, 0, 0, 0, 0, 0, 0, 0, 0, 0, 0, 0, 0, 0, 0, 0, 0, 0, 0, 0, 0, 0, 0, 0, 0, 0, 0, 0, 0, 0, 0, 0, 0, 0, 0, 0, 0, 0, 0, 0, 0, 0, 0, 0, 0, 0, 0, 0, 0, 0, 0, 0, 0, 0, 0, 0, 0, 0, 0, 0, 0, 0, 0, 0, 0, 0, 0, 0, 0, 0, 0, 0, 0, 0, 0, 0, 0, 0, 0, 0, 0, 0, 0, 0, 0, 0, 0, 0, 0, 0, 0, 0, 0, 0, 0, 0, 0, 0, 0, 0, 0, 0, 0, 0, 0, 0, 0, 0, 0, 0, 0, 0, 0, 0, 0, 0, 0, 0, 0]
theorem asp_at : ∀ i, i < 256 → aspL.getD i 0 = asp i := by decide +kernel
set_option maxRecDepth 100000 in
theorem spaces_of {W : World} (h : laidMet Tryz.prog laidList W) : Spaces W := by
  have h1 : laidMet Tryz.prog (("strings.asciiSpace", Lib.tabData .u8 aspL) :: laidList.drop 8) W := laidMet.tail (laidMet.tail (laidMet.tail (laidMet.tail (laidMet.tail (laidMet.tail (laidMet.tail (h)))))))
  have h2 := Lib.tabIs_of_head (g := 0) (t := 127) (e := 5) (n := 256) (by kernel_rfl) (by kernel_rfl) Tryz.underlying127 Tryz.underlying5 (by kernel_rfl) (by kernel_rfl) h1
  exact ⟨fun i hi => (h2.cell (g := 0) (by kernel_rfl) i hi).trans (by rw [asp_at i hi])⟩
def powL : List Int := [1, 10, 100, 1000, 10000, 100000, 1000000, 10000000, 100000000, 1000000000, 10000000000, 100000000000, 1000000000000, 10000000000000, 100000000000000, 1000000000000000, 10000000000000000, 100000000000000000, 1000000000000000000, 10000000000000000000]
set_option maxRecDepth 100000 in
theorem pow_of {W : World} (h : laidMet Tryz.prog laidList W) : Lib.TabIs Tryz.prog W "internal/strconv.uint64pow10" .u64 Lib.pow10Tab := by
  have h1 : laidMet Tryz.prog (("internal/strconv.uint64pow10", Lib.tabData .u64 powL) :: laidList.drop 3) W := laidMet.tail (laidMet.tail (h))
  have h2 := Lib.tabIs_of_head (g := 7) (t := 180) (e := 139) (n := 20) (by kernel_rfl) (by kernel_rfl) Tryz.underlying180 Tryz.underlying139 (by kernel_rfl) (by kernel_rfl) h1
  rw [show Lib.pow10Tab = powL by decide +kernel]
  exact h2
theorem star : "*" ++ "errors.errorString" = "*errors.errorString" := by decide
theorem starRow (u : TypeId) (h : Tryz.prog.typeName? 3 u = some "*errors.errorString") : u = 185 :=
  typeName_ptr_named (nm := "errors.errorString") (by rw [star]; kernel_rfl) (by kernel_rfl) (by decide) u (by rw [star]; exact h)
set_option maxRecDepth 100000 in
theorem rng_of {W : World} (h : laidMet Tryz.prog laidList W) : ∃ tp p, W.var? Tryz.prog "strconv.ErrRange" = some #[.iface tp p] := by
  obtain ⟨a, s, hv, _⟩ := laid_sentinel (g := 4) (laidMet.tail (laidMet.tail (laidMet.tail (laidMet.tail (h))))) (by kernel_rfl) (by kernel_rfl) Tryz.underlying101 starRow Tryz.underlying185 Tryz.underlying187 rfl rfl Tryz.underlying9 (by kernel_rfl) (by kernel_rfl)
  exact ⟨_, _, hv⟩
theorem tabs_of {W : World} (h : laidMet Tryz.prog laidList W) : Tabs W := ⟨spaces_of h, pow_of h, rng_of h⟩
end Go.Proofs.YtgmmngipnjmkfaaGreatDoor.Hand
end
section
namespace Go.Proofs.YtgmmngipnjmkfaaGreatDoor.Hand
open Go.RowKit
def kindOf (c : Int) : Int :=
  if c = 32 ∨ c = 10 then 1 else if 48 ≤ c ∧ c ≤ 57 then 2 else if 97 ≤ c ∧ c ≤ 122 then 3
  else if (40 ≤ c ∧ c ≤ 43) ∨ (60 ≤ c ∧ c ≤ 62) ∨ c = 45 ∨ c = 33 then 4 else 0
set_option maxHeartbeats 400000 in
theorem between_yes (a b c : Int) (x : Addr) (w : World) (hc : w.cell? x = some (.int .u8 c)) (h1 : a ≤ c) (h2 : c ≤ b) :
    Calls Tryz.prog 38 #[.int .u8 a, .int .u8 b, .pointer (some x)] w fun e w' => e = .returned (.bool true) ∧ w = w' := by
  go_enter Tryz.func38, Tryz.ntmps38
  go_wp2
  go_ret
  exact ⟨rfl, rfl⟩
set_option maxHeartbeats 400000 in
theorem zbr (a b c : Int) (x : Addr) (w : World) (hc : w.cell? x = some (.int .u8 c)) (h : c < a ∨ b < c) :
    Calls Tryz.prog 38 #[.int .u8 a, .int .u8 b, .pointer (some x)] w fun e w' => e = .returned (.bool false) ∧ w = w' := by
  by_cases h1 : a ≤ c
  · have hd : decide (c ≤ b) = false := decide_eq_false (by omega)
    clear h
    go_enter Tryz.func38, Tryz.ntmps38
    go_wp2
    go_ret
    exact ⟨rfl, rfl⟩
  · clear h
    go_enter Tryz.func38, Tryz.ntmps38
    go_wp2
    go_ret
    exact ⟨rfl, rfl⟩
set_option maxHeartbeats 2000000 in
theorem zc9 (c : Int) (w : World) :
    Calls Tryz.prog 25 #[.int .u8 c] w fun e w' => e = .returned (.int .u8 (kindOf c)) ∧ Below w.heap.size w w' := by
  have hB : Below w.heap.size w (w.alloc (.cells #[.int .u8 c] 5)) := (Below.refl _ _).alloc (Nat.le_refl _) _
  have hc : (w.alloc (.cells #[.int .u8 c] 5)).cell? ⟨w.heap.size, 0, none⟩ = some (.int .u8 c) := by simp
  by_cases e1 : c = 32
  · have hf : kindOf c = 1 := if_pos (.inl e1)
    rw [hf]; clear hf hc
    have f1 : (c == 32) = true := by simpa using e1
    clear e1
    go_enter Tryz.func25, Tryz.ntmps25
    go_wp2
    go_ret
    exact ⟨rfl, hB⟩
  by_cases e2 : c = 10
  · have hf : kindOf c = 1 := if_pos (.inr e2)
    rw [hf]; clear hf hc
    have f1 : (c == 10) = true := by simpa using e2
    have f2 : (c == 32) = false := by simpa using e1
    clear e1 e2
    go_enter Tryz.func25, Tryz.ntmps25
    go_wp2
    go_ret
    exact ⟨rfl, hB⟩
  have f1 : (c == 10) = false := by simpa using e2
  have f2 : (c == 32) = false := by simpa using e1
  by_cases h0 : 48 ≤ c ∧ c ≤ 57
  · have hf : kindOf c = 2 := by unfold kindOf; rw [if_neg (by omega), if_pos h0]
    rw [hf]; clear hf e1 e2
    go_enter Tryz.func25, Tryz.ntmps25
    go_wp2_with fail
    refine (between_yes 48 57 c _ _ hc (by omega) (by omega)).mono ?_
    rintro e w' ⟨rfl, rfl⟩
    go_wp2
    go_ret
    exact ⟨rfl, hB⟩
  by_cases h1 : 97 ≤ c ∧ c ≤ 122
  · have hf : kindOf c = 3 := by unfold kindOf; rw [if_neg (by omega), if_neg (by omega), if_pos h1]
    rw [hf]; clear hf e1 e2
    go_enter Tryz.func25, Tryz.ntmps25
    go_wp2_with fail
    refine (zbr 48 57 c _ _ hc (by omega)).mono ?_
    rintro e w' ⟨rfl, rfl⟩
    go_wp2_with fail
    refine (between_yes 97 122 c _ _ hc (by omega) (by omega)).mono ?_
    rintro e w' ⟨rfl, rfl⟩
    go_wp2
    go_ret
    exact ⟨rfl, hB⟩
  by_cases h2 : 40 ≤ c ∧ c ≤ 43
  · have hf : kindOf c = 4 := by unfold kindOf; rw [if_neg (by omega), if_neg (by omega), if_neg (by omega), if_pos (.inl h2)]
    rw [hf]; clear hf e1 e2
    go_enter Tryz.func25, Tryz.ntmps25
    go_wp2_with fail
    refine (zbr 48 57 c _ _ hc (by omega)).mono ?_
    rintro e w' ⟨rfl, rfl⟩
    go_wp2_with fail
    refine (zbr 97 122 c _ _ hc (by omega)).mono ?_
    rintro e w' ⟨rfl, rfl⟩
    go_wp2_with fail
    refine (between_yes 40 43 c _ _ hc (by omega) (by omega)).mono ?_
    rintro e w' ⟨rfl, rfl⟩
    go_wp2
    go_ret
    exact ⟨rfl, hB⟩
  by_cases h3 : 60 ≤ c ∧ c ≤ 62
  · have hf : kindOf c = 4 := by unfold kindOf; rw [if_neg (by omega), if_neg (by omega), if_neg (by omega), if_pos (.inr (.inl h3))]
    rw [hf]; clear hf e1 e2
    go_enter Tryz.func25, Tryz.ntmps25
    go_wp2_with fail
    refine (zbr 48 57 c _ _ hc (by omega)).mono ?_
    rintro e w' ⟨rfl, rfl⟩
    go_wp2_with fail
    refine (zbr 97 122 c _ _ hc (by omega)).mono ?_
    rintro e w' ⟨rfl, rfl⟩
    go_wp2_with fail
    refine (zbr 40 43 c _ _ hc (by omega)).mono ?_
    rintro e w' ⟨rfl, rfl⟩
    go_wp2_with fail
    refine (between_yes 60 62 c _ _ hc (by omega) (by omega)).mono ?_
    rintro e w' ⟨rfl, rfl⟩
    go_wp2
    go_ret
    exact ⟨rfl, hB⟩
  by_cases e4 : c = 45
  · have hf : kindOf c = 4 := by unfold kindOf; rw [if_neg (by omega), if_neg (by omega), if_neg (by omega), if_pos (.inr (.inr (.inl e4)))]
    rw [hf]
    have g1 : (c == 45) = true := by simpa using e4
    clear hf e1 e2 e4
    go_enter Tryz.func25, Tryz.ntmps25
    go_wp2_with fail
    refine (zbr 48 57 c _ _ hc (by omega)).mono ?_
    rintro e w' ⟨rfl, rfl⟩
    go_wp2_with fail
    refine (zbr 97 122 c _ _ hc (by omega)).mono ?_
    rintro e w' ⟨rfl, rfl⟩
    go_wp2_with fail
    refine (zbr 40 43 c _ _ hc (by omega)).mono ?_
    rintro e w' ⟨rfl, rfl⟩
    go_wp2_with fail
    refine (zbr 60 62 c _ _ hc (by omega)).mono ?_
    rintro e w' ⟨rfl, rfl⟩
    go_wp2
    go_ret
    exact ⟨rfl, hB⟩
  by_cases e5 : c = 33
  · have hf : kindOf c = 4 := by unfold kindOf; rw [if_neg (by omega), if_neg (by omega), if_neg (by omega), if_pos (.inr (.inr (.inr e5)))]
    rw [hf]
    have g1 : (c == 45) = false := by simpa using e4
    have g2 : (c == 33) = true := by simpa using e5
    clear hf e1 e2 e4 e5
    go_enter Tryz.func25, Tryz.ntmps25
    go_wp2_with fail
    refine (zbr 48 57 c _ _ hc (by omega)).mono ?_
    rintro e w' ⟨rfl, rfl⟩
    go_wp2_with fail
    refine (zbr 97 122 c _ _ hc (by omega)).mono ?_
    rintro e w' ⟨rfl, rfl⟩
    go_wp2_with fail
    refine (zbr 40 43 c _ _ hc (by omega)).mono ?_
    rintro e w' ⟨rfl, rfl⟩
    go_wp2_with fail
    refine (zbr 60 62 c _ _ hc (by omega)).mono ?_
    rintro e w' ⟨rfl, rfl⟩
    go_wp2
    go_ret
    exact ⟨rfl, hB⟩
  have hf : kindOf c = 0 := by unfold kindOf; rw [if_neg (by omega), if_neg (by omega), if_neg (by omega), if_neg (by omega)]
  rw [hf]
  have g1 : (c == 45) = false := by simpa using e4
  have g2 : (c == 33) = false := by simpa using e5
  clear hf e1 e2 e4 e5
  go_enter Tryz.func25, Tryz.ntmps25
  go_wp2_with fail
  refine (zbr 48 57 c _ _ hc (by omega)).mono ?_
  rintro e w' ⟨rfl, rfl⟩
  go_wp2_with fail
  refine (zbr 97 122 c _ _ hc (by omega)).mono ?_
  rintro e w' ⟨rfl, rfl⟩
  go_wp2_with fail
  refine (zbr 40 43 c _ _ hc (by omega)).mono ?_
  rintro e w' ⟨rfl, rfl⟩
  go_wp2_with fail
  refine (zbr 60 62 c _ _ hc (by omega)).mono ?_
  rintro e w' ⟨rfl, rfl⟩
  go_wp2
  go_ret
  exact ⟨rfl, hB⟩
end Go.Proofs.YtgmmngipnjmkfaaGreatDoor.Hand
end
section
namespace Go.Proofs.YtgmmngipnjmkfaaGreatDoor
open Go.Shelf
def Tryz.lays137_ren : Go.Shelf.Ren := ⟨fun | 137 => 57 | 217 => 69 | 266 => 89 | n => n, fun | 9 => 9 | 5 => 5 | 3 => 3 | n => n, fun | n => n⟩
theorem Tryz.lays137 : Go.Proofs.Lays.n137 Tryz.prog Tryz.lays137_ren := {
  mixed := by kernel_rfl
  f137 := Tryz.func57.trans (congrArg some (by kernel_rfl))
  f217 := Tryz.func69.trans (congrArg some (by kernel_rfl))
  f266 := Tryz.func89.trans (congrArg some (by kernel_rfl))
  t3 := Tryz.underlying3
  a3 := Tryz.isAgg3
  z3 := Tryz.sizeOf3
  v3 := Tryz.zeroValue3
  t5 := Tryz.underlying5
  a5 := Tryz.isAgg5
  z5 := Tryz.sizeOf5
  v5 := Tryz.zeroValue5
  t9 := Tryz.underlying9
  a9 := Tryz.isAgg9
  z9 := Tryz.sizeOf9
  v9 := Tryz.zeroValue9 }
open Go.RowKit in
theorem Tryz.strings_IndexByte (s : ByteArray) (c : Int) (w : World) :
    Calls Tryz.prog 57 #[.string s, .int .u8 c] w fun e w' => e = .returned (.int .i64 (Lib.indexByte s.data.toList c.toNat.toUInt8)) ∧ w' = w := Any.strings_IndexByte Tryz.lays137 s c w
end Go.Proofs.YtgmmngipnjmkfaaGreatDoor
end
section
namespace Go.Proofs.YtgmmngipnjmkfaaGreatDoor.Hand
open Go.RowKit Go.Proofs.YtgmmngipnjmkfaaGreatDoorW.PrintWords
def two (c d : Int) : Bool := (c == 60 && (d == 61 || d == 60)) || (c == 62 && (d == 61 || d == 62)) || (c == 33 && d == 61)
def symT (t : ByteArray) : Int :=
  if t.size = 0 then 0 else if kindOf (bt t 0) ≠ 4 then 0 else if 1 < t.size ∧ two (bt t 0) (bt t 1) = true then 2 else if bt t 0 = 33 then 0 else 1
theorem bt_zero (t : ByteArray) (h : 0 < t.size) : bt t 0 = ((t[0]'h).toNat : Int) := by
  unfold bt; rw [dif_pos (by simpa using h)]; rfl
theorem bt_one (t : ByteArray) (h : 1 < t.size) : bt t 1 = ((t[1]'h).toNat : Int) := by
  unfold bt; rw [dif_pos (by simpa using h)]; rfl
def symPost (n : Int) (w : World) (e : Ending) (w' : World) : Prop := e = .returned (.tuple #[.int .i64 n, .int .i64 0]) ∧ Below w.heap.size w w'
set_option maxHeartbeats 1000000 in
theorem symbol_empty (s : ByteArray) (k : Nat) (w : World) (hk : k = s.size) :
    Calls Tryz.prog 40 #[.string s, .int .i64 k] w (symPost 0 w) := by
  have hk1 : k ≤ s.size := by omega
  have he : (s.extract k s.size).toList = [] := by rw [hk]; simp
  clear hk
  go_enter Tryz.func40, Tryz.ntmps40
  go_wp2_with fail
  go_ret2
  exact ⟨rfl, Below.refl _ _⟩
set_option maxHeartbeats 1000000 in
theorem symbol_none (s : ByteArray) (k : Nat) (w : World) (hk : k < s.size)
    (hne : (s.extract k s.size).toList.isEmpty = false) (hc : (kindOf ((s.extract k s.size)[0]'(by simp; omega)).toNat != 4) = true) :
    Calls Tryz.prog 40 #[.string s, .int .i64 k] w (symPost 0 w) := by
  have hk1 : k ≤ s.size := by omega
  have hk2 : 0 < s.size - k := by omega
  go_enter Tryz.func40, Tryz.ntmps40
  go_wp2_with fail
  refine (zc9 _ _).mono ?_
  rintro e w1 ⟨rfl, hB⟩
  go_wp2_with fail
  go_ret2
  exact ⟨rfl, hB⟩
set_option maxHeartbeats 1000000 in
theorem symbol_last (s : ByteArray) (k : Nat) (w : World) (hk : k < s.size) (h1 : s.size - k ≤ 1) (b : Bool)
    (hne : (s.extract k s.size).toList.isEmpty = false) (hc : (kindOf ((s.extract k s.size)[0]'(by simp; omega)).toNat != 4) = false)
    (h33b : ((((s.extract k s.size)[0]'(by simp; omega)).toNat : Int) == 33) = b) :
    Calls Tryz.prog 40 #[.string s, .int .i64 k] w (symPost (if b = true then 0 else 1) w) := by
  have hk1 : k ≤ s.size := by omega
  have hk2 : 0 < s.size - k := by omega
  cases b
  all_goals
    go_enter Tryz.func40, Tryz.ntmps40
    go_wp2_with fail
    refine (zc9 _ _).mono ?_
    rintro e w1 ⟨rfl, hB⟩
    go_wp2_with fail
    go_ret2
    exact ⟨rfl, hB⟩
theorem zdh (l : ByteArray) (c : Int) (n : Int) (w : World) (h : Lib.indexByte l.data.toList c.toNat.toUInt8 = n) :
    Calls Tryz.prog 57 #[.string l, .int .u8 c] w fun e w' => e = .returned (.int .i64 n) ∧ w' = w := by
  rw [← h]; exact Tryz.strings_IndexByte l c w
theorem zdj {P : Program} {f : FuncId} {args : Array Value} {w : World} {a n : Nat} {v : Value}
    (h : Calls P f args (w.drewN (a + n)) fun e w' => e = .returned v ∧ w' = w.drewN (a + n)) :
    Calls P f args (w.drewN (a + n)) fun e w'' => e = .returned v ∧ ∃ m, w'' = w.drewN (a + m) := h.mono fun _ _ h2 => ⟨h2.1, _, h2.2⟩
set_option maxHeartbeats 4000000 in
theorem symbol_lt_yes (s : ByteArray) (k : Nat) (w : World) (n : Int) (hn : 0 ≤ n) (h1 : 1 < s.size - k)
    (hne : (s.extract k s.size).toList.isEmpty = false) (hc : (kindOf ((s.extract k s.size)[0]'(by simp; omega)).toNat != 4) = false)
    (hx0 : ((((s.extract k s.size)[0]'(by simp; omega)).toNat : Int) == (((⟨#[60, 62, 33]⟩ : ByteArray)[0]'(by decide)).toNat : Int)) = true)
    (hi : Lib.indexByte [61, 60] (((s.extract k s.size)[1]'(by simp; omega)).toNat : Int).toNat.toUInt8 = n) :
    Calls Tryz.prog 40 #[.string s, .int .i64 k] w (symPost 2 w) := by
  have hk1 : k ≤ s.size := by omega
  have hk2 : 0 < s.size - k := by omega
  have i0 : ∀ w, (Instr.index 97 (.agg #[.string ⟨#[61, 60]⟩, .string ⟨#[61, 62]⟩, .string ⟨#[61]⟩]) (.int .i64 0)).run Tryz.prog w = .ok (.string ⟨#[61, 60]⟩) w := fun _ => by kernel_rfl
  have Hi := Lib.hid hi
  clear hi
  go_enter Tryz.func40, Tryz.ntmps40
  go_wp2_with fail
  refine (zc9 _ _).mono ?_
  rintro e w1 ⟨rfl, hB⟩
  go_wp2_with fail
  refine wp_loop_rounds 4 ?_
  rw [rounds_succ]
  go_wp2_with fail
  go_quiet ((go_at_call 57; first | exact Calls.quiet_of_same (zdh _ _ _ _ Hi.out) | exact zdj (zdh _ _ _ _ Hi.out)))
  go_wp2_with fail
  go_ret2
  exact ⟨rfl, by repeat (first | exact hB | apply zaa)⟩
set_option maxHeartbeats 4000000 in
theorem symbol_lt_no (s : ByteArray) (k : Nat) (w : World) (n : Int) (hn : n < 0) (h1 : 1 < s.size - k)
    (hne : (s.extract k s.size).toList.isEmpty = false) (hc : (kindOf ((s.extract k s.size)[0]'(by simp; omega)).toNat != 4) = false)
    (hx0 : ((((s.extract k s.size)[0]'(by simp; omega)).toNat : Int) == (((⟨#[60, 62, 33]⟩ : ByteArray)[0]'(by decide)).toNat : Int)) = true)
    (hx1 : ((((s.extract k s.size)[0]'(by simp; omega)).toNat : Int) == (((⟨#[60, 62, 33]⟩ : ByteArray)[1]'(by decide)).toNat : Int)) = false)
    (hx2 : ((((s.extract k s.size)[0]'(by simp; omega)).toNat : Int) == (((⟨#[60, 62, 33]⟩ : ByteArray)[2]'(by decide)).toNat : Int)) = false)
    (h33 : ((((s.extract k s.size)[0]'(by simp; omega)).toNat : Int) == 33) = false)
    (hi : Lib.indexByte [61, 60] (((s.extract k s.size)[1]'(by simp; omega)).toNat : Int).toNat.toUInt8 = n) :
    Calls Tryz.prog 40 #[.string s, .int .i64 k] w (symPost 1 w) := by
  have hk1 : k ≤ s.size := by omega
  have hk2 : 0 < s.size - k := by omega
  have i0 : ∀ w, (Instr.index 97 (.agg #[.string ⟨#[61, 60]⟩, .string ⟨#[61, 62]⟩, .string ⟨#[61]⟩]) (.int .i64 0)).run Tryz.prog w = .ok (.string ⟨#[61, 60]⟩) w := fun _ => by kernel_rfl
  have i1 : ∀ w, (Instr.index 97 (.agg #[.string ⟨#[61, 60]⟩, .string ⟨#[61, 62]⟩, .string ⟨#[61]⟩]) (.int .i64 1)).run Tryz.prog w = .ok (.string ⟨#[61, 62]⟩) w := fun _ => by kernel_rfl
  have i2 : ∀ w, (Instr.index 97 (.agg #[.string ⟨#[61, 60]⟩, .string ⟨#[61, 62]⟩, .string ⟨#[61]⟩]) (.int .i64 2)).run Tryz.prog w = .ok (.string ⟨#[61]⟩) w := fun _ => by kernel_rfl
  have Hi := Lib.hid hi
  clear hi
  go_enter Tryz.func40, Tryz.ntmps40
  go_wp2_with fail
  refine (zc9 _ _).mono ?_
  rintro e w1 ⟨rfl, hB⟩
  go_wp2_with fail
  refine wp_loop_rounds 4 ?_
  rw [rounds_succ]
  go_wp2_with fail
  go_quiet ((go_at_call 57; first | exact Calls.quiet_of_same (zdh _ _ _ _ Hi.out) | exact zdj (zdh _ _ _ _ Hi.out)))
  go_wp2_with fail
  rw [rounds_succ]
  go_wp2_with fail
  go_quiet (fail)
  go_wp2_with fail
  rw [rounds_succ]
  go_wp2_with fail
  go_quiet (fail)
  go_wp2_with fail
  rw [rounds_succ]
  go_wp2_with fail
  go_ret2
  exact ⟨rfl, by repeat (first | exact hB | apply zaa)⟩
set_option maxHeartbeats 4000000 in
theorem symbol_gt_yes (s : ByteArray) (k : Nat) (w : World) (n : Int) (hn : 0 ≤ n) (h1 : 1 < s.size - k)
    (hne : (s.extract k s.size).toList.isEmpty = false) (hc : (kindOf ((s.extract k s.size)[0]'(by simp; omega)).toNat != 4) = false)
    (hx0 : ((((s.extract k s.size)[0]'(by simp; omega)).toNat : Int) == (((⟨#[60, 62, 33]⟩ : ByteArray)[0]'(by decide)).toNat : Int)) = false)
    (hx1 : ((((s.extract k s.size)[0]'(by simp; omega)).toNat : Int) == (((⟨#[60, 62, 33]⟩ : ByteArray)[1]'(by decide)).toNat : Int)) = true)
    (hi : Lib.indexByte [61, 62] (((s.extract k s.size)[1]'(by simp; omega)).toNat : Int).toNat.toUInt8 = n) :
    Calls Tryz.prog 40 #[.string s, .int .i64 k] w (symPost 2 w) := by
  have hk1 : k ≤ s.size := by omega
  have hk2 : 0 < s.size - k := by omega
  have i0 : ∀ w, (Instr.index 97 (.agg #[.string ⟨#[61, 60]⟩, .string ⟨#[61, 62]⟩, .string ⟨#[61]⟩]) (.int .i64 0)).run Tryz.prog w = .ok (.string ⟨#[61, 60]⟩) w := fun _ => by kernel_rfl
  have i1 : ∀ w, (Instr.index 97 (.agg #[.string ⟨#[61, 60]⟩, .string ⟨#[61, 62]⟩, .string ⟨#[61]⟩]) (.int .i64 1)).run Tryz.prog w = .ok (.string ⟨#[61, 62]⟩) w := fun _ => by kernel_rfl
  have Hi := Lib.hid hi
  clear hi
  go_enter Tryz.func40, Tryz.ntmps40
  go_wp2_with fail
  refine (zc9 _ _).mono ?_
  rintro e w1 ⟨rfl, hB⟩
  go_wp2_with fail
  refine wp_loop_rounds 4 ?_
  rw [rounds_succ]
  go_wp2_with fail
  go_quiet (fail)
  go_wp2_with fail
  rw [rounds_succ]
  go_wp2_with fail
  go_quiet ((go_at_call 57; first | exact Calls.quiet_of_same (zdh _ _ _ _ Hi.out) | exact zdj (zdh _ _ _ _ Hi.out)))
  go_wp2_with fail
  go_ret2
  exact ⟨rfl, by repeat (first | exact hB | apply zaa)⟩
set_option maxHeartbeats 4000000 in
theorem symbol_gt_no (s : ByteArray) (k : Nat) (w : World) (n : Int) (hn : n < 0) (h1 : 1 < s.size - k)
    (hne : (s.extract k s.size).toList.isEmpty = false) (hc : (kindOf ((s.extract k s.size)[0]'(by simp; omega)).toNat != 4) = false)
    (hx0 : ((((s.extract k s.size)[0]'(by simp; omega)).toNat : Int) == (((⟨#[60, 62, 33]⟩ : ByteArray)[0]'(by decide)).toNat : Int)) = false)
    (hx1 : ((((s.extract k s.size)[0]'(by simp; omega)).toNat : Int) == (((⟨#[60, 62, 33]⟩ : ByteArray)[1]'(by decide)).toNat : Int)) = true)
    (hx2 : ((((s.extract k s.size)[0]'(by simp; omega)).toNat : Int) == (((⟨#[60, 62, 33]⟩ : ByteArray)[2]'(by decide)).toNat : Int)) = false)
    (h33 : ((((s.extract k s.size)[0]'(by simp; omega)).toNat : Int) == 33) = false)
    (hi : Lib.indexByte [61, 62] (((s.extract k s.size)[1]'(by simp; omega)).toNat : Int).toNat.toUInt8 = n) :
    Calls Tryz.prog 40 #[.string s, .int .i64 k] w (symPost 1 w) := by
  have hk1 : k ≤ s.size := by omega
  have hk2 : 0 < s.size - k := by omega
  have i0 : ∀ w, (Instr.index 97 (.agg #[.string ⟨#[61, 60]⟩, .string ⟨#[61, 62]⟩, .string ⟨#[61]⟩]) (.int .i64 0)).run Tryz.prog w = .ok (.string ⟨#[61, 60]⟩) w := fun _ => by kernel_rfl
  have i1 : ∀ w, (Instr.index 97 (.agg #[.string ⟨#[61, 60]⟩, .string ⟨#[61, 62]⟩, .string ⟨#[61]⟩]) (.int .i64 1)).run Tryz.prog w = .ok (.string ⟨#[61, 62]⟩) w := fun _ => by kernel_rfl
  have i2 : ∀ w, (Instr.index 97 (.agg #[.string ⟨#[61, 60]⟩, .string ⟨#[61, 62]⟩, .string ⟨#[61]⟩]) (.int .i64 2)).run Tryz.prog w = .ok (.string ⟨#[61]⟩) w := fun _ => by kernel_rfl
  have Hi := Lib.hid hi
  clear hi
  go_enter Tryz.func40, Tryz.ntmps40
  go_wp2_with fail
  refine (zc9 _ _).mono ?_
  rintro e w1 ⟨rfl, hB⟩
  go_wp2_with fail
  refine wp_loop_rounds 4 ?_
  rw [rounds_succ]
  go_wp2_with fail
  go_quiet (fail)
  go_wp2_with fail
  rw [rounds_succ]
  go_wp2_with fail
  go_quiet ((go_at_call 57; first | exact Calls.quiet_of_same (zdh _ _ _ _ Hi.out) | exact zdj (zdh _ _ _ _ Hi.out)))
  go_wp2_with fail
  rw [rounds_succ]
  go_wp2_with fail
  go_quiet (fail)
  go_wp2_with fail
  rw [rounds_succ]
  go_wp2_with fail
  go_ret2
  exact ⟨rfl, by repeat (first | exact hB | apply zaa)⟩
set_option maxHeartbeats 4000000 in
theorem symbol_ne_yes (s : ByteArray) (k : Nat) (w : World) (n : Int) (hn : 0 ≤ n) (h1 : 1 < s.size - k)
    (hne : (s.extract k s.size).toList.isEmpty = false) (hc : (kindOf ((s.extract k s.size)[0]'(by simp; omega)).toNat != 4) = false)
    (hx0 : ((((s.extract k s.size)[0]'(by simp; omega)).toNat : Int) == (((⟨#[60, 62, 33]⟩ : ByteArray)[0]'(by decide)).toNat : Int)) = false)
    (hx1 : ((((s.extract k s.size)[0]'(by simp; omega)).toNat : Int) == (((⟨#[60, 62, 33]⟩ : ByteArray)[1]'(by decide)).toNat : Int)) = false)
    (hx2 : ((((s.extract k s.size)[0]'(by simp; omega)).toNat : Int) == (((⟨#[60, 62, 33]⟩ : ByteArray)[2]'(by decide)).toNat : Int)) = true)
    (hi : Lib.indexByte [61] (((s.extract k s.size)[1]'(by simp; omega)).toNat : Int).toNat.toUInt8 = n) :
    Calls Tryz.prog 40 #[.string s, .int .i64 k] w (symPost 2 w) := by
  have hk1 : k ≤ s.size := by omega
  have hk2 : 0 < s.size - k := by omega
  have i0 : ∀ w, (Instr.index 97 (.agg #[.string ⟨#[61, 60]⟩, .string ⟨#[61, 62]⟩, .string ⟨#[61]⟩]) (.int .i64 0)).run Tryz.prog w = .ok (.string ⟨#[61, 60]⟩) w := fun _ => by kernel_rfl
  have i1 : ∀ w, (Instr.index 97 (.agg #[.string ⟨#[61, 60]⟩, .string ⟨#[61, 62]⟩, .string ⟨#[61]⟩]) (.int .i64 1)).run Tryz.prog w = .ok (.string ⟨#[61, 62]⟩) w := fun _ => by kernel_rfl
  have i2 : ∀ w, (Instr.index 97 (.agg #[.string ⟨#[61, 60]⟩, .string ⟨#[61, 62]⟩, .string ⟨#[61]⟩]) (.int .i64 2)).run Tryz.prog w = .ok (.string ⟨#[61]⟩) w := fun _ => by kernel_rfl
  have Hi := Lib.hid hi
  clear hi
  go_enter Tryz.func40, Tryz.ntmps40
  go_wp2_with fail
  refine (zc9 _ _).mono ?_
  rintro e w1 ⟨rfl, hB⟩
  go_wp2_with fail
  refine wp_loop_rounds 4 ?_
  rw [rounds_succ]
  go_wp2_with fail
  go_quiet (fail)
  go_wp2_with fail
  rw [rounds_succ]
  go_wp2_with fail
  go_quiet (fail)
  go_wp2_with fail
  rw [rounds_succ]
  go_wp2_with fail
  go_quiet ((go_at_call 57; first | exact Calls.quiet_of_same (zdh _ _ _ _ Hi.out) | exact zdj (zdh _ _ _ _ Hi.out)))
  go_wp2_with fail
  go_ret2
  exact ⟨rfl, by repeat (first | exact hB | apply zaa)⟩
set_option maxHeartbeats 4000000 in
theorem symbol_ne_no (s : ByteArray) (k : Nat) (w : World) (n : Int) (hn : n < 0) (h1 : 1 < s.size - k)
    (hne : (s.extract k s.size).toList.isEmpty = false) (hc : (kindOf ((s.extract k s.size)[0]'(by simp; omega)).toNat != 4) = false)
    (hx0 : ((((s.extract k s.size)[0]'(by simp; omega)).toNat : Int) == (((⟨#[60, 62, 33]⟩ : ByteArray)[0]'(by decide)).toNat : Int)) = false)
    (hx1 : ((((s.extract k s.size)[0]'(by simp; omega)).toNat : Int) == (((⟨#[60, 62, 33]⟩ : ByteArray)[1]'(by decide)).toNat : Int)) = false)
    (hx2 : ((((s.extract k s.size)[0]'(by simp; omega)).toNat : Int) == (((⟨#[60, 62, 33]⟩ : ByteArray)[2]'(by decide)).toNat : Int)) = true)
    (h33 : ((((s.extract k s.size)[0]'(by simp; omega)).toNat : Int) == 33) = true)
    (hi : Lib.indexByte [61] (((s.extract k s.size)[1]'(by simp; omega)).toNat : Int).toNat.toUInt8 = n) :
    Calls Tryz.prog 40 #[.string s, .int .i64 k] w (symPost 0 w) := by
  have hk1 : k ≤ s.size := by omega
  have hk2 : 0 < s.size - k := by omega
  have i0 : ∀ w, (Instr.index 97 (.agg #[.string ⟨#[61, 60]⟩, .string ⟨#[61, 62]⟩, .string ⟨#[61]⟩]) (.int .i64 0)).run Tryz.prog w = .ok (.string ⟨#[61, 60]⟩) w := fun _ => by kernel_rfl
  have i1 : ∀ w, (Instr.index 97 (.agg #[.string ⟨#[61, 60]⟩, .string ⟨#[61, 62]⟩, .string ⟨#[61]⟩]) (.int .i64 1)).run Tryz.prog w = .ok (.string ⟨#[61, 62]⟩) w := fun _ => by kernel_rfl
  have i2 : ∀ w, (Instr.index 97 (.agg #[.string ⟨#[61, 60]⟩, .string ⟨#[61, 62]⟩, .string ⟨#[61]⟩]) (.int .i64 2)).run Tryz.prog w = .ok (.string ⟨#[61]⟩) w := fun _ => by kernel_rfl
  have Hi := Lib.hid hi
  clear hi
  go_enter Tryz.func40, Tryz.ntmps40
  go_wp2_with fail
  refine (zc9 _ _).mono ?_
  rintro e w1 ⟨rfl, hB⟩
  go_wp2_with fail
  refine wp_loop_rounds 4 ?_
  rw [rounds_succ]
  go_wp2_with fail
  go_quiet (fail)
  go_wp2_with fail
  rw [rounds_succ]
  go_wp2_with fail
  go_quiet (fail)
  go_wp2_with fail
  rw [rounds_succ]
  go_wp2_with fail
  go_quiet ((go_at_call 57; first | exact Calls.quiet_of_same (zdh _ _ _ _ Hi.out) | exact zdj (zdh _ _ _ _ Hi.out)))
  go_wp2_with fail
  rw [rounds_succ]
  go_wp2_with fail
  go_ret2
  exact ⟨rfl, by repeat (first | exact hB | apply zaa)⟩
set_option maxHeartbeats 4000000 in
theorem symbol_other (s : ByteArray) (k : Nat) (w : World) (h1 : 1 < s.size - k)
    (hne : (s.extract k s.size).toList.isEmpty = false) (hc : (kindOf ((s.extract k s.size)[0]'(by simp; omega)).toNat != 4) = false)
    (hx0 : ((((s.extract k s.size)[0]'(by simp; omega)).toNat : Int) == (((⟨#[60, 62, 33]⟩ : ByteArray)[0]'(by decide)).toNat : Int)) = false)
    (hx1 : ((((s.extract k s.size)[0]'(by simp; omega)).toNat : Int) == (((⟨#[60, 62, 33]⟩ : ByteArray)[1]'(by decide)).toNat : Int)) = false)
    (hx2 : ((((s.extract k s.size)[0]'(by simp; omega)).toNat : Int) == (((⟨#[60, 62, 33]⟩ : ByteArray)[2]'(by decide)).toNat : Int)) = false)
    (h33 : ((((s.extract k s.size)[0]'(by simp; omega)).toNat : Int) == 33) = false) :
    Calls Tryz.prog 40 #[.string s, .int .i64 k] w (symPost 1 w) := by
  have hk1 : k ≤ s.size := by omega
  have hk2 : 0 < s.size - k := by omega
  have i0 : ∀ w, (Instr.index 97 (.agg #[.string ⟨#[61, 60]⟩, .string ⟨#[61, 62]⟩, .string ⟨#[61]⟩]) (.int .i64 0)).run Tryz.prog w = .ok (.string ⟨#[61, 60]⟩) w := fun _ => by kernel_rfl
  have i1 : ∀ w, (Instr.index 97 (.agg #[.string ⟨#[61, 60]⟩, .string ⟨#[61, 62]⟩, .string ⟨#[61]⟩]) (.int .i64 1)).run Tryz.prog w = .ok (.string ⟨#[61, 62]⟩) w := fun _ => by kernel_rfl
  have i2 : ∀ w, (Instr.index 97 (.agg #[.string ⟨#[61, 60]⟩, .string ⟨#[61, 62]⟩, .string ⟨#[61]⟩]) (.int .i64 2)).run Tryz.prog w = .ok (.string ⟨#[61]⟩) w := fun _ => by kernel_rfl
  go_enter Tryz.func40, Tryz.ntmps40
  go_wp2_with fail
  refine (zc9 _ _).mono ?_
  rintro e w1 ⟨rfl, hB⟩
  go_wp2_with fail
  refine wp_loop_rounds 4 ?_
  rw [rounds_succ]
  go_wp2_with fail
  go_quiet (fail)
  go_wp2_with fail
  rw [rounds_succ]
  go_wp2_with fail
  go_quiet (fail)
  go_wp2_with fail
  rw [rounds_succ]
  go_wp2_with fail
  go_quiet (fail)
  go_wp2_with fail
  rw [rounds_succ]
  go_wp2_with fail
  go_ret2
  exact ⟨rfl, by repeat (first | exact hB | apply zaa)⟩
end Go.Proofs.YtgmmngipnjmkfaaGreatDoor.Hand
end
section
namespace Go.Proofs.YtgmmngipnjmkfaaGreatDoor.Hand
open Go.RowKit Go.Proofs.YtgmmngipnjmkfaaGreatDoorW.PrintWords
theorem u8_cast (d : UInt8) : ((d.toNat : Int).toNat.toUInt8) = d := by
  rw [Int.toNat_natCast]; simp
theorem ix_two_yes (a b d : UInt8) (h : d = a ∨ d = b) : 0 ≤ Lib.indexByte [a, b] ((d.toNat : Int).toNat.toUInt8) := by
  rw [u8_cast]
  simp only [Lib.indexByte]
  rcases h with rfl | rfl
  · simp
  · by_cases e : a = d
    · simp [e]
    · simp [e]
theorem ix_two_no (a b d : UInt8) (h : ¬ (d = a ∨ d = b)) : Lib.indexByte [a, b] ((d.toNat : Int).toNat.toUInt8) < 0 := by
  rw [u8_cast]
  simp only [Lib.indexByte]
  have h1 : ¬ a = d := fun e => h (.inl e.symm)
  have h2 : ¬ b = d := fun e => h (.inr e.symm)
  simp [h1, h2]
theorem ix_one_yes (a d : UInt8) (h : d = a) : 0 ≤ Lib.indexByte [a] ((d.toNat : Int).toNat.toUInt8) := by
  rw [u8_cast]; subst h; simp [Lib.indexByte]
theorem ix_one_no (a d : UInt8) (h : ¬ d = a) : Lib.indexByte [a] ((d.toNat : Int).toNat.toUInt8) < 0 := by
  rw [u8_cast]
  have h1 : ¬ a = d := fun e => h e.symm
  simp [Lib.indexByte, h1]
theorem u8_eq (c : UInt8) (n : Nat) (hn : n < 256) : (c.toNat : Int) = (n : Int) ↔ c = n.toUInt8 := by
  constructor
  · intro h
    have h' : c.toNat = n := by omega
    rw [← h']; simp
  · rintro rfl
    simp; omega
theorem b0 : (((⟨#[60, 62, 33]⟩ : ByteArray)[0]'(by decide)).toNat : Int) = 60 := rfl
theorem b1 : (((⟨#[60, 62, 33]⟩ : ByteArray)[1]'(by decide)).toNat : Int) = 62 := rfl
theorem b2 : (((⟨#[60, 62, 33]⟩ : ByteArray)[2]'(by decide)).toNat : Int) = 33 := rfl
theorem beq_t {a b : Int} (h : a = b) : (a == b) = true := by simpa using h
theorem beq_f {a b : Int} (h : ¬ a = b) : (a == b) = false := by simpa using h
theorem symbol_in (s : ByteArray) (k : Nat) (w : World) (hk : k ≤ s.size) :
    Calls Tryz.prog 40 #[.string s, .int .i64 k] w (symPost (symT (s.extract k s.size)) w) := by
  have hsz : (s.extract k s.size).size = s.size - k := by simp
  by_cases e : k = s.size
  · have : symT (s.extract k s.size) = 0 := by unfold symT; rw [if_pos (by omega)]
    rw [this]; exact symbol_empty s k w e
  have hlt : k < s.size := by omega
  have hne : (s.extract k s.size).toList.isEmpty = false := by
    rw [List.isEmpty_eq_false_iff]; intro h
    have h2 : (s.extract k s.size).toList.length = 0 := by rw [h]; rfl
    have h3 : (s.extract k s.size).toList.length = (s.extract k s.size).size := by rw [ByteArray.toList_eq, zbu]
    omega
  have z0 := bt_zero (s.extract k s.size) (by omega)
  unfold symT
  rw [if_neg (show ¬ (s.extract k s.size).size = 0 by omega), z0]
  by_cases hc : kindOf ((s.extract k s.size)[0]'(by omega)).toNat = 4
  · have hcb : (kindOf ((s.extract k s.size)[0]'(by omega)).toNat != 4) = false := by rw [hc]; rfl
    rw [if_neg (by rw [hc]; simp)]
    by_cases h1 : s.size - k ≤ 1
    · rw [if_neg (fun h => absurd h.1 (by omega))]
      by_cases h33 : (((s.extract k s.size)[0]'(by omega)).toNat : Int) = 33
      · rw [if_pos h33]
        exact symbol_last s k w hlt h1 true hne hcb (beq_t h33)
      · rw [if_neg h33]
        exact symbol_last s k w hlt h1 false hne hcb (beq_f h33)
    · have h1' : 1 < s.size - k := by omega
      have z1 := bt_one (s.extract k s.size) (by omega)
      rw [z1]
      generalize hC : (s.extract k s.size)[0]'(by omega) = c at *
      generalize hD : (s.extract k s.size)[1]'(by omega) = d at *
      by_cases e60 : (c.toNat : Int) = 60
      · by_cases ed : d = 61 ∨ d = 60
        · rw [if_pos ⟨by omega, by unfold two; rw [e60]; rcases ed with rfl | rfl <;> rfl⟩]
          exact symbol_lt_yes s k w _ (ix_two_yes 61 60 d ed) h1' hne (by rw [hC]; exact hcb) (by rw [hC, b0]; exact beq_t e60) (by rw [hD])
        · have hz : two (c.toNat : Int) (d.toNat : Int) = false := by
            unfold two
            rw [e60, beq_f (show ¬ (d.toNat : Int) = 61 from fun h => ed (.inl ((u8_eq d 61 (by omega)).1 h))), beq_f (show ¬ (d.toNat : Int) = 60 from fun h => ed (.inr ((u8_eq d 60 (by omega)).1 h)))]; rfl
          rw [if_neg (by rw [hz]; simp), if_neg (by omega)]
          exact symbol_lt_no s k w _ (ix_two_no 61 60 d ed) h1' hne (by rw [hC]; exact hcb) (by rw [hC, b0]; exact beq_t e60) (by rw [hC, b1]; exact beq_f (by omega)) (by rw [hC, b2]; exact beq_f (by omega)) (by rw [hC]; exact beq_f (by omega)) (by rw [hD])
      by_cases e62 : (c.toNat : Int) = 62
      · by_cases ed : d = 61 ∨ d = 62
        · rw [if_pos ⟨by omega, by unfold two; rw [e62]; rcases ed with rfl | rfl <;> rfl⟩]
          exact symbol_gt_yes s k w _ (ix_two_yes 61 62 d ed) h1' hne (by rw [hC]; exact hcb) (by rw [hC, b0]; exact beq_f e60) (by rw [hC, b1]; exact beq_t e62) (by rw [hD])
        · have hz : two (c.toNat : Int) (d.toNat : Int) = false := by
            unfold two
            rw [e62, beq_f (show ¬ (d.toNat : Int) = 61 from fun h => ed (.inl ((u8_eq d 61 (by omega)).1 h))), beq_f (show ¬ (d.toNat : Int) = 62 from fun h => ed (.inr ((u8_eq d 62 (by omega)).1 h)))]; rfl
          rw [if_neg (by rw [hz]; simp), if_neg (by omega)]
          exact symbol_gt_no s k w _ (ix_two_no 61 62 d ed) h1' hne (by rw [hC]; exact hcb) (by rw [hC, b0]; exact beq_f e60) (by rw [hC, b1]; exact beq_t e62) (by rw [hC, b2]; exact beq_f (by omega)) (by rw [hC]; exact beq_f (by omega)) (by rw [hD])
      by_cases e33 : (c.toNat : Int) = 33
      · by_cases ed : d = 61
        · rw [if_pos ⟨by omega, by unfold two; rw [e33, ed]; rfl⟩]
          exact symbol_ne_yes s k w _ (ix_one_yes 61 d ed) h1' hne (by rw [hC]; exact hcb) (by rw [hC, b0]; exact beq_f e60) (by rw [hC, b1]; exact beq_f e62) (by rw [hC, b2]; exact beq_t e33) (by rw [hD])
        · have hz : two (c.toNat : Int) (d.toNat : Int) = false := by
            unfold two
            rw [e33, beq_f (show ¬ (d.toNat : Int) = 61 from fun h => ed ((u8_eq d 61 (by omega)).1 h))]; rfl
          rw [if_neg (by rw [hz]; simp), if_pos e33]
          exact symbol_ne_no s k w _ (ix_one_no 61 d ed) h1' hne (by rw [hC]; exact hcb) (by rw [hC, b0]; exact beq_f e60) (by rw [hC, b1]; exact beq_f e62) (by rw [hC, b2]; exact beq_t e33) (by rw [hC]; exact beq_t e33) (by rw [hD])
      · have hz : two (c.toNat : Int) (d.toNat : Int) = false := by
          unfold two
          rw [beq_f e60, beq_f e62, beq_f e33]; rfl
        rw [if_neg (by rw [hz]; simp), if_neg e33]
        exact symbol_other s k w h1' hne (by rw [hC]; exact hcb) (by rw [hC, b0]; exact beq_f e60) (by rw [hC, b1]; exact beq_f e62) (by rw [hC, b2]; exact beq_f e33) (by rw [hC]; exact beq_f e33)
  · rw [if_pos hc]
    exact symbol_none s k w hlt hne (by rw [bne_iff_ne]; exact hc)
theorem symbol_out (s : ByteArray) (a : Int) (w : World) (h : a < 0 ∨ (s.size : Int) < a) :
    Calls Tryz.prog 40 #[.string s, .int .i64 a] w fun e w' => e = .returned (.tuple #[.int .i64 0, .int .i64 2]) ∧ Below w.heap.size w w' := by
  by_cases h0 : a < 0
  · clear h
    go_enter Tryz.func40, Tryz.ntmps40
    go_wp2_with fail
    go_ret2
    exact ⟨rfl, Below.refl _ _⟩
  · have h1 : (s.size : Int) < a := by omega
    have h2 : ¬ a ≤ (s.size : Int) := by omega
    clear h
    go_enter Tryz.func40, Tryz.ntmps40
    go_wp2_with fail
    go_ret2
    exact ⟨rfl, Below.refl _ _⟩
end Go.Proofs.YtgmmngipnjmkfaaGreatDoor.Hand
end
section
namespace Go.Proofs.YtgmmngipnjmkfaaGreatDoor.Hand
open Go.RowKit Go.Shelf
attribute [local go_sem] Oper.semAt_some
def grp0 : ByteArray := ⟨#[115, 101, 108, 101, 99, 116, 32, 102, 114, 111, 109, 32, 119, 104, 101, 114, 101, 32, 119, 105, 110, 100, 111, 119, 32, 98, 121, 32, 107, 101, 121, 32, 108, 97, 116, 101, 32, 100, 114, 111, 112, 32, 115, 105, 100, 101]⟩
def grp1 : ByteArray := ⟨#[99, 111, 117, 110, 116, 32, 115, 117, 109, 32, 109, 105, 110, 32, 109, 97, 120, 32, 97, 110, 100, 32, 111, 114, 32, 110, 111, 116]⟩
def grp2 : ByteArray := ⟨#[117, 110, 105, 111, 110, 32, 106, 111, 105, 110, 32, 116, 117, 109, 98, 108, 101, 32, 115, 108, 105, 100, 101, 32, 101, 118, 101, 114, 121, 32, 115, 101, 115, 115, 105, 111, 110]⟩
def grp3 : ByteArray := ⟨#[97, 32, 98, 32, 99, 32, 100, 32, 107, 32, 116, 32, 118]⟩
theorem asc0 : ∀ i (h : i < grp0.size), (grp0[i]'h).toNat < 128 := by decide
theorem asc1 : ∀ i (h : i < grp1.size), (grp1[i]'h).toNat < 128 := by decide
theorem asc2 : ∀ i (h : i < grp2.size), (grp2[i]'h).toNat < 128 := by decide
theorem asc3 : ∀ i (h : i < grp3.size), (grp3[i]'h).toNat < 128 := by decide
def marksOf (Ds : List Nat) : List Deferred := Ds.map fun D => { target := .collected D, args := #[] }
structure Marks (N : Nat) (Ds : List Nat) (W : World) : Prop where
  at_ : ∀ D ∈ Ds, W.heap[D]? = some (.deferred (some []))
  ge : ∀ D ∈ Ds, N ≤ D
  nd : Ds.Nodup
theorem zcv {fn : Func} {tmps : Array Value} {R : Ending → World → Prop} {v : Value} {w : World} (hres : ∀ W, (results fn tmps).run Tryz.prog W = .ok v W)
    (hR : ∀ W, Below w.heap.size w W → R (.returned v) W) : ∀ (Ds : List Nat) (W : World), Marks w.heap.size Ds W → Below w.heap.size w W → LeavesInM Fence.wide 5 Tryz.prog fn tmps R (marksOf Ds) .returning W
  | [], W, _, hb => ⟨v, hres W, hR W hb⟩
  | D :: Ds, W, hm, hb => by
    have hD := hm.at_ D (List.mem_cons_self ..)
    have hge := hm.ge D (List.mem_cons_self ..)
    have hnd' := List.nodup_cons.1 hm.nd
    refine ⟨by simp, .inl ⟨D, _, rfl, run_takeDeferred hD, ?_⟩⟩
    refine zcv hres hR Ds _ ⟨fun D' h' => ?_, fun D' h' => hm.ge D' (List.mem_cons_of_mem _ h'), hnd'.2⟩ ?_
    · have hne : D' ≠ D := fun e => hnd'.1 (e ▸ h')
      exact (World.putObj_heap_other hne).trans (hm.at_ D' (List.mem_cons_of_mem _ h'))
    · exact hb.grown (grownBy_putObj' W D (.deferred none)) hb.size (fun k e => by cases e; exact hge)
structure St (s : ByteArray) (w : World) (b : Bool) (Ds : List Nat) (W : World) : Prop where
  box : W.cell? ⟨w.heap.size, 0, none⟩ = some (.string s)
  fnd : W.cell? ⟨w.heap.size + 1, 0, none⟩ = some (.bool b)
  frz : W.frozen? ⟨w.heap.size + 1, 0, none⟩ = false
  bel : Below w.heap.size w W
  mrk : Marks w.heap.size Ds W
theorem St.own {β : Type} {s : ByteArray} {w : World} {b : Bool} {Ds : List Nat} {B : Nat} (hB : w.heap.size ≤ B) (hD : ∀ D ∈ Ds, D < B) : OwnFrom B (fun (_ : β) W => St s w b Ds W) := by
  intro _ W W' row hs hg hr
  refine ⟨cell_kept hs.box hg (fun r e => (hr r e).2), cell_kept hs.fnd hg (fun r e => (hr r e).2), (frozen_kept hs.fnd hg (fun r e => (hr r e).2)).trans hs.frz, ?_, ?_⟩
  · exact hs.bel.grown hg hs.bel.size (fun k e => Nat.le_trans hB (hr k e).1)
  · refine ⟨fun D h => ?_, hs.mrk.ge, hs.mrk.nd⟩
    have h1 := hs.mrk.at_ D h
    have h2 := (Array.getElem?_eq_some_iff.1 h1).1
    exact (hg.block D h2 (fun e => by have := (hr D e.symm).1; have := hD D h; omega)).trans h1
theorem St.mark {s : ByteArray} {w : World} {b : Bool} {Ds : List Nat} {W : World} {D : Nat} (h : St s w b Ds W) (hD : W.heap[D]? = some (.deferred (some []))) (hge : w.heap.size ≤ D) (hnew : D ∉ Ds) : St s w b (D :: Ds) W :=
  ⟨h.box, h.fnd, h.frz, h.bel, ⟨fun D' h' => (List.mem_cons.1 h').elim (fun e => e ▸ hD) (h.mrk.at_ D'), fun D' h' => (List.mem_cons.1 h').elim (fun e => e ▸ hge) (h.mrk.ge D'), List.nodup_cons.2 ⟨hnew, h.mrk.nd⟩⟩⟩
theorem St.set {s : ByteArray} {w : World} {b : Bool} {Ds : List Nat} {W : World} (h : St s w b Ds W) : St s w true Ds (W.setCell ⟨w.heap.size + 1, 0, none⟩ (.bool true)) := by
  refine ⟨?_, World.cell?_setCell_same' _ _ _ (by rw [h.fnd]; rfl), by rw [World.frozen?_setCell]; exact h.frz, h.bel.setCell (p := ⟨w.heap.size + 1, 0, none⟩) (Nat.le_succ _) _, ⟨fun D hD => ?_, h.mrk.ge, h.mrk.nd⟩⟩
  · exact (World.cell?_setCell_other _ _ _ _ (by intro e; have := congrArg Addr.block e; simp at this)).trans h.box
  · exact (KeepsOthers.setCell W ⟨w.heap.size + 1, 0, none⟩ (.bool true)).same D _ (h.mrk.at_ D hD) rfl
theorem St.more {s : ByteArray} {w : World} {b : Bool} {Ds : List Nat} {W : World} (h : St s w b Ds W) (o : Obj) : St s w b Ds (W.alloc o) :=
  St.own (β := Unit) (B := W.heap.size) h.bel.size (fun D hD => (Array.getElem?_eq_some_iff.1 (h.mrk.at_ D hD)).1) () W _ none h (World.grownBy_alloc W o none) (fun r e => by cases e)
def wAssign : Code := .region 6 #[{ dst := some 6, op := .assign (.tmp 13), type := 9, pos := "chars.go:54", after := #[], guard := none }] false
def wBody : Code := .block 3 (.seq (.region 7 #[{ dst := some 14, op := .move (.tmp 6), type := 9, pos := "chars.go:55", after := #[], guard := none },
    { dst := some 15, op := .load 9 (.tmp 1), type := 9, pos := "chars.go:55", after := #[], guard := none },
    { dst := some 16, op := .binOp .eql 9 (.tmp 14) (.tmp 15) 9, type := 4, pos := "chars.go:55", after := #[{ on := 0, ground := .data }, { on := 1, ground := .data }], guard := none }] false)
  (.cond (.tmp 16) (.seq (.region 8 #[{ dst := none, op := .store 4 (.tmp 3) (.const (.bool true)), type := 0, pos := "chars.go:56", after := #[], guard := none }] false) (.exit 0)) .skip))
theorem beq_str {x s : ByteArray} (h : x = s) : (x.toList == s.toList) = true := by subst h; simp
theorem bne_str {x s : ByteArray} (h : ¬ x = s) : (x.toList == s.toList) = false := by
  rw [beq_eq_false_iff_ne]; intro e
  rw [ByteArray.toList_eq, ByteArray.toList_eq] at e
  exact h (by cases x; cases s; simp at e; simpa using e)
set_option maxHeartbeats 4000000 in
set_option maxRecDepth 100000 in
theorem group_step (s gs : ByteArray) (w W1 : World) (Bs : Nat) (hz : gs.size ≤ 1000) (hasc : ∀ i (h : i < gs.size), (gs[i]'h).toNat < 128) (hBs : Bs < W1.heap.size) (hG : 0 < w.heap.size)
    (hc : W1.cell? ⟨Bs, 0, none⟩ = some (.string gs)) (hT : Spaces W1) (Ds : List Nat) (hS : St s w false Ds W1) (t0 t2 t4 t5 t6 t7 t8 t9 t10 t11 t13 t14 t15 t16 t17 t18 : Value) (Q : Exit → Act → World → Prop)
    (hdone : ∀ D W, W1.heap.size ≤ D → s ∉ flds gs 0 none → St s w false (D :: Ds) W → Q .normal { tmps := #[t0, .pointer (some ⟨w.heap.size, 0, none⟩), t2, .pointer (some ⟨w.heap.size + 1, 0, none⟩), t4, t5, t6, t7, t8, t9, t10, t11, .func (.func 79) #[] #[.pointer (some ⟨Bs, 0, none⟩)], t13, t14, t15, t16, t17, t18], defers := marksOf (D :: Ds) } W)
    (hstop : ∀ D W, W1.heap.size ≤ D → s ∈ flds gs 0 none → St s w true (D :: Ds) W → Q (.exit 0) { tmps := #[t0, .pointer (some ⟨w.heap.size, 0, none⟩), t2, .pointer (some ⟨w.heap.size + 1, 0, none⟩), t4, t5, t6, t7, t8, t9, t10, t11, .func (.func 79) #[] #[.pointer (some ⟨Bs, 0, none⟩)], t13, t14, t15, t16, t17, t18], defers := marksOf (D :: Ds) } W) :
    (Code.rangeFunc (.tmp 12) #[13] wAssign wBody).wp Tryz.prog Q { tmps := #[t0, .pointer (some ⟨w.heap.size, 0, none⟩), t2, .pointer (some ⟨w.heap.size + 1, 0, none⟩), t4, t5, t6, t7, t8, t9, t10, t11, .func (.func 79) #[] #[.pointer (some ⟨Bs, 0, none⟩)], t13, t14, t15, t16, t17, t18], defers := marksOf Ds } W1 := by
  have hGW : 0 < W1.heap.size := Nat.lt_of_lt_of_le hG hS.bel.size
  have hDs : ∀ D ∈ Ds, D < W1.heap.size := fun D hD => (Array.getElem?_eq_some_iff.1 (hS.mrk.at_ D hD)).1
  refine wpIn_wide.1 (wpIn_rangeFunc_ownG (F := Fence.wide) (n := 5) rfl (by decide) (gf := 79) (lb := #[.pointer (some ⟨Bs, 0, none⟩)]) rfl trivial (enters_of Tryz.func79 (by kernel_rfl) rfl)
    (fields_stops Fence.wide 4 trivial rfl (by decide) Bs W1.heap.size gs hz hasc W1 hBs (Nat.le_refl _) hGW hc hT) belowK_t (belowK_b (Nat.le_refl _)) (Below.refl _ _) (fun _ => rfl)
    (fun pre W => s ∉ pre ∧ St s w false Ds W)
    (fun c pre W => (c = .exit 0 ∧ s ∈ pre) ∧ St s w true Ds W)
    (fun a W W' row hs hg hr => ⟨hs.1, St.own (β := Unit) hS.bel.size hDs () W W' row hs.2 hg hr⟩)
    (fun c a W W' row hs hg hr => ⟨hs.1, St.own (β := Unit) hS.bel.size hDs () W W' row hs.2 hg hr⟩)
    ⟨by simp, hS⟩
    (fun x => { tmps := #[t0, .pointer (some ⟨w.heap.size, 0, none⟩), t2, .pointer (some ⟨w.heap.size + 1, 0, none⟩), t4, t5, .string x, t7, t8, t9, t10, t11, .func (.func 79) #[] #[.pointer (some ⟨Bs, 0, none⟩)], .string x, t14, t15, t16, t17, t18], defers := [] }) ?assign ?body ?done ?stop)
  case assign =>
    intro l x W K hK
    unfold wAssign
    gi_wp2
    exact hK
  case body =>
    rintro l pre x W ⟨hp, hS'⟩ _
    have hbox := hS'.box
    have hfnd := hS'.fnd
    have hfrz := hS'.frz
    unfold wBody
    by_cases hx : x = s
    · have hb := beq_str hx
      have hst := hS'.set
      have Hx := Lib.hid hx
      clear hx hS'
      have Hst := Lib.hid hst
      clear hst
      gi_wp2
      exact ⟨(KeepsOthers.setCell _ _ _).from _, ⟨rfl, by rw [Hx.out]; simp⟩, Hst.out⟩
    · have hb := bne_str hx
      have Hx := Lib.hid hx
      clear hx
      have HS := Lib.hid hS'
      clear hS'
      gi_wp2
      exact ⟨KeepsFrom.refl _ _, Below.refl _ _, by simp only [List.mem_append, List.mem_singleton, not_or]; exact ⟨hp, fun e => Hx.out e.symm⟩, HS.out⟩
  case done =>
    rintro D xs W hD rfl ⟨hp, hS'⟩ hK
    exact hdone D W hD hp (hS'.mark hK (Nat.le_trans hS.bel.size hD) (fun h => by have := hDs D h; omega))
  case stop =>
    rintro D c pre W hD hpre ⟨⟨rfl, hin⟩, hS'⟩ hK
    exact wpIn_wide.2 (wp_exit (hstop D W hD (hpre.subset hin) (hS'.mark hK (Nat.le_trans hS.bel.size hD) (fun h => by have := hDs D h; omega))))
end Go.Proofs.YtgmmngipnjmkfaaGreatDoor.Hand
end
section
namespace Go.Proofs.YtgmmngipnjmkfaaGreatDoor.Hand
open Go.RowKit Go.Shelf
attribute [local go_sem] Oper.semAt_some
def words0 : List ByteArray := [⟨#[115, 101, 108, 101, 99, 116]⟩, ⟨#[102, 114, 111, 109]⟩, ⟨#[119, 104, 101, 114, 101]⟩, ⟨#[119, 105, 110, 100, 111, 119]⟩, ⟨#[98, 121]⟩, ⟨#[107, 101, 121]⟩, ⟨#[108, 97, 116, 101]⟩, ⟨#[100, 114, 111, 112]⟩, ⟨#[115, 105, 100, 101]⟩]
theorem flds0 : flds grp0 0 none = words0 := by kernel_rfl
def words1 : List ByteArray := [⟨#[99, 111, 117, 110, 116]⟩, ⟨#[115, 117, 109]⟩, ⟨#[109, 105, 110]⟩, ⟨#[109, 97, 120]⟩, ⟨#[97, 110, 100]⟩, ⟨#[111, 114]⟩, ⟨#[110, 111, 116]⟩]
theorem flds1 : flds grp1 0 none = words1 := by kernel_rfl
def words2 : List ByteArray := [⟨#[117, 110, 105, 111, 110]⟩, ⟨#[106, 111, 105, 110]⟩, ⟨#[116, 117, 109, 98, 108, 101]⟩, ⟨#[115, 108, 105, 100, 101]⟩, ⟨#[101, 118, 101, 114, 121]⟩, ⟨#[115, 101, 115, 115, 105, 111, 110]⟩]
theorem flds2 : flds grp2 0 none = words2 := by kernel_rfl
def words3 : List ByteArray := [⟨#[97]⟩, ⟨#[98]⟩, ⟨#[99]⟩, ⟨#[100]⟩, ⟨#[107]⟩, ⟨#[116]⟩, ⟨#[118]⟩]
theorem flds3 : flds grp3 0 none = words3 := by kernel_rfl
def wordList : List ByteArray := words0 ++ (words1 ++ (words2 ++ words3))
def isWord (s : ByteArray) : Bool := wordList.any fun x => x.data.toList == s.data.toList
theorem heap_last (W : World) (s : ByteArray) : (W.alloc (.cells #[.string s] 9)).cell? ⟨W.heap.size, 0, none⟩ = some (.string s) := (Boxed.new W 9 (.string s)).cell
theorem isWord_iff {s : ByteArray} : isWord s = true ↔ s ∈ wordList := by
  unfold isWord
  rw [List.any_eq_true]
  constructor
  · rintro ⟨x, hx, h⟩
    rw [beq_iff_eq] at h
    have e : x = s := by cases x; cases s; simpa using h
    exact e ▸ hx
  · exact fun h => ⟨s, h, by simp⟩
theorem word_yes {s : ByteArray} (h : s ∈ words0 ∨ s ∈ words1 ∨ s ∈ words2 ∨ s ∈ words3) : isWord s = true := by
  rw [isWord_iff]; unfold wordList; simp only [List.mem_append]; exact h
theorem word_no {s : ByteArray} (h0 : s ∉ words0) (h1 : s ∉ words1) (h2 : s ∉ words2) (h3 : s ∉ words3) : isWord s = false := by
  rw [Bool.eq_false_iff, ne_eq, isWord_iff]; unfold wordList; simp only [List.mem_append, not_or]; exact ⟨h0, h1, h2, h3⟩
set_option maxHeartbeats 8000000 in
set_option maxRecDepth 100000 in
theorem word_any (s : ByteArray) (w : World) (hT : Spaces w) (hG : 0 < w.heap.size) :
    Calls Tryz.prog 42 #[.string s] w fun e w' => e = .returned (.bool (isWord s)) ∧ Below w.heap.size w w' := by
  refine (callsIn_wide (n := 5)).1 (callsIn_of_wp_marks Tryz.func42 rfl trivial (wpIn_wide.2 ?_) rfl)
  simp only [Tryz.ntmps42, List.size_toArray, List.length_cons, List.length_nil, Nat.reduceAdd, Nat.reduceSub, Array.replicate_succ, Array.replicate_zero, List.push_toArray, List.append_toArray, List.nil_append, List.cons_append]
  have i0 : ∀ w, (Instr.index 104 (.agg #[.string ⟨#[115, 101, 108, 101, 99, 116, 32, 102, 114, 111, 109, 32, 119, 104, 101, 114, 101, 32, 119, 105, 110, 100, 111, 119, 32, 98, 121, 32, 107, 101, 121, 32, 108, 97, 116, 101, 32, 100, 114, 111, 112, 32, 115, 105, 100, 101]⟩, .string ⟨#[99, 111, 117, 110, 116, 32, 115, 117, 109, 32, 109, 105, 110, 32, 109, 97, 120, 32, 97, 110, 100, 32, 111, 114, 32, 110, 111, 116]⟩, .string ⟨#[117, 110, 105, 111, 110, 32, 106, 111, 105, 110, 32, 116, 117, 109, 98, 108, 101, 32, 115, 108, 105, 100, 101, 32, 101, 118, 101, 114, 121, 32, 115, 101, 115, 115, 105, 111, 110]⟩, .string ⟨#[97, 32, 98, 32, 99, 32, 100, 32, 107, 32, 116, 32, 118]⟩]) (.int .i64 0)).run Tryz.prog w = .ok (.string grp0) w := fun _ => by kernel_rfl
  have i1 : ∀ w, (Instr.index 104 (.agg #[.string ⟨#[115, 101, 108, 101, 99, 116, 32, 102, 114, 111, 109, 32, 119, 104, 101, 114, 101, 32, 119, 105, 110, 100, 111, 119, 32, 98, 121, 32, 107, 101, 121, 32, 108, 97, 116, 101, 32, 100, 114, 111, 112, 32, 115, 105, 100, 101]⟩, .string ⟨#[99, 111, 117, 110, 116, 32, 115, 117, 109, 32, 109, 105, 110, 32, 109, 97, 120, 32, 97, 110, 100, 32, 111, 114, 32, 110, 111, 116]⟩, .string ⟨#[117, 110, 105, 111, 110, 32, 106, 111, 105, 110, 32, 116, 117, 109, 98, 108, 101, 32, 115, 108, 105, 100, 101, 32, 101, 118, 101, 114, 121, 32, 115, 101, 115, 115, 105, 111, 110]⟩, .string ⟨#[97, 32, 98, 32, 99, 32, 100, 32, 107, 32, 116, 32, 118]⟩]) (.int .i64 1)).run Tryz.prog w = .ok (.string grp1) w := fun _ => by kernel_rfl
  have i2 : ∀ w, (Instr.index 104 (.agg #[.string ⟨#[115, 101, 108, 101, 99, 116, 32, 102, 114, 111, 109, 32, 119, 104, 101, 114, 101, 32, 119, 105, 110, 100, 111, 119, 32, 98, 121, 32, 107, 101, 121, 32, 108, 97, 116, 101, 32, 100, 114, 111, 112, 32, 115, 105, 100, 101]⟩, .string ⟨#[99, 111, 117, 110, 116, 32, 115, 117, 109, 32, 109, 105, 110, 32, 109, 97, 120, 32, 97, 110, 100, 32, 111, 114, 32, 110, 111, 116]⟩, .string ⟨#[117, 110, 105, 111, 110, 32, 106, 111, 105, 110, 32, 116, 117, 109, 98, 108, 101, 32, 115, 108, 105, 100, 101, 32, 101, 118, 101, 114, 121, 32, 115, 101, 115, 115, 105, 111, 110]⟩, .string ⟨#[97, 32, 98, 32, 99, 32, 100, 32, 107, 32, 116, 32, 118]⟩]) (.int .i64 2)).run Tryz.prog w = .ok (.string grp2) w := fun _ => by kernel_rfl
  have i3 : ∀ w, (Instr.index 104 (.agg #[.string ⟨#[115, 101, 108, 101, 99, 116, 32, 102, 114, 111, 109, 32, 119, 104, 101, 114, 101, 32, 119, 105, 110, 100, 111, 119, 32, 98, 121, 32, 107, 101, 121, 32, 108, 97, 116, 101, 32, 100, 114, 111, 112, 32, 115, 105, 100, 101]⟩, .string ⟨#[99, 111, 117, 110, 116, 32, 115, 117, 109, 32, 109, 105, 110, 32, 109, 97, 120, 32, 97, 110, 100, 32, 111, 114, 32, 110, 111, 116]⟩, .string ⟨#[117, 110, 105, 111, 110, 32, 106, 111, 105, 110, 32, 116, 117, 109, 98, 108, 101, 32, 115, 108, 105, 100, 101, 32, 101, 118, 101, 114, 121, 32, 115, 101, 115, 115, 105, 111, 110]⟩, .string ⟨#[97, 32, 98, 32, 99, 32, 100, 32, 107, 32, 116, 32, 118]⟩]) (.int .i64 3)).run Tryz.prog w = .ok (.string grp3) w := fun _ => by kernel_rfl
  have hTW : ∀ W, Below w.heap.size w W → Spaces W := fun W h => hT.below h hG
  have HT := Lib.hid hTW
  clear hTW hT
  have hres : ∀ (b : Bool) (ts : Array Value), ts[2]? = some (.bool b) → ∀ W, (results Tryz.f42 ts).run Tryz.prog W = .ok (.bool b) W := by
    intro b ts h W
    obtain ⟨hlt, he⟩ := Array.getElem?_eq_some_iff.1 h
    exact results_tmp rfl _ _ _ |>.trans (by simp only [Array.getD]; rw [dif_pos hlt]; exact congrArg (fun v => Result.ok v W) he)
  go_wp2_with fail
  go_step3
  go_wp2_with fail
  go_step3
  go_wp2_with fail
  have S0 : St s w false [] ((w.alloc (.cells #[.string s] 9)).alloc (.cells #[.bool false] 4)) := by
    have b1 := Boxed.new w 9 (.string s)
    have b2 := Boxed.new (w.alloc (.cells #[.string s] 9)) 4 (.bool false)
    rw [World.size_alloc] at b2
    exact ⟨(b1.alloc _).cell, b2.cell, b2.frozen, ((Below.refl _ w).alloc (Nat.le_refl _) _).alloc (by simp) _, ⟨by simp, by simp, by simp⟩⟩
  refine wp_loop_rounds 5 ?_
  rw [rounds_succ]
  go_wp2_with fail
  refine (callsIn_wide.1 (zdr Fence.wide 5 trivial rfl grp0 _)).mono ?_
  rintro e w' ⟨rfl, rfl⟩
  go_wp2_with fail
  have S0' := S0.more (.cells #[.string grp0] 9)
  refine group_step s grp0 w _ (w.heap.size + 1 + 1) (by decide) asc0 (by simp) hG (by rw [show w.heap.size + 1 + 1 = ((w.alloc (.cells #[.string s] 9)).alloc (.cells #[.bool false] 4)).heap.size by simp]; exact heap_last _ _) (HT.out _ S0'.bel) [] S0' _ _ _ _ _ _ _ _ _ _ _ _ _ _ _ _ _ ?done0 ?stop0
  case stop0 =>
    intro D1 W1 hD1 hin S1
    rw [flds0] at hin
    have hw := word_yes (.inl hin)
    have Hw := Lib.hid hw
    have hfnd := S1.fnd
    clear hw
    go_wp2_with fail
    exact zcv (hres true _ rfl) (fun W h => ⟨by rw [Hw.out], h⟩) [D1] _ S1.mrk S1.bel
  case done0 =>
  intro D1 W1 hD1 hn0 S1
  rw [flds0] at hn0
  have Hn0 := Lib.hid hn0
  clear hn0
  go_wp2_with fail
  rw [rounds_succ]
  go_wp2_with fail
  refine (callsIn_wide.1 (zdr Fence.wide 5 trivial rfl grp1 _)).mono ?_
  rintro e w' ⟨rfl, rfl⟩
  go_wp2_with fail
  have S1' := S1.more (.cells #[.string grp1] 9)
  refine group_step s grp1 w _ W1.heap.size (by decide) asc1 (by simp) hG (heap_last _ _) (HT.out _ S1'.bel) [D1] S1' _ _ _ _ _ _ _ _ _ _ _ _ _ _ _ _ _ ?done1 ?stop1
  case stop1 =>
    intro D2 W2 hD2 hin S2
    rw [flds1] at hin
    have hw := word_yes (.inr (.inl hin))
    have Hw := Lib.hid hw
    have hfnd := S2.fnd
    clear hw
    go_wp2_with fail
    exact zcv (hres true _ rfl) (fun W h => ⟨by rw [Hw.out], h⟩) [D2, D1] _ S2.mrk S2.bel
  case done1 =>
  intro D2 W2 hD2 hn1 S2
  rw [flds1] at hn1
  have Hn1 := Lib.hid hn1
  clear hn1
  go_wp2_with fail
  rw [rounds_succ]
  go_wp2_with fail
  refine (callsIn_wide.1 (zdr Fence.wide 5 trivial rfl grp2 _)).mono ?_
  rintro e w' ⟨rfl, rfl⟩
  go_wp2_with fail
  have S2' := S2.more (.cells #[.string grp2] 9)
  refine group_step s grp2 w _ W2.heap.size (by decide) asc2 (by simp) hG (heap_last _ _) (HT.out _ S2'.bel) [D2, D1] S2' _ _ _ _ _ _ _ _ _ _ _ _ _ _ _ _ _ ?done2 ?stop2
  case stop2 =>
    intro D3 W3 hD3 hin S3
    rw [flds2] at hin
    have hw := word_yes (.inr (.inr (.inl hin)))
    have Hw := Lib.hid hw
    have hfnd := S3.fnd
    clear hw
    go_wp2_with fail
    exact zcv (hres true _ rfl) (fun W h => ⟨by rw [Hw.out], h⟩) [D3, D2, D1] _ S3.mrk S3.bel
  case done2 =>
  intro D3 W3 hD3 hn2 S3
  rw [flds2] at hn2
  have Hn2 := Lib.hid hn2
  clear hn2
  go_wp2_with fail
  rw [rounds_succ]
  go_wp2_with fail
  refine (callsIn_wide.1 (zdr Fence.wide 5 trivial rfl grp3 _)).mono ?_
  rintro e w' ⟨rfl, rfl⟩
  go_wp2_with fail
  have S3' := S3.more (.cells #[.string grp3] 9)
  refine group_step s grp3 w _ W3.heap.size (by decide) asc3 (by simp) hG (heap_last _ _) (HT.out _ S3'.bel) [D3, D2, D1] S3' _ _ _ _ _ _ _ _ _ _ _ _ _ _ _ _ _ ?done3 ?stop3
  case stop3 =>
    intro D4 W4 hD4 hin S4
    rw [flds3] at hin
    have hw := word_yes (.inr (.inr (.inr hin)))
    have Hw := Lib.hid hw
    have hfnd := S4.fnd
    clear hw
    go_wp2_with fail
    exact zcv (hres true _ rfl) (fun W h => ⟨by rw [Hw.out], h⟩) [D4, D3, D2, D1] _ S4.mrk S4.bel
  case done3 =>
  intro D4 W4 hD4 hn3 S4
  rw [flds3] at hn3
  have hw := word_no Hn0.out Hn1.out Hn2.out hn3
  have Hw := Lib.hid hw
  have hfnd := S4.fnd
  clear hw hn3
  go_wp2_with fail
  rw [rounds_succ]
  go_wp2_with fail
  exact zcv (hres false _ rfl) (fun W h => ⟨by rw [Hw.out], h⟩) [D4, D3, D2, D1] _ S4.mrk S4.bel
end Go.Proofs.YtgmmngipnjmkfaaGreatDoor.Hand
end
section
namespace Go.Proofs.YtgmmngipnjmkfaaGreatDoor.PureL
open Go.RowKit Go.Proofs.YtgmmngipnjmkfaaGreatDoor.Hand Go.Proofs.YtgmmngipnjmkfaaGreatDoorW.PrintWords
def symL : List UInt8 → Int
  | [] => 0
  | [a] => if kindOf a.toNat ≠ 4 then 0 else if (a.toNat : Int) = 33 then 0 else 1
  | a :: b :: _ => if kindOf a.toNat ≠ 4 then 0 else if two a.toNat b.toNat = true then 2 else if (a.toNat : Int) = 33 then 0 else 1
theorem bt_list (t : ByteArray) (i : Nat) (a : UInt8) (h : t.data.toList[i]? = some a) : bt t (i : Int) = a.toNat := by
  rw [Array.getElem?_toList] at h
  obtain ⟨hlt, he⟩ := Array.getElem?_eq_some_iff.1 h
  unfold bt
  rw [Int.toNat_natCast, dif_pos (show i < t.size from hlt), show t[i]'hlt = a from he]
theorem symT_L (t : ByteArray) : symT t = symL t.data.toList := by
  unfold symT
  have hs : t.size = t.data.toList.length := by rw [Array.length_toList]; rfl
  cases ht : t.data.toList with
  | nil => rw [if_pos (by rw [hs, ht]; rfl)]; rfl
  | cons a r =>
    rw [if_neg (by rw [hs, ht]; simp)]
    have h0 : bt t 0 = a.toNat := bt_list t 0 a (by rw [ht]; rfl)
    rw [h0]
    cases r with
    | nil =>
      simp only [symL]
      have hn : ¬ (1 < t.size ∧ two (a.toNat : Int) (bt t 1) = true) := fun h => absurd h.1 (by rw [hs, ht]; simp)
      rw [if_neg hn]
    | cons b r =>
      have h1 : bt t 1 = b.toNat := bt_list t 1 b (by rw [ht]; rfl)
      rw [h1]
      simp only [symL]
      have hn : (1 < t.size ∧ two (a.toNat : Int) (b.toNat : Int) = true) ↔ two (a.toNat : Int) (b.toNat : Int) = true := ⟨fun h => h.2, fun h => ⟨by rw [hs, ht]; simp, h⟩⟩
      simp only [hn]
theorem two_kind {c d : Int} (h : two c d = true) : kindOf d = 4 := by
  unfold two at h
  have : d = 61 ∨ d = 60 ∨ d = 62 := by
    simp only [Bool.or_eq_true, Bool.and_eq_true, beq_iff_eq] at h
    omega
  rcases this with rfl | rfl | rfl <;> rfl
theorem symL_cases (a : UInt8) (r : List UInt8) : (symL (a :: r) = 0 ∧ (kindOf a.toNat ≠ 4 ∨ (a.toNat : Int) = 33)) ∨ (symL (a :: r) = 1 ∧ kindOf a.toNat = 4 ∧ symL [a] = 1 ∧ ∀ b l, r = b :: l → symL [a, b] = 1) ∨
    (∃ b l, r = b :: l ∧ symL (a :: r) = 2 ∧ kindOf a.toNat = 4 ∧ kindOf b.toNat = 4 ∧ ∀ m, symL (a :: b :: m) = 2) := by
  by_cases hk : kindOf a.toNat = 4
  · cases r with
    | nil =>
      by_cases h33 : (a.toNat : Int) = 33
      · left; simp only [symL]; rw [if_neg (by rw [hk]; simp), if_pos h33]; exact ⟨rfl, .inr h33⟩
      · right; left; simp only [symL]; rw [if_neg (by rw [hk]; simp), if_neg h33]; exact ⟨rfl, hk, rfl, fun b l h => by cases h⟩
    | cons b l =>
      by_cases ht : two a.toNat b.toNat = true
      · right; right
        refine ⟨b, l, rfl, ?_, hk, two_kind ht, fun m => ?_⟩ <;> (simp only [symL]; rw [if_neg (by rw [hk]; simp), if_pos ht])
      · by_cases h33 : (a.toNat : Int) = 33
        · left; simp only [symL]; rw [if_neg (by rw [hk]; simp), if_neg ht, if_pos h33]; exact ⟨rfl, .inr h33⟩
        · right; left
          have e : ∀ m, symL (a :: b :: m) = 1 := fun m => by simp only [symL]; rw [if_neg (by rw [hk]; simp), if_neg ht, if_neg h33]
          refine ⟨e l, hk, ?_, fun b' l' h => by cases h; exact e []⟩
          simp only [symL]; rw [if_neg (by rw [hk]; simp), if_neg h33]
  · left
    refine ⟨?_, .inl hk⟩
    cases r <;> (simp only [symL]; rw [if_pos hk])
end Go.Proofs.YtgmmngipnjmkfaaGreatDoor.PureL
end
section
namespace Go.Proofs.YtgmmngipnjmkfaaGreatDoor.Q
open Go.Proofs.YtgmmngipnjmkfaaGreatDoor.Hand
open Go.RowKit Go.Proofs.YtgmmngipnjmkfaaGreatDoorW.PrintWords Go.Proofs.YtgmmngipnjmkfaaGreatDoorW.PrintLast Go.Proofs.YtgmmngipnjmkfaaGreatDoorW.PrintMore
attribute [local go_sem] zda zdb zdm zdn zcq zcr zdc zdd
set_option linter.unusedVariables false
set_option linter.unusedSimpArgs false
def errW : Option Int → Value
  | none => .nilIface
  | some c => .iface 0 (.int .i64 c)
theorem zah : errW none = .nilIface := rfl
theorem zai (c : Int) : errW (some c) = .iface 0 (.int .i64 c) := rfl
theorem info9 : (Tryz.prog.info? 9).map (fun i => (i.zero, i.size, i.bytes)) = some (some (.string ⟨#[]⟩), 1, 16) := by kernel_rfl
theorem info33 : (Tryz.prog.info? 33).map (fun i => (i.zero, i.size, i.bytes)) = some (some (.agg #[(.int .u8 0), (.string ⟨#[]⟩), (.int .i64 0)]), 3, 32) := by kernel_rfl
theorem info43 : (Tryz.prog.info? 43).map (fun i => (i.zero, i.size, i.bytes)) = some (some (.agg #[(.int .u8 0), (.int .i64 0), (.int .i64 0), (.int .i64 0), (.int .i64 0)]), 5, 40) := by kernel_rfl
structure S33 where
  f0 : Int
  f1 : ByteArray
  f2 : Int
def z33 : S33 := ⟨(0 : Int), (⟨#[]⟩ : ByteArray), (0 : Int)⟩
def k33 : Kd S33 := Kd.iso (Kd.pair (Kd.int .u8) (Kd.pair Kd.string (Kd.int .i64))) (fun x : S33 => (x.f0, x.f1, x.f2))
theorem k33_open {w : World} {x : S33} {cs : List Value} (h : k33.K w x cs) : cs = [.int .u8 x.f0, .string x.f1, .int .i64 x.f2] := by
  obtain ⟨_, _, rfl, rfl, ⟨_, _, rfl, rfl, rfl⟩⟩ := h
  exact rfl
theorem k33_mk (w : World) (x : S33)  : k33.K w x [.int .u8 x.f0, .string x.f1, .int .i64 x.f2] := ⟨[.int .u8 x.f0], [.string x.f1, .int .i64 x.f2], rfl, rfl, ⟨[.string x.f1], [.int .i64 x.f2], rfl, rfl, rfl⟩⟩
theorem k33_mkM (w : World) (base : Nat) (ok : Nat → Prop) (x : S33)  : k33.M w base ok x [.int .u8 x.f0, .string x.f1, .int .i64 x.f2] := ⟨[.int .u8 x.f0], [.string x.f1, .int .i64 x.f2], rfl, rfl, ⟨[.string x.f1], [.int .i64 x.f2], rfl, rfl, rfl⟩⟩
def za6 (xs : List S33) (i : Int) : S33 := xs.getD i.toNat z33
theorem zc1 {w : World} {A : Option Addr} {n : Nat} {xs : List S33} (h : Kd.C k33 w A n xs) (i : Int) (h0 : 0 ≤ i) (h1 : i < n) : ∃ ad , A = some ad ∧ w.cell? (ad.add (i.toNat * 3)) = some (.int .u8 (za6 xs i).f0) ∧ w.cell? ⟨(ad.add (i.toNat * 3)).block, (ad.add (i.toNat * 3)).off + 1, none⟩ = some (.string (za6 xs i).f1) ∧ w.cell? ⟨(ad.add (i.toNat * 3)).block, (ad.add (i.toNat * 3)).off + 2, none⟩ = some (.int .i64 (za6 xs i).f2) := by
  obtain ⟨ad, c, e, _, hK, hc0⟩ := Kd.C_get h z33 i h0 h1
  have hc : ∀ j u, c[j]? = some u → w.cell? (ad.add (i.toNat * 3 + j)) = some u := hc0
  obtain rfl := k33_open hK
  exact ⟨ad, e, hc 0 _ rfl, by rw [← zde _ _ 1 (by omega)]; exact hc 1 _ rfl, by rw [← zde _ _ 2 (by omega)]; exact hc 2 _ rfl⟩
structure S43 where
  f0 : Int
  f1 : Int
  f2 : Int
  f3 : Int
  f4 : Int
def z43 : S43 := ⟨(0 : Int), (0 : Int), (0 : Int), (0 : Int), (0 : Int)⟩
def k43 : Kd S43 := Kd.iso (Kd.pair (Kd.int .u8) (Kd.pair (Kd.int .i64) (Kd.pair (Kd.int .i64) (Kd.pair (Kd.int .i64) (Kd.int .i64))))) (fun x : S43 => (x.f0, x.f1, x.f2, x.f3, x.f4))
theorem k43_open {w : World} {x : S43} {cs : List Value} (h : k43.K w x cs) : cs = [.int .u8 x.f0, .int .i64 x.f1, .int .i64 x.f2, .int .i64 x.f3, .int .i64 x.f4] := by
  obtain ⟨_, _, rfl, rfl, ⟨_, _, rfl, rfl, ⟨_, _, rfl, rfl, ⟨_, _, rfl, rfl, rfl⟩⟩⟩⟩ := h
  exact rfl
theorem k43_openM {w : World} {base : Nat} {ok : Nat → Prop} {x : S43} {cs : List Value} (h : k43.M w base ok x cs) : cs = [.int .u8 x.f0, .int .i64 x.f1, .int .i64 x.f2, .int .i64 x.f3, .int .i64 x.f4] := by
  obtain ⟨_, _, rfl, rfl, ⟨_, _, rfl, rfl, ⟨_, _, rfl, rfl, ⟨_, _, rfl, rfl, rfl⟩⟩⟩⟩ := h
  exact rfl
theorem k43_mkM (w : World) (base : Nat) (ok : Nat → Prop) (x : S43)  : k43.M w base ok x [.int .u8 x.f0, .int .i64 x.f1, .int .i64 x.f2, .int .i64 x.f3, .int .i64 x.f4] := ⟨[.int .u8 x.f0], [.int .i64 x.f1, .int .i64 x.f2, .int .i64 x.f3, .int .i64 x.f4], rfl, rfl, ⟨[.int .i64 x.f1], [.int .i64 x.f2, .int .i64 x.f3, .int .i64 x.f4], rfl, rfl, ⟨[.int .i64 x.f2], [.int .i64 x.f3, .int .i64 x.f4], rfl, rfl, ⟨[.int .i64 x.f3], [.int .i64 x.f4], rfl, rfl, rfl⟩⟩⟩⟩
def zbf (xs : List S43) (i : Int) : S43 := xs.getD i.toNat z43
theorem at_T43 {w : World} {A : Option Addr} {n : Nat} {xs : List S43} (h : Kd.C k43 w A n xs) (i : Int) (h0 : 0 ≤ i) (h1 : i < n) : ∃ ad , A = some ad ∧ w.cell? (ad.add (i.toNat * 5)) = some (.int .u8 (zbf xs i).f0) ∧ w.cell? ⟨(ad.add (i.toNat * 5)).block, (ad.add (i.toNat * 5)).off + 1, none⟩ = some (.int .i64 (zbf xs i).f1) ∧ w.cell? ⟨(ad.add (i.toNat * 5)).block, (ad.add (i.toNat * 5)).off + 2, none⟩ = some (.int .i64 (zbf xs i).f2) ∧ w.cell? ⟨(ad.add (i.toNat * 5)).block, (ad.add (i.toNat * 5)).off + 3, none⟩ = some (.int .i64 (zbf xs i).f3) ∧ w.cell? ⟨(ad.add (i.toNat * 5)).block, (ad.add (i.toNat * 5)).off + 4, none⟩ = some (.int .i64 (zbf xs i).f4) := by
  obtain ⟨ad, c, e, _, hK, hc0⟩ := Kd.C_get h z43 i h0 h1
  have hc : ∀ j u, c[j]? = some u → w.cell? (ad.add (i.toNat * 5 + j)) = some u := hc0
  obtain rfl := k43_open hK
  exact ⟨ad, e, hc 0 _ rfl, by rw [← zde _ _ 1 (by omega)]; exact hc 1 _ rfl, by rw [← zde _ _ 2 (by omega)]; exact hc 2 _ rfl, by rw [← zde _ _ 3 (by omega)]; exact hc 3 _ rfl, by rw [← zde _ _ 4 (by omega)]; exact hc 4 _ rfl⟩
def rd_L7 (xs : List (List S43)) (i : Int) : (List S43) := xs.getD i.toNat ([] : List S43)
theorem at_L7 {w : World} {A : Option Addr} {n : Nat} {xs : List (List S43)} (h : Kd.C (Kd.slice 43 k43) w A n xs) (i : Int) (h0 : 0 ≤ i) (h1 : i < n) : ∃ ad A0 c0, A = some ad ∧ w.cell? (ad.add i.toNat) = some (.slice A0 (rd_L7 xs i).length c0) ∧ (rd_L7 xs i).length ≤ c0 ∧ k43.C w A0 (rd_L7 xs i).length (rd_L7 xs i) := by
  obtain ⟨ad, c, e, _, hK, hc0⟩ := Kd.C_get h ([] : List S43) i h0 h1
  have hc : ∀ j u, c[j]? = some u → w.cell? (ad.add (i.toNat * 1 + j)) = some u := hc0
  obtain ⟨A0, c0, rfl, l0, g0⟩ := hK
  exact ⟨ad, A0, c0, e, by have hq := hc 0 _ rfl; rwa [Nat.mul_one, Nat.add_zero] at hq, l0, g0⟩
structure S94 where
  f0 : Int
  f1 : Int
  f2 : Int
def z94 : S94 := ⟨(0 : Int), (0 : Int), (0 : Int)⟩
def k94 : Kd S94 := Kd.iso (Kd.pair (Kd.int .i64) (Kd.pair (Kd.int .i64) (Kd.int .i64))) (fun x : S94 => (x.f0, x.f1, x.f2))
theorem k94_open {w : World} {x : S94} {cs : List Value} (h : k94.K w x cs) : cs = [.int .i64 x.f0, .int .i64 x.f1, .int .i64 x.f2] := by
  obtain ⟨_, _, rfl, rfl, ⟨_, _, rfl, rfl, rfl⟩⟩ := h
  exact rfl
theorem zcn (w : World) (base : Nat) (ok : Nat → Prop) (x : S94)  : k94.M w base ok x [.int .i64 x.f0, .int .i64 x.f1, .int .i64 x.f2] := ⟨[.int .i64 x.f0], [.int .i64 x.f1, .int .i64 x.f2], rfl, rfl, ⟨[.int .i64 x.f1], [.int .i64 x.f2], rfl, rfl, rfl⟩⟩
def zcx (xs : List S94) (i : Int) : S94 := xs.getD i.toNat z94
theorem at_T94 {w : World} {A : Option Addr} {n : Nat} {xs : List S94} (h : Kd.C k94 w A n xs) (i : Int) (h0 : 0 ≤ i) (h1 : i < n) : ∃ ad , A = some ad ∧ w.cell? (ad.add (i.toNat * 3)) = some (.int .i64 (zcx xs i).f0) ∧ w.cell? ⟨(ad.add (i.toNat * 3)).block, (ad.add (i.toNat * 3)).off + 1, none⟩ = some (.int .i64 (zcx xs i).f1) ∧ w.cell? ⟨(ad.add (i.toNat * 3)).block, (ad.add (i.toNat * 3)).off + 2, none⟩ = some (.int .i64 (zcx xs i).f2) := by
  obtain ⟨ad, c, e, _, hK, hc0⟩ := Kd.C_get h z94 i h0 h1
  have hc : ∀ j u, c[j]? = some u → w.cell? (ad.add (i.toNat * 3 + j)) = some u := hc0
  obtain rfl := k94_open hK
  exact ⟨ad, e, hc 0 _ rfl, by rw [← zde _ _ 1 (by omega)]; exact hc 1 _ rfl, by rw [← zde _ _ 2 (by omega)]; exact hc 2 _ rfl⟩
end Go.Proofs.YtgmmngipnjmkfaaGreatDoor.Q
end
section
namespace Go.Proofs.YtgmmngipnjmkfaaGreatDoor
open Go.Shelf
def Tryz.lays156_ren : Go.Shelf.Ren := ⟨fun | 156 => 43 | 165 => 61 | 166 => 62 | 169 => 63 | 240 => 82 | 241 => 83 | 276 => 100 | 277 => 101 | n => n, fun | 31 => 23 | 9 => 9 | 3 => 3 | 4 => 4 | 0 => 0 | 20 => 20 | 72 => 111 | 76 => 113 | 70 => 108 | 37 => 109 | 75 => 101 | 127 => 131 | 164 => 149 | 5 => 5 | 80 => 115 | n => n, fun | n => n⟩
theorem Tryz.lays156 : Go.Proofs.Lays.n156 Tryz.prog Tryz.lays156_ren := {
  mixed := by kernel_rfl
  f156 := Tryz.func43.trans (congrArg some (by kernel_rfl))
  f165 := Tryz.func61.trans (congrArg some (by kernel_rfl))
  f166 := Tryz.func62.trans (congrArg some (by kernel_rfl))
  f169 := Tryz.func63.trans (congrArg some (by kernel_rfl))
  f240 := Tryz.func82.trans (congrArg some (by kernel_rfl))
  f241 := Tryz.func83.trans (congrArg some (by kernel_rfl))
  f276 := Tryz.func100.trans (congrArg some (by kernel_rfl))
  f277 := Tryz.func101.trans (congrArg some (by kernel_rfl))
  t0 := Tryz.underlying0
  a0 := Tryz.isAgg0
  z0 := Tryz.sizeOf0
  v0 := Tryz.zeroValue0
  t3 := Tryz.underlying3
  a3 := Tryz.isAgg3
  z3 := Tryz.sizeOf3
  v3 := Tryz.zeroValue3
  t4 := Tryz.underlying4
  a4 := Tryz.isAgg4
  z4 := Tryz.sizeOf4
  v4 := Tryz.zeroValue4
  t9 := Tryz.underlying9
  a9 := Tryz.isAgg9
  z9 := Tryz.sizeOf9
  v9 := Tryz.zeroValue9
  t20 := Tryz.underlying20
  a20 := Tryz.isAgg20
  z20 := Tryz.sizeOf20
  v20 := Tryz.zeroValue20
  t31 := Tryz.underlying23
  a31 := Tryz.isAgg23
  z31 := Tryz.sizeOf23
  v31 := Tryz.zeroValue23
  t37 := Tryz.underlying109
  a37 := Tryz.isAgg109
  z37 := Tryz.sizeOf109
  v37 := Tryz.zeroValue109
  t70 := Tryz.underlying108
  a70 := Tryz.isAgg108
  z70 := Tryz.sizeOf108
  v70 := Tryz.zeroValue108
  t72 := Tryz.underlying111
  a72 := Tryz.isAgg111
  z72 := Tryz.sizeOf111
  v72 := Tryz.zeroValue111
  t75 := Tryz.underlying101
  a75 := Tryz.isAgg101
  z75 := Tryz.sizeOf101
  v75 := Tryz.zeroValue101
  t76 := Tryz.underlying113
  a76 := Tryz.isAgg113
  z76 := Tryz.sizeOf113
  v76 := Tryz.zeroValue113
  t127 := Tryz.underlying131
  a127 := Tryz.isAgg131
  z127 := Tryz.sizeOf131
  v127 := Tryz.zeroValue131
  t164 := Tryz.underlying149
  a164 := Tryz.isAgg149
  z164 := Tryz.sizeOf149
  v164 := Tryz.zeroValue149 }
theorem Tryz.zdw : Builder.Extra Tryz.prog Tryz.lays156_ren := {
  sizeBuilder := by kernel_rfl
  liesBuilder := by kernel_rfl
  t5 := Tryz.underlying5
  a5 := Tryz.isAgg5
  z5 := Tryz.sizeOf5
  v5 := Tryz.zeroValue5
  infoByte := by kernel_rfl
  cellsByte := by kernel_rfl
  sizeByte := by kernel_rfl
  neB5 := by decide }
open Go.RowKit in
theorem Tryz.strings_Join_none (a : Option Addr) (c : Nat) (sep : ByteArray) (w : World) :
    Calls Tryz.prog 43 #[.slice a 0 c, .string sep] w fun e w' => e = .returned (.string ⟨#[]⟩) ∧ w' = w := Any.strings_Join_none Tryz.lays156 Tryz.zdw a c sep w
open Go.RowKit in
theorem Tryz.strings_Join (bk o c : Nat) (xs : List ByteArray) (sep : ByteArray) (w : World) (hcells : ∀ (j : Nat) x, xs[j]? = some x → w.cell? ⟨bk, o + j, none⟩ = some (.string x)) (hbk : bk < w.heap.size) (hN : xs.length ≤ 140737488355328) (hcap : xs.length ≤ c) (hlen : (Lib.join (xs.map (·.data.toList)) sep.data.toList).length ≤ 140737488355328) :
    Calls Tryz.prog 43 #[.slice (some ⟨bk, o, none⟩) xs.length c, .string sep] w fun e w' => e = .returned (.string ⟨(Lib.join (xs.map (·.data.toList)) sep.data.toList).toArray⟩) ∧ Below w.heap.size w w' := Any.strings_Join Tryz.lays156 Tryz.zdw bk o c xs sep w hcells hbk hN hcap hlen
def Tryz.lays160_ren : Go.Shelf.Ren := ⟨fun | 160 => 58 | 232 => 71 | 231 => 70 | 227 => 72 | 234 => 74 | 233 => 73 | 236 => 76 | 235 => 75 | 228 => 90 | 271 => 92 | 151 => 91 | 197 => 80 | 120 => 108 | 152 => 107 | 260 => 98 | 137 => 57 | 119 => 121 | 224 => 122 | 225 => 123 | 217 => 69 | 266 => 89 | n => n, fun | 9 => 9 | 4 => 4 | 3 => 3 | 5 => 5 | 117 => 122 | 116 => 121 | 0 => 0 | 124 => 125 | 21 => 21 | 105 => 128 | 46 => 142 | 119 => 127 | 139 => 166 | 138 => 165 | n => n, fun | 3 => 5 | 4 => 6 | n => n⟩
theorem Tryz.lays160 : Go.Proofs.Lays.n160 Tryz.prog Tryz.lays160_ren := {
  mixed := by kernel_rfl
  f119 := Tryz.func121.trans (congrArg some (by kernel_rfl))
  f120 := Tryz.func108.trans (congrArg some (by kernel_rfl))
  f137 := Tryz.func57.trans (congrArg some (by kernel_rfl))
  f151 := Tryz.func91.trans (congrArg some (by kernel_rfl))
  f152 := Tryz.func107.trans (congrArg some (by kernel_rfl))
  f160 := Tryz.func58.trans (congrArg some (by kernel_rfl))
  f197 := Tryz.func80.trans (congrArg some (by kernel_rfl))
  f217 := Tryz.func69.trans (congrArg some (by kernel_rfl))
  f224 := Tryz.func122.trans (congrArg some (by kernel_rfl))
  f225 := Tryz.func123.trans (congrArg some (by kernel_rfl))
  f227 := Tryz.func72.trans (congrArg some (by kernel_rfl))
  f228 := Tryz.func90.trans (congrArg some (by kernel_rfl))
  f231 := Tryz.func70.trans (congrArg some (by kernel_rfl))
  f232 := Tryz.func71.trans (congrArg some (by kernel_rfl))
  f233 := Tryz.func73.trans (congrArg some (by kernel_rfl))
  f234 := Tryz.func74.trans (congrArg some (by kernel_rfl))
  f235 := Tryz.func75.trans (congrArg some (by kernel_rfl))
  f236 := Tryz.func76.trans (congrArg some (by kernel_rfl))
  f260 := Tryz.func98.trans (congrArg some (by kernel_rfl))
  f266 := Tryz.func89.trans (congrArg some (by kernel_rfl))
  f271 := Tryz.func92.trans (congrArg some (by kernel_rfl))
  t0 := Tryz.underlying0
  a0 := Tryz.isAgg0
  z0 := Tryz.sizeOf0
  v0 := Tryz.zeroValue0
  t3 := Tryz.underlying3
  a3 := Tryz.isAgg3
  z3 := Tryz.sizeOf3
  v3 := Tryz.zeroValue3
  t4 := Tryz.underlying4
  a4 := Tryz.isAgg4
  z4 := Tryz.sizeOf4
  v4 := Tryz.zeroValue4
  t5 := Tryz.underlying5
  a5 := Tryz.isAgg5
  z5 := Tryz.sizeOf5
  v5 := Tryz.zeroValue5
  t9 := Tryz.underlying9
  a9 := Tryz.isAgg9
  z9 := Tryz.sizeOf9
  v9 := Tryz.zeroValue9
  t21 := Tryz.underlying21
  a21 := Tryz.isAgg21
  z21 := Tryz.sizeOf21
  v21 := Tryz.zeroValue21
  t46 := Tryz.underlying142
  a46 := Tryz.isAgg142
  z46 := Tryz.sizeOf142
  v46 := Tryz.zeroValue142
  t105 := Tryz.underlying128
  a105 := Tryz.isAgg128
  z105 := Tryz.sizeOf128
  v105 := Tryz.zeroValue128
  t116 := Tryz.underlying121
  a116 := Tryz.isAgg121
  z116 := Tryz.sizeOf121
  t117 := Tryz.underlying122
  a117 := Tryz.isAgg122
  z117 := Tryz.sizeOf122
  v117 := Tryz.zeroValue122
  t119 := Tryz.underlying127
  a119 := Tryz.isAgg127
  z119 := Tryz.sizeOf127
  t124 := Tryz.underlying125
  a124 := Tryz.isAgg125
  z124 := Tryz.sizeOf125
  v124 := Tryz.zeroValue125
  t138 := Tryz.underlying165
  a138 := Tryz.isAgg165
  z138 := Tryz.sizeOf165
  v138 := Tryz.zeroValue165
  t139 := Tryz.underlying166
  a139 := Tryz.isAgg166
  z139 := Tryz.sizeOf166
  v139 := Tryz.zeroValue166
  g3 := by kernel_rfl
  g4 := by kernel_rfl }
def Tryz.laysC174_ren : Go.Shelf.Ren := ⟨fun | 174 => 59 | 247 => 77 | 245 => 78 | 287 => 93 | 279 => 94 | 280 => 95 | 281 => 96 | 282 => 97 | 321 => 109 | 322 => 110 | 316 => 111 | 171 => 113 | 205 => 112 | 243 => 124 | 246 => 88 | 283 => 103 | 284 => 104 | 285 => 105 | 286 => 106 | 129 => 117 | 317 => 116 | 318 => 118 | 319 => 119 | 320 => 120 | 337 => 125 | 338 => 126 | n => n, fun | 9 => 9 | 3 => 3 | 2 => 2 | 75 => 101 | 85 => 102 | 4 => 4 | 167 => 138 | 5 => 5 | 53 => 139 | 175 => 140 | 46 => 142 | 168 => 143 | 37 => 109 | 0 => 0 | 210 => 162 | 21 => 21 | 127 => 131 | 145 => 187 | 143 => 185 | 171 => 154 | 173 => 157 | 212 => 180 | 51 => 146 | 20 => 20 | 213 => 181 | 232 => 191 | 233 => 192 | 80 => 115 | n => n, fun | 15 => 3 | 16 => 4 | 17 => 7 | 18 => 8 | 19 => 9 | n => n⟩
theorem Tryz.laysC174 : Go.Proofs.LaysC.n174 Tryz.prog Tryz.laysC174_ren := {
  mixed := by kernel_rfl
  f129 := Tryz.func117.trans (congrArg some (by kernel_rfl))
  f171 := Tryz.func113.trans (congrArg some (by kernel_rfl))
  f174 := Tryz.func59.trans (congrArg some (by kernel_rfl))
  f205 := Tryz.func112.trans (congrArg some (by kernel_rfl))
  f243 := Tryz.func124.trans (congrArg some (by kernel_rfl))
  f245 := Tryz.func78.trans (congrArg some (by kernel_rfl))
  f246 := Tryz.func88.trans (congrArg some (by kernel_rfl))
  f247 := Tryz.func77.trans (congrArg some (by kernel_rfl))
  f279 := Tryz.func94.trans (congrArg some (by kernel_rfl))
  f280 := Tryz.func95.trans (congrArg some (by kernel_rfl))
  f281 := Tryz.func96.trans (congrArg some (by kernel_rfl))
  f282 := Tryz.func97.trans (congrArg some (by kernel_rfl))
  f283 := Tryz.func103.trans (congrArg some (by kernel_rfl))
  f284 := Tryz.func104.trans (congrArg some (by kernel_rfl))
  f285 := Tryz.func105.trans (congrArg some (by kernel_rfl))
  f286 := Tryz.func106.trans (congrArg some (by kernel_rfl))
  f287 := Tryz.func93.trans (congrArg some (by kernel_rfl))
  f316 := Tryz.func111.trans (congrArg some (by kernel_rfl))
  f317 := Tryz.func116.trans (congrArg some (by kernel_rfl))
  f318 := Tryz.func118.trans (congrArg some (by kernel_rfl))
  f319 := Tryz.func119.trans (congrArg some (by kernel_rfl))
  f320 := Tryz.func120.trans (congrArg some (by kernel_rfl))
  f321 := Tryz.func109.trans (congrArg some (by kernel_rfl))
  f322 := Tryz.func110.trans (congrArg some (by kernel_rfl))
  f337 := Tryz.func125.trans (congrArg some (by kernel_rfl))
  f338 := Tryz.func126.trans (congrArg some (by kernel_rfl))
  t0 := Tryz.underlying0
  a0 := Tryz.isAgg0
  z0 := Tryz.sizeOf0
  v0 := Tryz.zeroValue0
  t2 := Tryz.underlying2
  a2 := Tryz.isAgg2
  z2 := Tryz.sizeOf2
  v2 := Tryz.zeroValue2
  t3 := Tryz.underlying3
  a3 := Tryz.isAgg3
  z3 := Tryz.sizeOf3
  v3 := Tryz.zeroValue3
  t4 := Tryz.underlying4
  a4 := Tryz.isAgg4
  z4 := Tryz.sizeOf4
  v4 := Tryz.zeroValue4
  t5 := Tryz.underlying5
  a5 := Tryz.isAgg5
  z5 := Tryz.sizeOf5
  v5 := Tryz.zeroValue5
  t9 := Tryz.underlying9
  a9 := Tryz.isAgg9
  z9 := Tryz.sizeOf9
  v9 := Tryz.zeroValue9
  t20 := Tryz.underlying20
  a20 := Tryz.isAgg20
  z20 := Tryz.sizeOf20
  v20 := Tryz.zeroValue20
  t21 := Tryz.underlying21
  a21 := Tryz.isAgg21
  z21 := Tryz.sizeOf21
  v21 := Tryz.zeroValue21
  t37 := Tryz.underlying109
  a37 := Tryz.isAgg109
  z37 := Tryz.sizeOf109
  v37 := Tryz.zeroValue109
  t46 := Tryz.underlying142
  a46 := Tryz.isAgg142
  z46 := Tryz.sizeOf142
  v46 := Tryz.zeroValue142
  t51 := Tryz.underlying146
  a51 := Tryz.isAgg146
  z51 := Tryz.sizeOf146
  v51 := Tryz.zeroValue146
  t53 := Tryz.underlying139
  a53 := Tryz.isAgg139
  z53 := Tryz.sizeOf139
  v53 := Tryz.zeroValue139
  t75 := Tryz.underlying101
  a75 := Tryz.isAgg101
  z75 := Tryz.sizeOf101
  v75 := Tryz.zeroValue101
  t85 := Tryz.underlying102
  a85 := Tryz.isAgg102
  z85 := Tryz.sizeOf102
  v85 := Tryz.zeroValue102
  t127 := Tryz.underlying131
  a127 := Tryz.isAgg131
  z127 := Tryz.sizeOf131
  v127 := Tryz.zeroValue131
  t143 := Tryz.underlying185
  a143 := Tryz.isAgg185
  z143 := Tryz.sizeOf185
  v143 := Tryz.zeroValue185
  t145 := Tryz.underlying187
  a145 := Tryz.isAgg187
  z145 := Tryz.sizeOf187
  v145 := Tryz.zeroValue187
  t167 := Tryz.underlying138
  a167 := Tryz.isAgg138
  z167 := Tryz.sizeOf138
  v167 := Tryz.zeroValue138
  t168 := Tryz.underlying143
  a168 := Tryz.isAgg143
  z168 := Tryz.sizeOf143
  v168 := Tryz.zeroValue143
  t171 := Tryz.underlying154
  a171 := Tryz.isAgg154
  z171 := Tryz.sizeOf154
  v171 := Tryz.zeroValue154
  t173 := Tryz.underlying157
  a173 := Tryz.isAgg157
  z173 := Tryz.sizeOf157
  v173 := Tryz.zeroValue157
  t175 := Tryz.underlying140
  a175 := Tryz.isAgg140
  z175 := Tryz.sizeOf140
  v175 := Tryz.zeroValue140
  t210 := Tryz.underlying162
  a210 := Tryz.isAgg162
  z210 := Tryz.sizeOf162
  v210 := Tryz.zeroValue162
  t212 := Tryz.underlying180
  a212 := Tryz.isAgg180
  z212 := Tryz.sizeOf180
  v212 := Tryz.zeroValue180
  t213 := Tryz.underlying181
  a213 := Tryz.isAgg181
  z213 := Tryz.sizeOf181
  t232 := Tryz.underlying191
  a232 := Tryz.isAgg191
  z232 := Tryz.sizeOf191
  v232 := Tryz.zeroValue191
  t233 := Tryz.underlying192
  a233 := Tryz.isAgg192
  z233 := Tryz.sizeOf192
  v233 := Tryz.zeroValue192
  g15 := by kernel_rfl
  g16 := by kernel_rfl
  g17 := by kernel_rfl
  g18 := by kernel_rfl
  g19 := by kernel_rfl
  t80 := Tryz.underlying115
  a80 := Tryz.isAgg115
  z80 := Tryz.sizeOf115
  v80 := Tryz.zeroValue115
  i0 := by kernel_rfl
  i2 := by kernel_rfl
  i3 := by kernel_rfl
  i4 := by kernel_rfl
  i5 := by kernel_rfl
  i9 := by kernel_rfl
  i20 := by kernel_rfl
  i21 := by kernel_rfl
  i37 := by kernel_rfl
  i46 := by kernel_rfl
  i51 := by kernel_rfl
  i53 := by kernel_rfl
  i75 := by kernel_rfl
  i80 := by kernel_rfl
  i85 := by kernel_rfl
  i127 := by kernel_rfl
  i143 := by kernel_rfl
  i145 := by kernel_rfl
  i167 := by kernel_rfl
  i168 := by kernel_rfl
  i171 := by kernel_rfl
  i173 := by kernel_rfl
  i175 := by kernel_rfl
  i210 := by kernel_rfl
  i212 := by kernel_rfl
  i232 := by kernel_rfl
  i233 := by kernel_rfl
  m15 := by kernel_rfl
  m16 := by kernel_rfl
  m17 := by kernel_rfl
  m18 := by kernel_rfl
  m19 := by kernel_rfl
  c0 := by kernel_rfl
  c2 := by kernel_rfl
  c3 := by kernel_rfl
  c4 := by kernel_rfl
  c5 := by kernel_rfl
  c9 := by kernel_rfl
  c20 := by kernel_rfl
  c21 := by kernel_rfl
  c37 := by kernel_rfl
  c46 := by kernel_rfl
  c51 := by kernel_rfl
  c53 := by kernel_rfl
  c75 := by kernel_rfl
  c80 := by kernel_rfl
  c85 := by kernel_rfl
  c127 := by kernel_rfl
  c143 := by kernel_rfl
  c145 := by kernel_rfl
  c167 := by kernel_rfl
  c168 := by kernel_rfl
  c171 := by kernel_rfl
  c173 := by kernel_rfl
  c175 := by kernel_rfl
  c210 := by kernel_rfl
  c212 := by kernel_rfl
  c213 := by kernel_rfl
  c232 := by kernel_rfl
  c233 := by kernel_rfl }
open Go.RowKit in
theorem Tryz.strconv_ParseInt_10_at64_ok (s : ByteArray) (hmax : s.size ≤ 9223372036854775806) (v : Int) (h : Lib.parseIntB 64 s.data.toList = .ok v) (w : World) :
    Calls Tryz.prog 59 #[.string s, .int .i64 10, .int .i64 64] w fun e w' => e = .returned (.tuple #[.int .i64 v, .nilIface]) ∧ (w' = w ∨ ∃ t, w' = Lib.bytesWorld w 5 t) := Any.strconv_ParseInt_10_at64_ok Tryz.laysC174 s hmax v h w
open Go.RowKit in
theorem Tryz.strconv_ParseInt_10_at64_range_var (s : ByteArray) (hlim : s.size ≤ 281474976710656) (h : Lib.parseIntB 64 s.data.toList = .range) (tp : TypeId) (p : Value) (w : World) (hvar : w.var? Tryz.prog "strconv.ErrRange" = some #[.iface tp p]) :
    Calls Tryz.prog 59 #[.string s, .int .i64 10, .int .i64 64] w fun e w' => ∃ N, e = .returned (.tuple #[.int .i64 (Lib.intSat 64 s.data.toList), .iface 143 (.pointer (some ⟨N, 0, none⟩))]) ∧ w.heap.size ≤ N ∧ w'.heap[N]? = some (.cells #[.string ⟨#[80, 97, 114, 115, 101, 73, 110, 116]⟩, .string s, .iface tp p] 162 (0, 0)) ∧ Below w.heap.size w w' := Any.strconv_ParseInt_10_at64_range_var Tryz.laysC174 s hlim h tp p w hvar
end Go.Proofs.YtgmmngipnjmkfaaGreatDoor
end
section
namespace Go.Proofs.YtgmmngipnjmkfaaGreatDoor.Hand
open Go.RowKit Go.Proofs.YtgmmngipnjmkfaaGreatDoorW.PrintWords
theorem dig_ascii : ∀ (j : Nat) b, (⟨#[48, 49, 50, 51, 52, 53, 54, 55, 56, 57]⟩ : ByteArray).data.toList[j]? = some b → b.toNat < 128 := by
  intro j b h
  have hall : (⟨#[48, 49, 50, 51, 52, 53, 54, 55, 56, 57]⟩ : ByteArray).data.toList.all (fun b => decide (b.toNat < 128)) = true := by decide
  exact of_decide_eq_true (List.all_eq_true.1 hall b (List.mem_of_getElem? h))
theorem trim_any (s : ByteArray) (w : World) (hs : s.size ≤ 140737488351232) :
    Calls Tryz.prog 58 #[.string s, .string ⟨#[48, 49, 50, 51, 52, 53, 54, 55, 56, 57]⟩] w fun e w' => e = .returned (.string ⟨(Lib.trimS s.data.toList digitsB).toArray⟩) ∧ Below w.heap.size w w' :=
  Any.strings_Trim_ascii Tryz.lays160 (fun w => by kernel_rfl) (by kernel_rfl) s ⟨#[48, 49, 50, 51, 52, 53, 54, 55, 56, 57]⟩ w (by omega) (by decide) dig_ascii
def readPost (v e : Int) (w : World) (en : Ending) (w' : World) : Prop := en = .returned (.tuple #[.int .i64 v, .int .i64 e]) ∧ Below w.heap.size w w'
set_option maxHeartbeats 1000000 in
theorem read_any (s : ByteArray) (w : World) (hT : Tabs w) (hs : s.size ≤ 140737488351232) :
    Calls Tryz.prog 41 #[.string s] w (readPost (readL s.data.toList).1 (readL s.data.toList).2 w) := by
  have hsz : s.size = s.data.toList.length := (zbu s).symm
  by_cases h0 : s.size = 0
  · have hl : s.data.toList = [] := List.eq_nil_of_length_eq_zero (by omega)
    have hf : readL s.data.toList = (0, 12) := by unfold readL; rw [if_pos hl]
    rw [hf]
    have hl2 : s.toList = [] := by rw [ByteArray.toList_eq]; exact hl
    clear hf hl h0 hsz
    go_enter Tryz.func41, Tryz.ntmps41
    go_wp2_with fail
    go_ret2
    exact ⟨rfl, Below.refl _ _⟩
  · have hl : s.data.toList ≠ [] := fun h => h0 (by rw [hsz, h]; rfl)
    have hi : s.toList.isEmpty = false := by rw [ByteArray.toList_eq]; simpa using hl
    have hi2 : ¬ s.toList = [] := by rw [ByteArray.toList_eq]; exact hl
    by_cases hd : s.data.toList.all digB = true
    · have htr : (⟨(Lib.trimS s.data.toList digitsB).toArray⟩ : ByteArray) = ⟨#[]⟩ := by rw [trim_nil s.data.toList |>.2 hd]
      have htc := trim_any s w hs
      rw [htr] at htc
      have Htc := Lib.hid htc
      have hpi := parseInt_digits s.data.toList hl hd
      clear htc htr
      by_cases hr : decFrom 0 s.data.toList ≤ 9223372036854775807
      · rw [if_pos hr] at hpi
        have hf : readL s.data.toList = ((decFrom 0 s.data.toList : Int), 0) := by unfold readL; rw [if_neg hl, if_pos hd, if_pos hr]
        rw [hf]
        have Hpi := Lib.hid hpi
        clear hf hpi hd hl hsz h0
        go_enter Tryz.func41, Tryz.ntmps41
        go_wp2_with fail
        refine Htc.out.mono ?_
        rintro e w1 ⟨rfl, hB⟩
        go_wp2_with fail
        refine (Tryz.strconv_ParseInt_10_at64_ok s (by omega) _ Hpi.out _).mono ?_
        rintro e w2 ⟨rfl, hB2⟩
        have hB3 : Below w.heap.size w w2 := hB2.elim (fun e => by subst e; exact hB) (fun ⟨t, e⟩ => by subst e; exact bytes_below hB hB.size _ _)
        clear hB2
        go_wp2_with fail
        go_ret2
        exact ⟨rfl, hB3⟩
      · rw [if_neg hr] at hpi
        have hf : readL s.data.toList = (0, 16) := by unfold readL; rw [if_neg hl, if_pos hd, if_neg hr]
        rw [hf]
        have Hpi := Lib.hid hpi
        clear hf hpi hd hl hsz h0 hr
        have HT := Lib.hid hT
        clear hT
        go_enter Tryz.func41, Tryz.ntmps41
        go_wp2_with fail
        refine Htc.out.mono ?_
        rintro e w1 ⟨rfl, hB⟩
        obtain ⟨tp, p, hv⟩ := (HT.out.below hB).rng
        have Hv := Lib.hid hv
        clear hv
        go_wp2_with fail
        refine (Tryz.strconv_ParseInt_10_at64_range_var s (by omega) Hpi.out tp p _ Hv.out).mono ?_
        rintro e w2 ⟨n, rfl, _, _, hB2⟩
        have hB3 := hB.trans (hB2.mono hB.size)
        clear hB2
        go_wp2_with fail
        go_ret2
        exact ⟨rfl, hB3⟩
    · have hf : readL s.data.toList = (0, 12) := by unfold readL; rw [if_neg hl, if_neg hd]
      have htc := trim_any s w hs
      obtain ⟨t, ht⟩ : ∃ t : ByteArray, t = ⟨(Lib.trimS s.data.toList digitsB).toArray⟩ := ⟨_, rfl⟩
      rw [← ht] at htc
      have hn : ¬ t.data.toList = [] := by rw [ht]; intro h; exact hd ((trim_nil _).1 (by simpa using h))
      have ht1 : t.toList.isEmpty = false := by rw [ByteArray.toList_eq]; simpa using hn
      have ht2 : (!t.toList.isEmpty) = true := by rw [ht1]; rfl
      have Htc := Lib.hid htc
      rw [hf]
      clear htc ht hn hf hd hl hsz h0
      go_enter Tryz.func41, Tryz.ntmps41
      go_wp2_with fail
      refine Htc.out.mono ?_
      rintro e w1 ⟨rfl, hB⟩
      go_wp2_with fail
      go_ret2
      exact ⟨rfl, hB⟩
end Go.Proofs.YtgmmngipnjmkfaaGreatDoor.Hand
end
