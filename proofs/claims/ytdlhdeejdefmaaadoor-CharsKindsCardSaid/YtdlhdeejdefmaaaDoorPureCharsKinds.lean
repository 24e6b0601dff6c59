/- CharsKinds: each byte has one kind: 2 are blanks, 10 digits, 26 letters, 9 symbols, 209 none; the walk of the law's own text (no argument, every world in which the laid tables lie). -/
import Derived.Test.YtdlhdeejdefmaaaDoorPureA
import Derived.Laws.MakeOwn
import Derived.Laws.OwnMore
import Derived.BigQuiet
import Derived.Lib.Hide
namespace Go.Proofs.YtdlhdeejdefmaaaDoor.Pure
open Go.RowKit Go.Proofs.YtdlhdeejdefmaaaDoor.Hand Go.Proofs.YtdlhdeejdefmaaaDoor.Q Go.Proofs.YtdlhdeejdefmaaaDoorW.PrintWords Go.Proofs.YtdlhdeejdefmaaaDoorW.PrintLast Go.Proofs.YtdlhdeejdefmaaaDoorW.PrintMore
/-- how many of the first k bytes have kind j -/
def cnt (k j : Nat) : Int := ((List.range k).filter fun (c : Nat) => kindOf (c : Int) == (j : Int)).length
theorem cnt_succ_yes (k j : Nat) (h : kindOf (k : Int) = j) : cnt (k + 1) j = cnt k j + 1 := by
  unfold cnt; rw [List.range_succ, List.filter_append]; simp [h]
theorem cnt_succ_no (k j : Nat) (h : ¬ kindOf (k : Int) = j) : cnt (k + 1) j = cnt k j := by
  unfold cnt; rw [List.range_succ, List.filter_append]; simp [h]
theorem cnt_le (k j : Nat) : 0 ≤ cnt k j ∧ cnt k j ≤ k := by
  unfold cnt
  have := List.length_filter_le (fun c : Nat => kindOf (c : Int) == (j : Int)) (List.range k)
  rw [List.length_range] at this
  omega
theorem kind_five (c : Int) : ∃ j : Nat, j < 5 ∧ kindOf c = (j : Int) := by
  unfold kindOf
  by_cases h1 : c = 32 ∨ c = 10
  · exact ⟨1, by omega, by rw [if_pos h1]; rfl⟩
  by_cases h2 : 48 ≤ c ∧ c ≤ 57
  · exact ⟨2, by omega, by rw [if_neg h1, if_pos h2]; rfl⟩
  by_cases h3 : 97 ≤ c ∧ c ≤ 122
  · exact ⟨3, by omega, by rw [if_neg h1, if_neg h2, if_pos h3]; rfl⟩
  by_cases h4 : (40 ≤ c ∧ c ≤ 43) ∨ (60 ≤ c ∧ c ≤ 62) ∨ c = 45 ∨ c = 33
  · exact ⟨4, by omega, by rw [if_neg h1, if_neg h2, if_neg h3, if_pos h4]; rfl⟩
  · exact ⟨0, by omega, by rw [if_neg h1, if_neg h2, if_neg h3, if_neg h4]; rfl⟩
/-- the array's cells, as far as they are counted in -/
structure Counts (b k : Nat) (W : World) : Prop where
  cell : ∀ j : Nat, j < 5 → W.cell? ⟨b, j, none⟩ = some (.int .i64 (cnt k j))
  frz : ∀ j : Nat, j < 5 → W.frozen? ⟨b, j, none⟩ = false
theorem Counts.below {b k B : Nat} {W W' : World} (h : Counts b k W) (hb : Below B W W') (hB : b < B) : Counts b k W' :=
  ⟨fun j hj => (hb.cell (p := ⟨b, j, none⟩) hB).trans (h.cell j hj), fun j hj => (hb.frozen (p := ⟨b, j, none⟩) hB).trans (h.frz j hj)⟩
theorem Counts.store {b k : Nat} {W : World} (h : Counts b k W) (j : Nat) (hj : j < 5) (hk : kindOf (k : Int) = j) : Counts b (k + 1) (W.setCell ⟨b, j, none⟩ (.int .i64 (cnt k j + 1))) := by
  refine ⟨fun i hi => ?_, fun i hi => by rw [World.frozen?_setCell]; exact h.frz i hi⟩
  by_cases e : i = j
  · subst e
    rw [cnt_succ_yes k i hk]
    exact World.cell?_setCell_same' _ _ _ (by rw [h.cell i hi]; rfl)
  · rw [cnt_succ_no k i (by rw [hk]; omega), ← h.cell i hi]
    exact World.cell?_setCell_other _ _ _ _ (by intro e2; have := congrArg Addr.off e2; simp at this; omega)
def zeros : Array Value := Array.replicate 256 (.int .i64 0)
theorem counts_start (w : World) : Counts w.heap.size 0 (w.alloc (.cells zeros 34)) := by
  refine ⟨fun j hj => ?_, fun j hj => by simp⟩
  rw [World.cell?_alloc_at _ _ _ _ rfl]
  show zeros[j]? = _
  unfold zeros
  rw [Array.getElem?_replicate, if_pos (by omega)]; rfl
set_option maxHeartbeats 4000000 in
set_option maxRecDepth 100000 in
theorem CharsKinds_walk (w : World) (hT : Tabs w) :
    Calls Tryd.prog 5 #[] w fun e w' => e = .returned (.bool true) ∧ Below w.heap.size w w' := by
  have hz : ∀ W, (zeroValue 34).run Tryd.prog W = .ok (.agg zeros) W := fun _ => by kernel_rfl
  have hi : (Tryd.prog.info? 34).map (·.size) = some 256 := by kernel_rfl
  go_enter Tryd.func5, Tryd.ntmps5
  go_wp2_with fail
  have hB0 : Below w.heap.size w (w.alloc (.cells zeros 34)) := (Below.refl _ w).alloc (Nat.le_refl _) _
  have hC0 := counts_start w
  have HC0 := Lib.hid hC0
  have HB0 := Lib.hid hB0
  have HT := Lib.hid hT
  clear hC0 hB0 hT hz hi
  go_loopw [2] (fun i wr => ∃ k : Nat, k ≤ 256 ∧ i = .int .i64 k ∧ Hid (Counts w.heap.size k wr) ∧ Below w.heap.size w wr ∧ w.heap.size < wr.heap.size) (fun i _ => 256 - (intOf i).toNat)
  case atStart => exact ⟨0, by omega, rfl, HC0, HB0.out, by simp⟩
  case round =>
    obtain ⟨k, hk, rfl, hC, hB, hsz⟩ := hrel
    by_cases hlt : k < 256
    · obtain ⟨j, hj, hkj⟩ := kind_five (k : Int)
      have hkc := kind_any (k : Int) wr
      rw [hkj] at hkc
      have Hkj := Lib.hid hkj
      have hle := cnt_le k j
      clear hkj
      have Hkc := Lib.hid hkc
      clear hkc
      go_wp2_with fail
      refine Hkc.out.mono ?_
      rintro e w2 ⟨rfl, hB2⟩
      have hC2 := hC.out.below hB2 hsz
      have hcell := hC2.cell j hj
      have hfrz := hC2.frz j hj
      have hS2 := Lib.hid (hC2.store j hj Hkj.out)
      have hB3 := Lib.hid ((hB.trans (hB2.mono (Nat.le_of_lt hsz))).setCell (p := ⟨w.heap.size, j, none⟩) (Nat.le_refl _) (.int .i64 (cnt k j + 1)))
      have hsz2 := hB2.size
      have hcl := hle.1
      have hcu := hle.2
      clear hC2 hle hB2 Hkc
      go_wp2_with fail
      go_roundw
      case rel => exact ⟨k + 1, by omega, by go_num, hS2, hB3.out, by simp; omega⟩
      case measure => simp [intOf]; omega
    · obtain rfl : k = 256 := by omega
      obtain ⟨wo3, rfl⟩ : ∃ wo : World, wo = wr := ⟨_, rfl⟩
      go_wp2_with fail
      go_loopw [0, 3] (fun z i wr => ∃ c : Nat, z = .bool false ∧ 48 ≤ c ∧ c ≤ 58 ∧ i = .int .u8 c ∧ Hid (Counts w.heap.size 256 wr) ∧ Below w.heap.size w wr ∧ w.heap.size < wr.heap.size) (fun _ i _ => 58 - (intOf i).toNat)
      case atStart => exact ⟨48, rfl, by omega, by omega, rfl, hC, hB, hsz⟩
      case round =>
        clear hC hB hsz
        obtain ⟨c, rfl, hc1, hc2, rfl, hC, hB, hsz⟩ := hrel
        by_cases hlt3 : c ≤ 57
        · have hkc := kind_any (c : Int) wr
          rw [show kindOf (c : Int) = 2 from by unfold kindOf; rw [if_neg (by omega), if_pos (by omega)]] at hkc
          have Hkc := Lib.hid hkc
          clear hkc
          go_wp2_with fail
          refine Hkc.out.mono ?_
          rintro e w2 ⟨rfl, hB2⟩
          have hC2 := Lib.hid (hC.out.below hB2 hsz)
          have hB3 := Lib.hid (hB.trans (hB2.mono (Nat.le_of_lt hsz)))
          have hsz2 := hB2.size
          clear hB2 Hkc
          go_wp2_with fail
          go_roundw
          case rel => exact ⟨.bool false, .int .u8 ((c : Int) + 1), _, _, _, _, _, _, _, ⟨c + 1, rfl, by omega, by omega, by go_num, hC2, hB3.out, by omega⟩, rfl⟩
          case measure => simp [intOf]; omega
        · obtain rfl : c = 58 := by omega
          obtain ⟨wo4, rfl⟩ : ∃ wo : World, wo = wr := ⟨_, rfl⟩
          go_wp2_with fail
          go_loopw [0, 4] (fun z i wr => ∃ c : Nat, z = .bool false ∧ 97 ≤ c ∧ c ≤ 123 ∧ i = .int .u8 c ∧ Hid (Counts w.heap.size 256 wr) ∧ Below w.heap.size w wr ∧ w.heap.size < wr.heap.size) (fun _ i _ => 123 - (intOf i).toNat)
          case atStart => exact ⟨97, rfl, by omega, by omega, rfl, hC, hB, hsz⟩
          case round =>
            clear hC hB hsz
            obtain ⟨c, rfl, hc1, hc2, rfl, hC, hB, hsz⟩ := hrel
            by_cases hlt4 : c ≤ 122
            · have hkc := kind_any (c : Int) wr
              rw [show kindOf (c : Int) = 3 from by unfold kindOf; rw [if_neg (by omega), if_neg (by omega), if_pos (by omega)]] at hkc
              have Hkc := Lib.hid hkc
              clear hkc
              go_wp2_with fail
              refine Hkc.out.mono ?_
              rintro e w2 ⟨rfl, hB2⟩
              have hC2 := Lib.hid (hC.out.below hB2 hsz)
              have hB3 := Lib.hid (hB.trans (hB2.mono (Nat.le_of_lt hsz)))
              have hsz2 := hB2.size
              clear hB2 Hkc
              go_wp2_with fail
              go_roundw
              case rel => exact ⟨.bool false, .int .u8 ((c : Int) + 1), _, _, _, _, _, _, _, ⟨c + 1, rfl, by omega, by omega, by go_num, hC2, hB3.out, by omega⟩, rfl⟩
              case measure => simp [intOf]; omega
            · obtain rfl : c = 123 := by omega
              obtain ⟨wo5, rfl⟩ : ∃ wo : World, wo = wr := ⟨_, rfl⟩
              have d1 := hC.out.cell 1 (by omega)
              have d2 := hC.out.cell 2 (by omega)
              have d3 := hC.out.cell 3 (by omega)
              have d4 := hC.out.cell 4 (by omega)
              have d0 := hC.out.cell 0 (by omega)
              rw [show cnt 256 1 = 2 by decide +kernel] at d1
              rw [show cnt 256 2 = 10 by decide +kernel] at d2
              rw [show cnt 256 3 = 26 by decide +kernel] at d3
              rw [show cnt 256 4 = 9 by decide +kernel] at d4
              rw [show cnt 256 0 = 209 by decide +kernel] at d0
              have k1 := kind_any 32
              have k2 := kind_any 10
              rw [show kindOf 32 = 1 from rfl] at k1
              rw [show kindOf 10 = 1 from rfl] at k2
              have K1 := Lib.hid k1
              have K2 := Lib.hid k2
              clear k1 k2
              go_wp2_with fail
              refine (K1.out _).mono ?_
              rintro e w3 ⟨rfl, hB3⟩
              go_wp2_with fail
              refine (K2.out _).mono ?_
              rintro e w4 ⟨rfl, hB4⟩
              have hB5 := hB.trans ((hB3.trans (hB4.mono hB3.size)).mono hB.size)
              go_wp2_with fail
              refine (tailwaterlaw02_alive.calls true _ (HT.out.below hB5) alive).mono ?_
              rintro e w5 ⟨rfl, hB6⟩
              have hB7 := hB5.trans (hB6.mono hB5.size)
              go_wp2_with fail
              go_ret
              exact ⟨rfl, hB7⟩
end Go.Proofs.YtdlhdeejdefmaaaDoor.Pure
