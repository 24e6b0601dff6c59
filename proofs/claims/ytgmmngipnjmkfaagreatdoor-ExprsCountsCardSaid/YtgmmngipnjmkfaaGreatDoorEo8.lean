/- Lemmas of the proof (cut to what it uses, by wip/trim.py). -/
import Derived.Deep.RegionHeld3
import Derived.Test.YtgmmngipnjmkfaaGreatDoorEo4
import Derived.Test.YtgmmngipnjmkfaaGreatDoorEo6
import Derived.Test.YtgmmngipnjmkfaaGreatDoorEo7
section
namespace Go.Proofs.YtgmmngipnjmkfaaGreatDoor.Hand
set_option linter.unusedSimpArgs false
open Go.RowKit Go.Proofs.YtgmmngipnjmkfaaGreatDoorW.PrintWords Go.Proofs.YtgmmngipnjmkfaaGreatDoorW.PrintLast Go.Proofs.YtgmmngipnjmkfaaGreatDoorW.PrintMore Go.Proofs.YtgmmngipnjmkfaaGreatDoor.Q Go.Proofs.YtgmmngipnjmkfaaGreatDoor.Pure
def baT (l : List UInt8) : ByteArray := ⟨l.toArray⟩
theorem baT_size (l : List UInt8) : (baT l).size = l.length := by simp [baT, ByteArray.size]
theorem zby (a b : List UInt8) : baT a ++ baT b = baT (a ++ b) := by
  apply ByteArray.ext
  apply Array.ext'
  rw [ByteArray.data_append]
  simp [baT]
theorem intsText_any (n : Int) (h0 : -9223372036854775808 ≤ n) (h1 : n ≤ 9223372036854775807) (w : World) (hT : Tabs w) :
    Calls Tryz.prog 49 #[.int .i64 n] w fun e w' => e = .returned (.string (fmtI n)) ∧ Below w.heap.size w w' := by
  have HF := Lib.hid (format_any n h0 h1 w hT)
  go_enter Tryz.func49, Tryz.ntmps49
  go_wp2_with (first | (go_at_call 65; (with_reducible refine HF.out.mono ?_); rintro e w' ⟨rfl, hb⟩))
  go_ret
  exact ⟨rfl, hb⟩
theorem ret_str {a b : ByteArray} (h : a = b) : Ending.returned (.string a) = .returned (.string b) := by rw [h]
def signsV : Array Value := #[.string (baT [42]), .string (baT [43]), .string (baT [45]), .string (baT [60, 60]), .string (baT [62, 62]), .string (baT [60]), .string (baT [60, 61]), .string (baT [62]), .string (baT [62, 61]), .string (baT [61]), .string (baT [33, 61]), .string (baT [97, 110, 100]), .string (baT [111, 114])]
theorem signs_any (w : World) : Calls Tryz.prog 46 #[] w fun e w' => e = .returned (.slice (some ⟨w.heap.size, 0, none⟩) 13 13) ∧ w' = w.alloc (.cells signsV 9) := by
  go_enter Tryz.func46, Tryz.ntmps46
  go_wp2
  go_ret
  exact ⟨rfl, rfl⟩
theorem signs_cell (W : World) (j : Nat) (hj : j ≤ 12) : (W.alloc (.cells signsV 9)).cell? ⟨W.heap.size, j, none⟩ = some (.string (baT (opB (7 + (j : Int))))) := by
  rw [cell_of_row _ _ _ signsV 9 (0, 0) (heap_alloc_new W _)]
  rcases (show j = 0 ∨ j = 1 ∨ j = 2 ∨ j = 3 ∨ j = 4 ∨ j = 5 ∨ j = 6 ∨ j = 7 ∨ j = 8 ∨ j = 9 ∨ j = 10 ∨ j = 11 ∨ j = 12 by omega) with h | h | h | h | h | h | h | h | h | h | h | h | h <;> subst h <;> rfl
theorem cell_kept_below {W w1 : World} (hb : Below W.heap.size W w1) : ∀ b o, b < W.heap.size → w1.cell? ⟨b, o, none⟩ = W.cell? ⟨b, o, none⟩ := fun b o h => hb.cell (p := ⟨b, o, none⟩) h
theorem keep3 {W w1 : World} {a b c : Addr} {x y z : Value} (hb : Below W.heap.size W w1) (h : W.cell? a = some x ∧ W.cell? b = some y ∧ W.cell? c = some z) : w1.cell? a = some x ∧ w1.cell? b = some y ∧ w1.cell? c = some z :=
  ⟨zax hb h.1, zax hb h.2.1, zax hb h.2.2⟩
theorem bin_text (a o b : List UInt8) : ((baT a ++ (⟨#[32]⟩ : ByteArray)) ++ baT o ++ (⟨#[32]⟩ : ByteArray)) ++ baT b = baT (a ++ ([32] ++ (o ++ ([32] ++ b)))) := by
  show ((baT a ++ baT [32]) ++ baT o ++ baT [32]) ++ baT b = _
  rw [zby, zby, zby, zby]
  simp
def textPost (t : Tr) (p : Bool) (w : World) (e : Ending) (w' : World) : Prop := e = .returned (.string (baT (tbytes t p))) ∧ Below w.heap.size w w'
set_option maxRecDepth 100000 in
set_option maxHeartbeats 8000000 in
theorem text_any : ∀ (t : Tr), t.WF → ∀ (A0 : Option Addr) (c0 : Nat) (l0 : List Nd) (o : Nat) (p : Bool) (w : World), t.size ≤ 1000 → Lies l0 o t → Kd.C k43 w A0 l0.length l0 → Tabs w →
    Calls Tryz.prog 30 #[.slice A0 l0.length c0, .int .i64 (((o + t.size : Nat) : Int) - 1), .bool p] w (textPost t p w)
  | .leaf kd n ps, hw, A0, c0, l0, o, p, w, hz, hl, hr0, hT => by
    obtain ⟨h1, h2, h3, h4, h5, h6, h7⟩ := hw
    have hlen := lies_len hl
    simp only [Tr.size] at hlen
    rw [show ((o + (Tr.leaf kd n ps).size : Nat) : Int) - 1 = (o : Int) by simp [Tr.size]]
    obtain ⟨ad, ead, hx0, hx1, hx2, hx3, hx4⟩ := at_T43 hr0 (o : Int) (by omega) (by omega)
    cases ead
    have hx : zbf l0 (o : Int) = ⟨kd, n, 0, 0, ps⟩ := lies_leaf hl
    rw [hx, Int.toNat_natCast] at hx0 hx1 hx2 hx3 hx4
    have hlt : o < l0.length := by omega
    clear hx hl hlen hr0
    by_cases hk : kd = 1
    · subst hk
      have HF := Lib.hid (fun W hW => intsText_any n (by omega) h4 W hW)
      go_enter Tryz.func30, Tryz.ntmps30
      go_wp2_with (first | (go_at_call 49; (with_reducible refine (HF.out _ (Tabs.below hT (by repeat (first | exact Below.refl _ _ | apply zab | apply zaa)))).mono ?_); rintro e w' ⟨rfl, hb⟩))
      go_ret
      exact ⟨rfl, zaf (zab (Below.refl _ _) _) hb⟩
    · have hn : n = 0 := by omega
      subst hn
      rcases (show kd = 2 ∨ kd = 3 ∨ kd = 4 by omega) with rfl | rfl | rfl
      all_goals
        go_enter Tryz.func30, Tryz.ntmps30
        go_wp2
        go_ret
        exact ⟨rfl, zab (Below.refl _ _) _⟩
  | .un kd ps a, hw, A0, c0, l0, o, p, w, hz, hl, hr0, hT => by
    obtain ⟨h1, h2, h3, h4⟩ := hw
    have hlen := lies_len hl
    obtain ⟨hla, hx⟩ := lies_un hl
    have hsz := zdk a h4 true
    simp only [Tr.size] at hlen hz
    rw [show ((o + (Tr.un kd ps a).size : Nat) : Int) - 1 = ((o + a.size : Nat) : Int) by simp only [Tr.size]; omega]
    obtain ⟨m, hm⟩ : ∃ m : Nat, m = o + a.size := ⟨_, rfl⟩
    have hIH := fun (W : World) (hB : Below w.heap.size w W) => text_any a h4 A0 c0 l0 o true W (by omega) hla (Kd.zca hr0 hB) (hT.below hB)
    obtain ⟨ia, hia⟩ : ∃ ia : Int, ia = ((o + a.size : Nat) : Int) - 1 := ⟨_, rfl⟩
    rw [← hia, ← hm] at hx
    rw [← hia] at hIH
    rw [← hm]
    obtain ⟨ad, ead, hx0, hx1, hx2, hx3, hx4⟩ := at_T43 hr0 (m : Int) (by omega) (by omega)
    cases ead
    have hx' : zbf l0 (m : Int) = ⟨kd, 0, ia, 0, ps⟩ := hx
    rw [hx', Int.toNat_natCast] at hx0 hx1 hx2 hx3 hx4
    have hlt : m < l0.length := by omega
    obtain ⟨s, hs⟩ : ∃ s, s = baT (tbytes a true) := ⟨_, rfl⟩
    have hss : s.size ≤ 20000 := by rw [hs, baT_size]; omega
    have HS := Lib.hid hs
    have HA := Lib.hid (fun (W : World) (hB : Below w.heap.size w W) => (hIH W hB).mono (fun e w' (h : textPost a true W e w') => (show e = .returned (.string s) ∧ Below W.heap.size W w' from ⟨by rw [hs]; exact h.1, h.2⟩)))
    clear hx hx' hl hla hlen hr0 hz hsz hIH hs hia hm
    have ho1 : (9223372036854775807 < 2 + s.size) = False := eq_false (by omega)
    have ho2 : (9223372036854775807 < 4 + s.size) = False := eq_false (by omega)
    have ho3 : (9223372036854775807 < 1 + (2 + s.size)) = False := eq_false (by omega)
    have ho4 : (9223372036854775807 < 1 + (4 + s.size)) = False := eq_false (by omega)
    have ho5 : (9223372036854775807 < 1 + (2 + s.size) + 1) = False := eq_false (by omega)
    have ho6 : (9223372036854775807 < 1 + (4 + s.size) + 1) = False := eq_false (by omega)
    rcases h1 with rfl | rfl
    · cases p
      all_goals
        go_enter Tryz.func30, Tryz.ntmps30
        go_wp2_with (first | (go_at_call 30; (with_reducible refine (HA.out _ (by repeat (first | exact Below.refl _ _ | apply zab | apply zaa))).mono ?_); rintro e w' ⟨rfl, hb⟩))
        go_ret
        refine ⟨ret_str ?_, zaf (zab (Below.refl _ _) _) hb⟩
        rw [HS.out]
        first | exact (zby [45, 32] _).trans rfl | exact (congrArg (· ++ baT [41]) ((congrArg (baT [40] ++ ·) (zby [45, 32] _)).trans (zby [40] _))).trans ((zby _ [41]).trans rfl)
    · cases p
      all_goals
        go_enter Tryz.func30, Tryz.ntmps30
        go_wp2_with (first | (go_at_call 30; (with_reducible refine (HA.out _ (by repeat (first | exact Below.refl _ _ | apply zab | apply zaa))).mono ?_); rintro e w' ⟨rfl, hb⟩))
        go_ret
        refine ⟨ret_str ?_, zaf (zab (Below.refl _ _) _) hb⟩
        rw [HS.out]
        first | exact (zby [110, 111, 116, 32] _).trans rfl | exact (congrArg (· ++ baT [41]) ((congrArg (baT [40] ++ ·) (zby [110, 111, 116, 32] _)).trans (zby [40] _))).trans ((zby _ [41]).trans rfl)
  | .bin kd ps a b, hw, A0, c0, l0, o, p, w, hz, hl, hr0, hT => by
    obtain ⟨h1, h2, h3, h4, h5, h6⟩ := hw
    have hlen := lies_len hl
    obtain ⟨hla, hlb, hx⟩ := lies_bin hl
    have hsza := zdk a h5 true
    have hszb := zdk b h6 true
    have hszo := opB_len kd
    simp only [Tr.size] at hlen hz
    rw [show ((o + (Tr.bin kd ps a b).size : Nat) : Int) - 1 = ((o + a.size + b.size : Nat) : Int) by simp only [Tr.size]; omega]
    obtain ⟨m, hm⟩ : ∃ m : Nat, m = o + a.size + b.size := ⟨_, rfl⟩
    have hIA := fun (W : World) (hB : Below w.heap.size w W) => text_any a h5 A0 c0 l0 o true W (by omega) hla (Kd.zca hr0 hB) (hT.below hB)
    have hIB := fun (W : World) (hB : Below w.heap.size w W) => text_any b h6 A0 c0 l0 (o + a.size) true W (by omega) hlb (Kd.zca hr0 hB) (hT.below hB)
    obtain ⟨ia, hia⟩ : ∃ ia : Int, ia = ((o + a.size : Nat) : Int) - 1 := ⟨_, rfl⟩
    obtain ⟨ib, hib⟩ : ∃ ib : Int, ib = ((o + a.size + b.size : Nat) : Int) - 1 := ⟨_, rfl⟩
    rw [← hia, ← hib, ← hm] at hx
    rw [← hia] at hIA
    rw [← hib] at hIB
    rw [← hm]
    obtain ⟨ad, ead, hx0, hx1, hx2, hx3, hx4⟩ := at_T43 hr0 (m : Int) (by omega) (by omega)
    cases ead
    have hx' : zbf l0 (m : Int) = ⟨kd, 0, ia, ib, ps⟩ := hx
    rw [hx', Int.toNat_natCast] at hx0 hx1 hx2 hx3 hx4
    have hlt : m < l0.length := by omega
    obtain ⟨sa, hsa⟩ : ∃ s, s = baT (tbytes a true) := ⟨_, rfl⟩
    obtain ⟨sb, hsb⟩ : ∃ s, s = baT (tbytes b true) := ⟨_, rfl⟩
    obtain ⟨so, hso⟩ : ∃ s, s = baT (opB kd) := ⟨_, rfl⟩
    have hza : sa.size ≤ 20000 := by rw [hsa, baT_size]; omega
    have hzb : sb.size ≤ 20000 := by rw [hsb, baT_size]; omega
    have hzo : so.size ≤ 3 := by rw [hso, baT_size]; omega
    obtain ⟨j, hj⟩ : ∃ j : Nat, kd = 7 + (j : Int) := ⟨(kd - 7).toNat, by omega⟩
    have hj12 : j ≤ 12 := by omega
    have hSG := fun (W : World) => signs_cell W j hj12
    rw [← hj, ← hso] at hSG
    have HA := Lib.hid (fun (W : World) (hB : Below w.heap.size w W) => (hIA W hB).mono (fun e w' (h : textPost a true W e w') => (show e = .returned (.string sa) ∧ Below W.heap.size W w' from ⟨by rw [hsa]; exact h.1, h.2⟩)))
    have HB := Lib.hid (fun (W : World) (hB : Below w.heap.size w W) => (hIB W hB).mono (fun e w' (h : textPost b true W e w') => (show e = .returned (.string sb) ∧ Below W.heap.size W w' from ⟨by rw [hsb]; exact h.1, h.2⟩)))
    have HS := Lib.hid hso
    have HSa := Lib.hid hsa
    have HSb := Lib.hid hsb
    have hk1 : (kd == 1) = false := beq_eq_false_iff_ne.2 (by omega)
    have hk4 : decide (kd ≤ 4) = false := decide_eq_false (by omega)
    have hk5 : (kd == 5) = false := beq_eq_false_iff_ne.2 (by omega)
    have hk6 : (kd == 6) = false := beq_eq_false_iff_ne.2 (by omega)
    have hkw : IntKind.u8.wrap (kd - 7) = (j : Int) := by rw [hj]; show ((7 + (j : Int) - 7) % 256) = _; omega
    clear hx hx' hl hla hlb hlen hr0 hz hsza hszb hszo hIA hIB hsa hsb hso hia hib hm hj
    have hj0 : (0 : Int) ≤ (j : Int) := by omega
    have hj13 : (j : Int) < 13 := by omega
    have ho1 : (9223372036854775807 < sa.size + 1) = False := eq_false (by omega)
    have ho2 : (9223372036854775807 < sa.size + 1 + so.size) = False := eq_false (by omega)
    have ho3 : (9223372036854775807 < sa.size + 1 + so.size + 1) = False := eq_false (by omega)
    have ho4 : (9223372036854775807 < sa.size + 1 + so.size + 1 + sb.size) = False := eq_false (by omega)
    have ho5 : (9223372036854775807 < 1 + (sa.size + 1 + so.size + 1 + sb.size)) = False := eq_false (by omega)
    have ho6 : (9223372036854775807 < 1 + (sa.size + 1 + so.size + 1 + sb.size) + 1) = False := eq_false (by omega)
    go_enter Tryz.func30, Tryz.ntmps30
    go_wp2
    have hb1 : Below w.heap.size w (w.alloc (.cells #[.int .u8 kd, .int .i64 0, .int .i64 ia, .int .i64 ib, .int .i64 ps] 43)) := zab (Below.refl _ _) _
    have hn1 : (w.alloc (.cells #[.int .u8 kd, .int .i64 0, .int .i64 ia, .int .i64 ib, .int .i64 ps] 43)).heap[w.heap.size]? = some (.cells #[.int .u8 kd, .int .i64 0, .int .i64 ia, .int .i64 ib, .int .i64 ps] 43 (0, 0)) := heap_alloc_new _ _
    generalize (w.alloc (.cells #[.int .u8 kd, .int .i64 0, .int .i64 ia, .int .i64 ib, .int .i64 ps] 43)) = w1 at hb1 hn1 ⊢
    have hc0 : w1.cell? ⟨w.heap.size, 0, none⟩ = some (.int .u8 kd) := (zal hn1 0).trans rfl
    have hc2 : w1.cell? ⟨w.heap.size, 2, none⟩ = some (.int .i64 ia) := (zal hn1 2).trans rfl
    have hc3 : w1.cell? ⟨w.heap.size, 3, none⟩ = some (.int .i64 ib) := (zal hn1 3).trans rfl
    have H1 := Lib.hid hb1
    clear hn1 hb1
    refine wp_region_noPanic ?_
    refine wp_region_held_drew (S := (fun w' => w'.cell? ⟨w.heap.size, 0, none⟩ = some (.int .u8 kd) ∧ w'.cell? ⟨w.heap.size, 2, none⟩ = some (.int .i64 ia) ∧ w'.cell? ⟨w.heap.size, 3, none⟩ = some (.int .i64 ib))) (by kernel_rfl) ?_ (fun hHeld => ?_)
    · ((try dsimp only); (first | go_keep | exact keep3 hbb (by assumption) | exact keep3 hba ⟨hc0, hc2, hc3⟩))
    refine wpAnyH_take (i := 0) (oi := _) (v := ?_) rfl (by kernel_rfl) (by kernel_rfl) (by kernel_rfl) (fun _ _ _ h => h) (Or.inl ⟨by rfl, ?_⟩) (by assumption) ?_
    rotate_left 1
    · ((intro w hSw); (try dsimp only at hSw); go_simp; (try with_reducible rfl))
    try simp only [Act.put, List.setIfInBounds_toArray, List.set_cons_zero, List.set_cons_succ]
    refine wpAnyH_take (i := 1) (oi := _) (v := ?_) rfl (by kernel_rfl) (by kernel_rfl) (by kernel_rfl) (fun _ _ _ h => h) (Or.inl ⟨by rfl, ?_⟩) (by assumption) ?_
    rotate_left 1
    · ((intro w hSw); (try dsimp only at hSw); go_simp; (try with_reducible rfl))
    try simp only [Act.put, List.setIfInBounds_toArray, List.set_cons_zero, List.set_cons_succ]
    refine wpAnyH_take (i := 2) (oi := _) (v := ?_) rfl (by kernel_rfl) (by kernel_rfl) (by kernel_rfl) (fun _ _ _ h => h) (Or.inl ⟨by rfl, ?_⟩) (by assumption) ?_
    rotate_left 1
    · ((intro w hSw); (try dsimp only at hSw); go_simp; (try with_reducible rfl))
    try simp only [Act.put, List.setIfInBounds_toArray, List.set_cons_zero, List.set_cons_succ]
    refine wpAnyH_take (i := 6) (oi := _) (v := ?_) rfl (by kernel_rfl) (by kernel_rfl) (by kernel_rfl) (fun _ _ _ h => h) (Or.inl ⟨by rfl, ?_⟩) (by assumption) ?_
    rotate_left 1
    · ((intro w hSw); (try dsimp only at hSw); go_simp; (try with_reducible rfl))
    try simp only [Act.put, List.setIfInBounds_toArray, List.set_cons_zero, List.set_cons_succ]
    refine wpAnyH_take (i := 7) (oi := _) (v := ?_) rfl (by kernel_rfl) (by kernel_rfl) (by kernel_rfl) (fun _ _ _ h => h) (Or.inl ⟨by rfl, ?_⟩) (by assumption) ?_
    rotate_left 1
    · ((intro w hSw); (try dsimp only at hSw); go_simp; (try with_reducible rfl))
    try simp only [Act.put, List.setIfInBounds_toArray, List.set_cons_zero, List.set_cons_succ]
    refine wpAnyH_take (i := 8) (oi := _) (v := ?_) rfl (by kernel_rfl) (by kernel_rfl) (by kernel_rfl) (fun _ _ _ h => h) (Or.inl ⟨by rfl, ?_⟩) (by assumption) ?_
    rotate_left 1
    · ((intro w hSw); (try dsimp only at hSw); go_simp; (try with_reducible rfl))
    try simp only [Act.put, List.setIfInBounds_toArray, List.set_cons_zero, List.set_cons_succ]
    refine wpAnyH_take (i := 13) (oi := _) (v := ?_) rfl (by kernel_rfl) (by kernel_rfl) (by kernel_rfl) (fun _ _ _ h => h) (Or.inl ⟨by rfl, ?_⟩) (by assumption) ?_
    rotate_left 1
    · ((intro w hSw); (try dsimp only at hSw); go_simp; (try with_reducible rfl))
    try simp only [Act.put, List.setIfInBounds_toArray, List.set_cons_zero, List.set_cons_succ]
    refine wpAnyH_take (i := 14) (oi := _) (v := ?_) rfl (by kernel_rfl) (by kernel_rfl) (by kernel_rfl) (fun _ _ _ h => h) (Or.inl ⟨by rfl, ?_⟩) (by assumption) ?_
    rotate_left 1
    · ((intro w hSw); (try dsimp only at hSw); go_simp; (try with_reducible rfl))
    try simp only [Act.put, List.setIfInBounds_toArray, List.set_cons_zero, List.set_cons_succ]
    refine wpAnyH_take (i := 15) (oi := _) (v := ?_) rfl (by kernel_rfl) (by kernel_rfl) (by kernel_rfl) (fun _ _ _ h => h) (Or.inl ⟨by rfl, ?_⟩) (by assumption) ?_
    rotate_left 1
    · ((intro w hSw); (try dsimp only at hSw); go_simp; (try with_reducible rfl))
    try simp only [Act.put, List.setIfInBounds_toArray, List.set_cons_zero, List.set_cons_succ]
    refine wpAnyH_ready (rs := [3]) (by kernel_rfl) (by simp) ?_
    refine AllReadyH.cons (o := _) rfl (fun K hK => ?_) ?_
    · skip
      go_simp
      (go_at_call 30; (with_reducible refine (HA.out _ (by repeat (first | exact H1.out | apply zac | apply zaa))).mono ?_); rintro e w2 ⟨rfl, hba⟩)
      try go_wp2_with fail
      refine hK.out _ _ ?_ (fun hHeld => ?_)
      · ((try dsimp only); (first | go_keep | exact keep3 hbb (by assumption) | exact keep3 hba ⟨hc0, hc2, hc3⟩))
      clear hK K
      try simp only [Act.put, List.setIfInBounds_toArray, List.set_cons_zero, List.set_cons_succ]
      refine wpAnyH_take (i := 4) (oi := _) (v := ?_) rfl (by kernel_rfl) (by kernel_rfl) (by kernel_rfl) (fun _ _ _ h => h) (Or.inl ⟨by rfl, ?_⟩) (by assumption) ?_
      rotate_left 1
      · ((intro w hSw); (try dsimp only at hSw); go_simp; (try with_reducible rfl))
      try simp only [Act.put, List.setIfInBounds_toArray, List.set_cons_zero, List.set_cons_succ]
      refine wpAnyH_ready (rs := [5]) (by kernel_rfl) (by simp) ?_
      refine AllReadyH.cons (o := _) rfl (fun K hK => ?_) ?_
      · skip
        go_simp
        (go_at_call 46; (with_reducible refine (signs_any _).mono ?_); rintro e w' ⟨rfl, rfl⟩)
        try go_wp2_with fail
        refine hK.out _ _ ?_ (fun hHeld => ?_)
        · ((try dsimp only); (first | go_keep | exact keep3 hbb (by assumption) | exact keep3 hba ⟨hc0, hc2, hc3⟩))
        clear hK K
        try simp only [Act.put, List.setIfInBounds_toArray, List.set_cons_zero, List.set_cons_succ]
        refine wpAnyH_take (i := 9) (oi := _) (v := ?_) rfl (by kernel_rfl) (by kernel_rfl) (by kernel_rfl) (fun _ _ _ h => h) (Or.inl ⟨by rfl, ?_⟩) (by assumption) ?_
        rotate_left 1
        · ((intro w hSw); (try dsimp only at hSw); go_simp; (try with_reducible rfl))
        try simp only [Act.put, List.setIfInBounds_toArray, List.set_cons_zero, List.set_cons_succ]
        refine wpAnyH_ready (rs := [10, 16]) (by kernel_rfl) (by simp) ?_
        refine AllReadyH.cons (o := _) rfl (fun K hK => ?_) ?_
        · skip
          go_simp
          refine hK.out _ _ ?_ (fun hHeld => ?_)
          · ((try dsimp only); (first | go_keep | exact keep3 hbb (by assumption) | exact keep3 hba ⟨hc0, hc2, hc3⟩))
          clear hK K
          try simp only [Act.put, List.setIfInBounds_toArray, List.set_cons_zero, List.set_cons_succ]
          refine wpAnyH_take (i := 11) (oi := _) (v := ?_) rfl (by kernel_rfl) (by kernel_rfl) (by kernel_rfl) (fun _ _ _ h => h) (Or.inl ⟨by rfl, ?_⟩) (by assumption) ?_
          rotate_left 1
          · ((intro w hSw); (try dsimp only at hSw); go_simp; (try with_reducible rfl))
          try simp only [Act.put, List.setIfInBounds_toArray, List.set_cons_zero, List.set_cons_succ]
          refine wpAnyH_take (i := 12) (oi := _) (v := ?_) rfl (by kernel_rfl) (by kernel_rfl) (by kernel_rfl) (fun _ _ _ h => h) (Or.inl ⟨by rfl, ?_⟩) (by assumption) ?_
          rotate_left 1
          · ((intro w hSw); (try dsimp only at hSw); go_simp; (try with_reducible rfl))
          try simp only [Act.put, List.setIfInBounds_toArray, List.set_cons_zero, List.set_cons_succ]
          refine wpAnyH_ready (rs := [16]) (by kernel_rfl) (by simp) ?_
          refine AllReadyH.cons (o := _) rfl (fun K hK => ?_) ?_
          · skip
            go_simp
            (go_at_call 30; (with_reducible refine (HB.out _ (by repeat (first | exact H1.out | apply zac | apply zaa | apply zab | (refine zaf ?_ hba)))).mono ?_); rintro e w3 ⟨rfl, hbb⟩; have hbc := cell_kept_below hbb)
            try go_wp2_with fail
            refine hK.out _ _ ?_ (fun hHeld => ?_)
            · ((try dsimp only); (first | go_keep | exact keep3 hbb (by assumption) | exact keep3 hba ⟨hc0, hc2, hc3⟩))
            clear hK K
            try simp only [Act.put, List.setIfInBounds_toArray, List.set_cons_zero, List.set_cons_succ]
            refine wpAnyH_take (i := 17) (oi := _) (v := ?_) rfl (by kernel_rfl) (by kernel_rfl) (by kernel_rfl) (fun _ _ _ h => h) (Or.inl ⟨by rfl, ?_⟩) (by assumption) ?_
            rotate_left 1
            · ((intro w hSw); (try dsimp only at hSw); go_simp; (try with_reducible rfl))
            try simp only [Act.put, List.setIfInBounds_toArray, List.set_cons_zero, List.set_cons_succ]
            refine wpAnyH_take (i := 18) (oi := _) (v := ?_) rfl (by kernel_rfl) (by kernel_rfl) (by kernel_rfl) (fun _ _ _ h => h) (Or.inl ⟨by rfl, ?_⟩) (by assumption) ?_
            rotate_left 1
            · ((intro w hSw); (try dsimp only at hSw); go_simp; (try with_reducible rfl))
            try simp only [Act.put, List.setIfInBounds_toArray, List.set_cons_zero, List.set_cons_succ]
            refine wpAnyH_done (by kernel_rfl) ?_ _
            refine NoPanic.normal ?_
            cases p
            all_goals
              go_wp2
              go_ret
              refine ⟨ret_str ?_, by repeat (first | exact H1.out | apply zac | apply zaa | apply zab | (refine zaf ?_ hbb) | (refine zaf ?_ hba))⟩
              rw [HS.out, HSa.out, HSb.out]
              first
                | exact bin_text _ _ _
                | exact (congrArg (fun x => baT [40] ++ x ++ baT [41]) (bin_text _ _ _)).trans ((congrArg (· ++ baT [41]) (zby [40] _)).trans ((zby _ [41]).trans rfl))
          exact AllReadyH.nil
        refine AllReadyH.cons (o := _) rfl (fun K hK => ?_) ?_
        · skip
          go_simp
          (go_at_call 30; (with_reducible refine (HB.out _ (by repeat (first | exact H1.out | apply zac | apply zaa | apply zab | (refine zaf ?_ hba)))).mono ?_); rintro e w3 ⟨rfl, hbb⟩; have hbc := cell_kept_below hbb)
          try go_wp2_with fail
          refine hK.out _ _ ?_ (fun hHeld => ?_)
          · ((try dsimp only); (first | go_keep | exact keep3 hbb (by assumption) | exact keep3 hba ⟨hc0, hc2, hc3⟩))
          clear hK K
          try simp only [Act.put, List.setIfInBounds_toArray, List.set_cons_zero, List.set_cons_succ]
          refine wpAnyH_ready (rs := [10]) (by kernel_rfl) (by simp) ?_
          refine AllReadyH.cons (o := _) rfl (fun K hK => ?_) ?_
          · skip
            go_simp
            refine hK.out _ _ ?_ (fun hHeld => ?_)
            · ((try dsimp only); (first | go_keep | exact keep3 hbb (by assumption) | exact keep3 hba ⟨hc0, hc2, hc3⟩))
            clear hK K
            try simp only [Act.put, List.setIfInBounds_toArray, List.set_cons_zero, List.set_cons_succ]
            refine wpAnyH_take (i := 11) (oi := _) (v := ?_) rfl (by kernel_rfl) (by kernel_rfl) (by kernel_rfl) (fun _ _ _ h => h) (Or.inl ⟨by rfl, ?_⟩) (by assumption) ?_
            rotate_left 1
            · ((intro w hSw); (try dsimp only at hSw); go_simp; (try with_reducible rfl))
            try simp only [Act.put, List.setIfInBounds_toArray, List.set_cons_zero, List.set_cons_succ]
            refine wpAnyH_take (i := 12) (oi := _) (v := ?_) rfl (by kernel_rfl) (by kernel_rfl) (by kernel_rfl) (fun _ _ _ h => h) (Or.inl ⟨by rfl, ?_⟩) (by assumption) ?_
            rotate_left 1
            · ((intro w hSw); (try dsimp only at hSw); go_simp; (try with_reducible rfl))
            try simp only [Act.put, List.setIfInBounds_toArray, List.set_cons_zero, List.set_cons_succ]
            refine wpAnyH_take (i := 17) (oi := _) (v := ?_) rfl (by kernel_rfl) (by kernel_rfl) (by kernel_rfl) (fun _ _ _ h => h) (Or.inl ⟨by rfl, ?_⟩) (by assumption) ?_
            rotate_left 1
            · ((intro w hSw); (try dsimp only at hSw); go_simp; (try with_reducible rfl))
            try simp only [Act.put, List.setIfInBounds_toArray, List.set_cons_zero, List.set_cons_succ]
            refine wpAnyH_take (i := 18) (oi := _) (v := ?_) rfl (by kernel_rfl) (by kernel_rfl) (by kernel_rfl) (fun _ _ _ h => h) (Or.inl ⟨by rfl, ?_⟩) (by assumption) ?_
            rotate_left 1
            · ((intro w hSw); (try dsimp only at hSw); go_simp; (try with_reducible rfl))
            try simp only [Act.put, List.setIfInBounds_toArray, List.set_cons_zero, List.set_cons_succ]
            refine wpAnyH_done (by kernel_rfl) ?_ _
            refine NoPanic.normal ?_
            cases p
            all_goals
              go_wp2
              go_ret
              refine ⟨ret_str ?_, by repeat (first | exact H1.out | apply zac | apply zaa | apply zab | (refine zaf ?_ hbb) | (refine zaf ?_ hba))⟩
              rw [HS.out, HSa.out, HSb.out]
              first
                | exact bin_text _ _ _
                | exact (congrArg (fun x => baT [40] ++ x ++ baT [41]) (bin_text _ _ _)).trans ((congrArg (· ++ baT [41]) (zby [40] _)).trans ((zby _ [41]).trans rfl))
          exact AllReadyH.nil
        exact AllReadyH.nil
      exact AllReadyH.nil
    exact AllReadyH.nil
end Go.Proofs.YtgmmngipnjmkfaaGreatDoor.Hand
end
