/- Lemmas of the proof (cut to what it uses, by wip/trim.py). -/
import Derived.Test.YtgmmngipnjmkfaaGreatDoorEo2
import Derived.Test.YtgmmngipnjmkfaaGreatDoorEo3
import Derived.Test.YtgmmngipnjmkfaaGreatDoorEo6
import Derived.Test.YtgmmngipnjmkfaaGreatDoorEo7
import Derived.Test.YtgmmngipnjmkfaaGreatDoorEo8
import Derived.Test.YtgmmngipnjmkfaaGreatDoorEo9
section
namespace Go.Proofs.YtgmmngipnjmkfaaGreatDoor.Q
open Go.Proofs.YtgmmngipnjmkfaaGreatDoor.Hand
open Go.RowKit Go.Proofs.YtgmmngipnjmkfaaGreatDoorW.PrintWords Go.Proofs.YtgmmngipnjmkfaaGreatDoorW.PrintLast Go.Proofs.YtgmmngipnjmkfaaGreatDoorW.PrintMore
attribute [local go_sem] zda zdb zdm zdn zcq zcr zdc zdd
set_option linter.unusedVariables false
set_option linter.unusedSimpArgs false
def za8.l0 (k : Nat) : List (S33) → Option Bool
  | [] => some false
  | t :: r => (zbb.f k [t]).bind fun x => if x.2 = 8 ∨ t.f2 < 0 ∨ 400 < t.f2 then some true else za8.l0 k r
def za8.f (k : Nat) (l0 : List (S33)) (a1 : Int) : Option ((List (S43)) × Int × Int) :=
  if 200 < l0.length then some ([], 0, 4) else (za8.l0 k l0).bind fun b => if b then some ([], 0, 8) else if a1 < 0 ∨ (l0.length : Int) < a1 then some ([], 0, 2) else zbm.f k l0 a1 0 1
theorem za8.zdf : ∀ (l0 : List (S33)) k, LeO (za8.l0 k l0) (za8.l0 (k + 1) l0)
  | [], k => LeO.refl _
  | t :: r, k => by
    simp only [za8.l0]
    refine LeO.bind (zbb.mono _ _) (fun x => LeO.ite (LeO.refl _) (za8.zdf r k))
theorem za8.mono : ∀ a0 a1 k, LeO (za8.f k a0 a1) (za8.f (k + 1) a0 a1) := by
  intro a0 a1 k
  unfold za8.f
  refine LeO.ite (LeO.refl _) (LeO.bind (za8.zdf _ _) (fun x => LeO.ite (LeO.refl _) (LeO.ite (LeO.refl _) (zbm.mono _ _ _ _ _))))
theorem tok_box {w W : World} {A : Option Addr} {c : Nat} {l0 : List (S33)} (hr : Kd.C k33 w A l0.length l0) (hb : Below w.heap.size w W) (i : Nat) (hi : i < l0.length) : ∃ ad, A = some ad ∧ W.cell? (ad.add (i * 3)) = some (.int .u8 l0[i].f0) ∧ W.cell? ⟨(ad.add (i * 3)).block, (ad.add (i * 3)).off + 1, none⟩ = some (.string l0[i].f1) ∧ W.cell? ⟨(ad.add (i * 3)).block, (ad.add (i * 3)).off + 2, none⟩ = some (.int .i64 l0[i].f2) := by
  obtain ⟨ad, ead, h0, h1, h2⟩ := zc1 hr (i : Int) (by omega) (by omega)
  cases ead
  rw [Int.toNat_natCast] at h0 h1 h2
  have e : za6 l0 (i : Int) = l0[i] := by unfold za6; rw [Int.toNat_natCast, List.getD_eq_getElem?_getD, List.getElem?_eq_getElem hi]; rfl
  rw [e] at h0 h1 h2
  exact ⟨ad, rfl, (hb.cell (World.block_lt_of_cell? w _ h0)).trans h0, (hb.cell (World.block_lt_of_cell? w _ h1)).trans h1, (hb.cell (World.block_lt_of_cell? w _ h2)).trans h2⟩
theorem tok_row {w W : World} {A : Option Addr} {c : Nat} {l0 : List (S33)} (hr : Kd.C k33 w A l0.length l0) (hc : l0.length ≤ c) (hb : Below w.heap.size w W) (i : Nat) (hi : i < l0.length) : Kd.C k33 W (if c = i then A else A.map (·.add (i * 3))) ([l0[i]] : List (S33)).length [l0[i]] := by
  have h1 := Kd.C_take (m := 1) (Kd.C_drop (m := i) (c := c) (Kd.zca hr hb) (by omega) hc) (by rw [List.length_drop]; omega)
  rw [show (l0.drop i).take 1 = [l0[i]] by rw [List.drop_eq_getElem_cons hi]; rfl] at h1
  exact h1
set_option maxRecDepth 100000 in
set_option maxHeartbeats 8000000 in
theorem za8.calls (k : Nat) (A0 : Option Addr) (c0 : Nat) (l0 : List (S33)) (a1 : Int) (r1 : List (S43)) (r2 : Int) (r3 : Int) (w : World) (hr0 : Kd.C k33 w A0 l0.length l0) (hc0 : l0.length ≤ c0) (hT : Tabs w) (h : za8.f k l0 a1 = some (r1, r2, r3)) :
    Calls Tryz.prog 10 #[.slice A0 l0.length c0, .int .i64 a1] w fun e w' => ∃ v0_ : Value, e = .returned (.tuple #[v0_, .int .i64 r2, .int .i64 r3]) ∧ Kd.R k43 43 w' w.heap.size (fun _ => True) v0_ r1 ∧ Below w.heap.size w w' := by
  unfold za8.f at h
  by_cases hl : 200 < l0.length
  · rw [if_pos hl] at h
    injection h with h; injection h with e1 e2; injection e2 with e2 e3; subst e1; subst e2; subst e3
    have h1 : decide ((200 : Int) < (l0.length : Int)) = true := decide_eq_true (by omega)
    have h2 : decide (200 < l0.length) = true := decide_eq_true hl
    clear hl hr0 hT
    go_enter Tryz.func10, Tryz.ntmps10
    go_wp2
    go_ret3
    exact ⟨_, rfl, Kd.R_nil _ _ _ _ _, Below.refl _ _⟩
  · rw [if_neg hl] at h
    have h1 : decide ((200 : Int) < (l0.length : Int)) = false := decide_eq_false (by omega)
    have h2 : decide (200 < l0.length) = false := decide_eq_false hl
    cases hb : za8.l0 k l0 with
    | none => rw [hb] at h; cases h
    | some b =>
      rw [hb] at h
      simp only [Option.bind_some] at h
      have HR := Lib.hid hr0
      have HC := Lib.hid hc0
      have HT := Lib.hid hT
      have HB := Lib.hid hb
      have HH := Lib.hid h
      have HL := Lib.hid hl
      clear hr0 hc0 hT hb h hl
      have hu := Tryz.underlying25
      go_enter Tryz.func10, Tryz.ntmps10
      go_wp2
      clear h1 h2
      go_loopg [18] l0.length (fun kq v18 W' => ∃ i : Nat, v18 = .int .i64 (i : Int) ∧ zad (i + kq = l0.length) ∧ zad (za8.l0 k (l0.drop i) = some b) ∧ zad (Below w.heap.size w W'))
      case atStart => exact ⟨0, rfl, ⟨by omega⟩, ⟨HB.out⟩, ⟨Below.refl _ _⟩⟩
      case round =>
        obtain ⟨i, rfl, HQ, HP, HW⟩ := hrel
        by_cases hi : i < l0.length
        · have hp := HP.out
          rw [List.drop_eq_getElem_cons hi] at hp
          simp only [za8.l0] at hp
          cases hj : zbb.f k [l0[i]] with
          | none => rw [hj] at hp; cases hp
          | some x =>
            rw [hj] at hp
            simp only [Option.bind_some] at hp
            obtain ⟨ad, had, t0, t1, t2⟩ := tok_box (c := c0) HR.out HW.out i hi
            subst had
            have htr := tok_row HR.out HC.out HW.out i hi
            obtain ⟨A', hA'⟩ : ∃ A', A' = (if c0 = i then some ad else (some ad).map (·.add (i * 3))) := ⟨_, rfl⟩
            rw [← hA'] at htr
            have hcut : ∀ W : World, (Instr.slice 25 (.slice (some ad) l0.length c0) (some (.int .i64 (i : Int))) (some (.int .i64 ((i : Int) + 1))) none).run Tryz.prog W = .ok (.slice A' 1 (c0 - i)) W := by
              intro W
              have hc1 := cut_mid (P := Tryz.prog) 25 33 .i64 .i64 Tryz.underlying25 (i := _) rfl 3 rfl (some ad) l0.length c0 (i : Int) ((i : Int) + 1) (by omega) (by omega) (by omega) HC.out W
              rw [hc1, Int.toNat_natCast, show ((i : Int) + 1).toNat = i + 1 by omega, ← hA', show i + 1 - i = 1 by omega]
            generalize l0[i] = tk at t0 t1 t2 hp hj htr
            obtain ⟨q0, q1, q2⟩ := tk
            simp only at t0 t1 t2 hp
            have HJ := Lib.hid hj
            have HTR := Lib.hid htr
            have HA := Lib.hid hA'
            have HI := Lib.hid hi
            have hlti : decide ((i : Int) < (l0.length : Int)) = true := decide_eq_true (by omega)
            have hltn : (i : Int) < (l0.length : Int) := by omega
            have hltj : decide (i < l0.length) = true := decide_eq_true hi
            have hwi : wrap64 ((i : Int) + 1) = (i : Int) + 1 := by have := HL.out; exact zb4 (by omega) (by omega)
            obtain ⟨x1, x2⟩ := x
            have HTW := Lib.hid (fun (W : World) (hb : Below w.heap.size w W) => Tabs.below HT.out hb)
            have HCc := Lib.hid (show ([⟨q0, q1, q2⟩] : List (S33)).length ≤ c0 - i by have := HC.out; simp; omega)
            by_cases c1 : x2 = 8
            · have d1 : (x2 == 8) = true := beq_iff_eq.2 c1
              have hcs := c1
              rw [if_pos ((.inl c1))] at hp
              injection hp with hp
              subst hp
              have hh := HH.out
              rw [if_pos rfl] at hh
              injection hh with hh; injection hh with e1 e2; injection e2 with e2 e3; subst e1; subst e2; subst e3
              clear hj htr hA' HP hi HH HB hcs c1
              go_wp2_with (first | (go_at_call 28; refine (zbb.calls k A' (c0 - i) [⟨q0, q1, q2⟩] x1 x2 _ (Kd.zca HTR.out ?b1) HCc.out (HTW.out _ ?b2) HJ.out).mono ?_; (case b1 => repeat (first | exact Below.refl _ _ | apply zab)); (case b2 => repeat (first | exact HW.out | apply zab)); rintro e w1 ⟨rfl, hb⟩; have HBW := Lib.hid (zaf (zab HW.out (.cells #[.int .u8 q0, .string q1, .int .i64 q2] 33)) hb); have hbc : w1.cell? ⟨wr.heap.size, 2, none⟩ = some (.int .i64 q2) := (hb.cell (p := ⟨wr.heap.size, 2, none⟩) (by simp)).trans ((zal (heap_alloc_new wr (.cells #[.int .u8 q0, .string q1, .int .i64 q2] 33)) 2).trans rfl); clear hb))
              go_ret3
              exact ⟨_, rfl, Kd.R_nil _ _ _ _ _, HBW.out⟩
            have d1 : (x2 == 8) = false := beq_eq_false_iff_ne.2 c1
            by_cases c2 : q2 < 0
            · have d2 : decide (q2 < 0) = true := decide_eq_true c2
              have hcs := c1
              rw [if_pos ((.inr (.inl c2)))] at hp
              injection hp with hp
              subst hp
              have hh := HH.out
              rw [if_pos rfl] at hh
              injection hh with hh; injection hh with e1 e2; injection e2 with e2 e3; subst e1; subst e2; subst e3
              clear hj htr hA' HP hi HH HB hcs c1
              go_wp2_with (first | (go_at_call 28; refine (zbb.calls k A' (c0 - i) [⟨q0, q1, q2⟩] x1 x2 _ (Kd.zca HTR.out ?b1) HCc.out (HTW.out _ ?b2) HJ.out).mono ?_; (case b1 => repeat (first | exact Below.refl _ _ | apply zab)); (case b2 => repeat (first | exact HW.out | apply zab)); rintro e w1 ⟨rfl, hb⟩; have HBW := Lib.hid (zaf (zab HW.out (.cells #[.int .u8 q0, .string q1, .int .i64 q2] 33)) hb); have hbc : w1.cell? ⟨wr.heap.size, 2, none⟩ = some (.int .i64 q2) := (hb.cell (p := ⟨wr.heap.size, 2, none⟩) (by simp)).trans ((zal (heap_alloc_new wr (.cells #[.int .u8 q0, .string q1, .int .i64 q2] 33)) 2).trans rfl); clear hb))
              go_ret3
              exact ⟨_, rfl, Kd.R_nil _ _ _ _ _, HBW.out⟩
            have d2 : decide (q2 < 0) = false := decide_eq_false c2
            by_cases c3 : 400 < q2
            · have d3 : decide ((400 : Int) < q2) = true := decide_eq_true c3
              have hcs := c1
              rw [if_pos ((.inr (.inr c3)))] at hp
              injection hp with hp
              subst hp
              have hh := HH.out
              rw [if_pos rfl] at hh
              injection hh with hh; injection hh with e1 e2; injection e2 with e2 e3; subst e1; subst e2; subst e3
              clear hj htr hA' HP hi HH HB hcs c1
              go_wp2_with (first | (go_at_call 28; refine (zbb.calls k A' (c0 - i) [⟨q0, q1, q2⟩] x1 x2 _ (Kd.zca HTR.out ?b1) HCc.out (HTW.out _ ?b2) HJ.out).mono ?_; (case b1 => repeat (first | exact Below.refl _ _ | apply zab)); (case b2 => repeat (first | exact HW.out | apply zab)); rintro e w1 ⟨rfl, hb⟩; have HBW := Lib.hid (zaf (zab HW.out (.cells #[.int .u8 q0, .string q1, .int .i64 q2] 33)) hb); have hbc : w1.cell? ⟨wr.heap.size, 2, none⟩ = some (.int .i64 q2) := (hb.cell (p := ⟨wr.heap.size, 2, none⟩) (by simp)).trans ((zal (heap_alloc_new wr (.cells #[.int .u8 q0, .string q1, .int .i64 q2] 33)) 2).trans rfl); clear hb))
              go_ret3
              exact ⟨_, rfl, Kd.R_nil _ _ _ _ _, HBW.out⟩
            have d3 : decide ((400 : Int) < q2) = false := decide_eq_false c3
            rw [if_neg (by omega)] at hp
            have HP2 := Lib.hid hp
            clear hj htr hA' HP hi hp c1
            go_wp2_with (first | (go_at_call 28; refine (zbb.calls k A' (c0 - i) [⟨q0, q1, q2⟩] x1 x2 _ (Kd.zca HTR.out ?b1) HCc.out (HTW.out _ ?b2) HJ.out).mono ?_; (case b1 => repeat (first | exact Below.refl _ _ | apply zab)); (case b2 => repeat (first | exact HW.out | apply zab)); rintro e w1 ⟨rfl, hb⟩; have HBW := Lib.hid (zaf (zab HW.out (.cells #[.int .u8 q0, .string q1, .int .i64 q2] 33)) hb); have hbc : w1.cell? ⟨wr.heap.size, 2, none⟩ = some (.int .i64 q2) := (hb.cell (p := ⟨wr.heap.size, 2, none⟩) (by simp)).trans ((zal (heap_alloc_new wr (.cells #[.int .u8 q0, .string q1, .int .i64 q2] 33)) 2).trans rfl); clear hb))
            go_roundg (l0.length - (i + 1))
            case measure => have := HQ.out; have := HI.out; omega
            case rel => exact ⟨i + 1, by go_num, ⟨by have := HQ.out; have := HI.out; omega⟩, ⟨HP2.out⟩, ⟨HBW.out⟩⟩
        · have hin : i = l0.length := by have := HQ.out; omega
          have hp := HP.out
          subst hin
          rw [List.drop_length] at hp
          injection hp with hp
          subst hp
          have hlti : decide ((l0.length : Int) < (l0.length : Int)) = false := decide_eq_false (by omega)
          have hh := HH.out
          rw [if_neg (by decide)] at hh
          clear HP HH HB hi
          by_cases c1 : a1 < 0
          · have d1 : decide (a1 < 0) = true := decide_eq_true c1
            rw [if_pos (.inl c1)] at hh
            injection hh with hh; injection hh with e1 e2; injection e2 with e2 e3; subst e1; subst e2; subst e3
            go_wp2
            go_ret3
            exact ⟨_, rfl, Kd.R_nil _ _ _ _ _, HW.out⟩
          have d1 : decide (a1 < 0) = false := decide_eq_false c1
          by_cases c2 : (l0.length : Int) < a1
          · have d2 : decide ((l0.length : Int) < a1) = true := decide_eq_true c2
            rw [if_pos (.inr c2)] at hh
            injection hh with hh; injection hh with e1 e2; injection e2 with e2 e3; subst e1; subst e2; subst e3
            go_wp2
            go_ret3
            exact ⟨_, rfl, Kd.R_nil _ _ _ _ _, HW.out⟩
          have d2 : decide ((l0.length : Int) < a1) = false := decide_eq_false c2
          rw [if_neg (by omega)] at hh
          have HE := Lib.hid hh
          have HTW := Lib.hid (fun (W : World) (hb : Below w.heap.size w W) => Tabs.below HT.out hb)
          clear hh c1 c2
          go_wp2_with (first | (go_at_call 29; refine (zbm.calls k wr.heap.size l0 a1 0 1 r1 r2 r3 w _ (IsS64.new w wr A0 c0 l0 a1 0 HW.out HR.out) (zab HW.out _) (HTW.out _ (zab HW.out _)) HE.out).mono ?_; rintro e w1 ⟨v0, rfl, hr, hi, hb, hk⟩; obtain ⟨A3, c3, hg, _, _⟩ := hi; have hc1 := zcs hg; have hc2 := zct hg; have HRR := Lib.hid hr; have HBB := Lib.hid hb; clear hr hb hk hg))
          go_quiet (fail)
          go_wp2
          go_ret3
          exact ⟨v0, rfl, by repeat (first | exact Kd.zbp HRR.out (by have := HW.out.size; simp; omega) | apply Kd.za1 | apply Kd.za9), by repeat (first | exact HBB.out | apply zaa | apply zac)⟩
def zc7.f (l0 : List S43) (a1 : Int) (a2 : Bool) : Option ByteArray :=
  if Go.Proofs.YtgmmngipnjmkfaaGreatDoor.Pure.chk l0 = 0 ∧ l0.all (fun x => decide (x.f1 ≤ 9223372036854775807)) = true ∧ a1 = (l0.length : Int) - 1 then some (baT (Go.Proofs.YtgmmngipnjmkfaaGreatDoor.Pure.textN 61 l0 a1 a2)) else none
theorem zc7.calls (A0 : Option Addr) (c0 : Nat) (l0 : List S43) (a1 : Int) (a2 : Bool) (r : ByteArray) (w : World) (hr0 : Kd.C k43 w A0 l0.length l0) (hc0 : l0.length ≤ c0) (hT : Tabs w) (h : zc7.f l0 a1 a2 = some r) :
    Calls Tryz.prog 30 #[.slice A0 l0.length c0, .int .i64 a1, .bool a2] w fun e w' => e = .returned (.string r) ∧ Below w.heap.size w w' := by
  unfold zc7.f at h
  by_cases e : Go.Proofs.YtgmmngipnjmkfaaGreatDoor.Pure.chk l0 = 0 ∧ l0.all (fun x => decide (x.f1 ≤ 9223372036854775807)) = true ∧ a1 = (l0.length : Int) - 1
  · rw [if_pos e] at h
    obtain rfl := Option.some.inj h
    obtain ⟨h1, h2, rfl⟩ := e
    obtain ⟨t, ht, rfl⟩ := Go.Proofs.YtgmmngipnjmkfaaGreatDoor.Pure.chk_zero (fun x hx => show x.f1 ≤ 9223372036854775807 from of_decide_eq_true (List.all_eq_true.1 h2 x hx)) h1
    have hc := text_any t ht.1 A0 c0 _ 0 a2 w (by have := ht.2.1; omega) (Go.Proofs.YtgmmngipnjmkfaaGreatDoor.Pure.lies_root t) hr0 hT
    have e1 : (((t.flat 0).length : Nat) : Int) - 1 = (((0 + t.size : Nat)) : Int) - 1 := by rw [t.zb7]; omega
    rw [e1, Go.Proofs.YtgmmngipnjmkfaaGreatDoor.Pure.textN_tree t ht.1 61 _ 0 a2 (by have := ht.2.2; omega) (Go.Proofs.YtgmmngipnjmkfaaGreatDoor.Pure.lies_root t)]
    exact hc
  · rw [if_neg e] at h; cases h
def zc8.f (l0 : List (S43)) : Option (ByteArray × Int) := (zbl.f l0).bind fun t176 => (if t176 = 0 then ((zc7.f l0 (wrap64 ((l0.length : Int) - 1)) false).bind fun t177 => (some (t177, 0))) else (some ((⟨#[]⟩ : ByteArray), t176)))
set_option maxHeartbeats 8000000 in
set_option maxRecDepth 100000 in
theorem zc8.calls (A0 : Option Addr) (c0 : Nat) (l0 : List (S43)) (r1 : ByteArray) (r2 : Int) (w : World) (hr0 : Kd.C k43 w A0 l0.length l0) (hc0 : l0.length ≤ c0) (hT : Tabs w) (h : zc8.f l0 = some (r1, r2)) :
    Calls Tryz.prog 11 #[.slice A0 l0.length c0] w fun e w' => e = .returned (.tuple #[.string r1, .int .i64 r2]) ∧ Below w.heap.size w w' := by
  have HR0 := zad.mk hr0
  have HC0 := zad.mk hc0
  clear hr0 hc0
  have HB := zad.mk (Below.refl w.heap.size w)
  have H : ((zbl.f l0).bind fun t176 => (if t176 = 0 then ((zc7.f l0 (wrap64 ((l0.length : Int) - 1)) false).bind fun t177 => (some (t177, 0))) else (some ((⟨#[]⟩ : ByteArray), t176)))) = some (r1, r2) := h
  clear h
  replace H := Option.bind_eq_some_iff.mp H
  obtain ⟨t176, A20, H⟩ := H
  replace H : (if t176 = 0 then ((zc7.f l0 (wrap64 ((l0.length : Int) - 1)) false).bind fun t177 => (some (t177, 0))) else (some ((⟨#[]⟩ : ByteArray), t176))) = some (r1, r2) := H
  have A2 := zad.mk A20
  clear A20
  by_cases c3 : t176 = 0
  · rw [if_pos c3] at H
    have c3b0 : (t176 == 0) = true := beq_iff_eq.mpr c3
    have c3b1 : (t176 != 0) = false := bne_eq_false_iff_eq.mpr c3
    clear c3
    replace H := Option.bind_eq_some_iff.mp H
    obtain ⟨t177, A40, H⟩ := H
    replace H : (some (t177, 0)) = some (r1, r2) := H
    have A4 := zad.mk A40
    clear A40
    simp only [Option.some.injEq, Prod.mk.injEq] at H
    obtain ⟨rfl, rfl⟩ := H
    go_enter Tryz.func11, Tryz.ntmps11
    go_wp2_with (first | ((with_reducible refine zan (f := 15) rfl ?_); refine zbd (some 6) rfl rfl Tryz.func15 (by kernel_rfl) rfl #[.slice A0 l0.length c0] rfl (by (try simp only [List.map_toArray, List.map_cons, List.map_nil]); first | done | rfl | (simp only [List.length_drop, List.length_take]; rfl)) ?_; (with_reducible refine (zbl.calls _ _ l0 t176 _ ?side1 ?side2 A2.out).mono ?_); (case side1 => repeat (first | exact HR0.out | (with_reducible refine Kd.zce ?_ _) | (with_reducible refine Kd.zb6 ?_ _) | (with_reducible refine Kd.zcp ?_))); (case side2 => exact HC0.out); rintro e w5 ⟨rfl, hb⟩; refine ⟨_, rfl, ?_⟩; have n0_ := zad.mk (zaf (by repeat (first | (with_reducible first | exact HB.out | apply zab | apply zaa | apply zac) | exact HB.out)) hb); clear HB; have HB := n0_; clear n0_; (try clear hb); (try clear hb2); (try clear hk); (try clear hi)) | ((with_reducible refine zan (f := 30) rfl ?_); refine zbd (some 14) rfl rfl Tryz.func30 (by kernel_rfl) rfl #[.slice A0 l0.length c0, .int .i64 (wrap64 ((l0.length : Int) - 1)), .bool false] rfl (by (try simp only [List.map_toArray, List.map_cons, List.map_nil]); first | done | rfl | (simp only [List.length_drop, List.length_take]; rfl)) ?_; (with_reducible refine (zc7.calls _ _ l0 (wrap64 ((l0.length : Int) - 1)) false t177 _ ?side1 ?side2 ?side3 A4.out).mono ?_); (case side1 => repeat (first | exact (Kd.zca HR0.out HB.out) | (with_reducible refine Kd.zce ?_ _) | (with_reducible refine Kd.zb6 ?_ _) | (with_reducible refine Kd.zcp ?_))); (case side2 => exact HC0.out); (case side3 => exact Tabs.below hT (by repeat (first | (with_reducible first | exact HB.out | apply zab | apply zaa | apply zac) | exact HB.out))); rintro e w6 ⟨rfl, hb⟩; refine ⟨_, rfl, ?_⟩; have n0_ := zad.mk (zaf (by repeat (first | (with_reducible first | exact HB.out | apply zab | apply zaa | apply zac) | exact HB.out)) hb); clear HB; have HB := n0_; clear n0_; (try clear hb); (try clear hb2); (try clear hk); (try clear hi)))
    go_ret2
    exact ⟨by first | rfl | (simp [zah, zai] <;> rfl) | (simp [*, zah, zai] <;> rfl), by repeat (first | (with_reducible first | exact HB.out | apply zab | apply zaa | apply zac) | exact HB.out)⟩
  · rw [if_neg c3] at H
    have c3b0 : (t176 == 0) = false := beq_eq_false_iff_ne.mpr c3
    have c3b1 : (t176 != 0) = true := bne_iff_ne.mpr c3
    simp only [Option.some.injEq, Prod.mk.injEq] at H
    obtain ⟨rfl, rfl⟩ := H
    go_enter Tryz.func11, Tryz.ntmps11
    go_wp2_with (first | ((with_reducible refine zan (f := 15) rfl ?_); refine zbd (some 6) rfl rfl Tryz.func15 (by kernel_rfl) rfl #[.slice A0 l0.length c0] rfl (by (try simp only [List.map_toArray, List.map_cons, List.map_nil]); first | done | rfl | (simp only [List.length_drop, List.length_take]; rfl)) ?_; (with_reducible refine (zbl.calls _ _ l0 t176 _ ?side1 ?side2 A2.out).mono ?_); (case side1 => repeat (first | exact HR0.out | (with_reducible refine Kd.zce ?_ _) | (with_reducible refine Kd.zb6 ?_ _) | (with_reducible refine Kd.zcp ?_))); (case side2 => exact HC0.out); rintro e w7 ⟨rfl, hb⟩; refine ⟨_, rfl, ?_⟩; have n0_ := zad.mk (zaf (by repeat (first | (with_reducible first | exact HB.out | apply zab | apply zaa | apply zac) | exact HB.out)) hb); clear HB; have HB := n0_; clear n0_; (try clear hb); (try clear hb2); (try clear hk); (try clear hi)))
    go_ret2
    exact ⟨by first | rfl | (simp [zah, zai] <;> rfl) | (simp [*, zah, zai] <;> rfl), by repeat (first | (with_reducible first | exact HB.out | apply zab | apply zaa | apply zac) | exact HB.out)⟩
def zae.j0 : Nat → Int → ByteArray → Bool → Option (ByteArray × Int)
  | 0, _, _, _ => none
  | k + 1, x8, x10, x38 => if x38 = true then (some ((⟨#[63]⟩ : ByteArray), x8)) else (some (x10, x8))
def zae.f (k : Nat) (a0 : ByteArray) : Option (ByteArray × Int) := (zba.f k a0).bind fun bt178 => ((za8.f k bt178.1 0).bind fun bt183 => ((zc8.f bt183.1).bind fun bt188 => (if bt178.2.2 = 0 then (if bt183.2.2 = 0 then (zae.j0 k bt183.2.1 bt188.1 (bt188.2 != 0)) else (zae.j0 k bt183.2.1 bt188.1 true)) else (zae.j0 k bt183.2.1 bt188.1 true))))
theorem zae.zdf : ∀ k, (∀ y0 y1 y2, LeO (zae.j0 k y0 y1 y2) (zae.j0 (k + 1) y0 y1 y2))
  | 0 => fun _ _ _ r h => by simp [zae.j0] at h
  | k + 1 => by
    have ih0 := zae.zdf k
    · intro y0 y1 y2
      unfold zae.j0
      repeat' first
      | (with_reducible exact ih0 _ _ _)
      | (with_reducible exact za8.mono _ _ _)
      | (with_reducible exact zba.mono _ _)
      | (with_reducible exact LeO.refl _)
      | (with_reducible exact LeO.none _)
      | (with_reducible refine LeO.ite ?_ ?_)
      | (with_reducible refine LeO.bind ?_ (fun _ => ?_))
      | exact ih0 _ _ _
      | exact za8.mono _ _ _
      | exact zba.mono _ _
      | exact LeO.none _
      | refine LeO.ite ?_ ?_
      | refine LeO.bind ?_ (fun _ => ?_)
theorem zae.mono : ∀ a0 k, LeO (zae.f k a0) (zae.f (k + 1) a0) := by
  intro a0 k
  have ih0 := zae.zdf k
  unfold zae.f
  repeat' first
      | (with_reducible exact ih0 _ _ _)
      | (with_reducible exact za8.mono _ _ _)
      | (with_reducible exact zba.mono _ _)
      | (with_reducible exact LeO.refl _)
      | (with_reducible exact LeO.none _)
      | (with_reducible refine LeO.ite ?_ ?_)
      | (with_reducible refine LeO.bind ?_ (fun _ => ?_))
      | exact ih0 _ _ _
      | exact za8.mono _ _ _
      | exact zba.mono _ _
      | exact LeO.none _
      | refine LeO.ite ?_ ?_
      | refine LeO.bind ?_ (fun _ => ?_)
set_option maxHeartbeats 8000000 in
set_option maxRecDepth 100000 in
theorem zae.calls (k : Nat) (a0 : ByteArray) (r1 : ByteArray) (r2 : Int) (w : World) (hT : Tabs w) (h : zae.f k a0 = some (r1, r2)) :
 Calls Tryz.prog 24 #[.string a0] w fun e w' => e = .returned (.tuple #[.string r1, .int .i64 r2]) ∧ Below w.heap.size w w' := by
 have HB := zad.mk (Below.refl w.heap.size w)
 have H : ((zba.f k a0).bind fun bt178 => ((za8.f k bt178.1 0).bind fun bt183 => ((zc8.f bt183.1).bind fun bt188 => (if bt178.2.2 = 0 then (if bt183.2.2 = 0 then (zae.j0 k bt183.2.1 bt188.1 (bt188.2 != 0)) else (zae.j0 k bt183.2.1 bt188.1 true)) else (zae.j0 k bt183.2.1 bt188.1 true))))) = some (r1, r2) := h
 clear h
 replace H := Option.bind_eq_some_iff.mp H
 obtain ⟨⟨t178, t179, t180⟩, A20, H⟩ := H
 replace H : ((za8.f k t178 0).bind fun bt183 => ((zc8.f bt183.1).bind fun bt188 => (if t180 = 0 then (if bt183.2.2 = 0 then (zae.j0 k bt183.2.1 bt188.1 (bt188.2 != 0)) else (zae.j0 k bt183.2.1 bt188.1 true)) else (zae.j0 k bt183.2.1 bt188.1 true)))) = some (r1, r2) := H
 have A2 := zad.mk A20
 clear A20
 replace H := Option.bind_eq_some_iff.mp H
 obtain ⟨⟨t183, t184, t185⟩, A30, H⟩ := H
 replace H : ((zc8.f t183).bind fun bt188 => (if t180 = 0 then (if t185 = 0 then (zae.j0 k t184 bt188.1 (bt188.2 != 0)) else (zae.j0 k t184 bt188.1 true)) else (zae.j0 k t184 bt188.1 true))) = some (r1, r2) := H
 have A3 := zad.mk A30
 clear A30
 replace H := Option.bind_eq_some_iff.mp H
 obtain ⟨⟨t188, t189⟩, A40, H⟩ := H
 replace H : (if t180 = 0 then (if t185 = 0 then (zae.j0 k t184 t188 (t189 != 0)) else (zae.j0 k t184 t188 true)) else (zae.j0 k t184 t188 true)) = some (r1, r2) := H
 have A4 := zad.mk A40
 clear A40
 have HC5 := zad.mk H
 clear H
 go_enter Tryz.func24, Tryz.ntmps24
 go_upto_region 4 with (first | ((with_reducible refine zan (f := 9) rfl ?_); refine zbd (some 14) rfl rfl Tryz.func9 (by kernel_rfl) rfl #[.string a0] rfl (by (try simp only [List.map_toArray, List.map_cons, List.map_nil]); first | done | rfl | (simp only [List.length_drop, List.length_take]; rfl)) ?_; (with_reducible refine (zba.calls k a0 t178 t179 t180 _ ?side1 A2.out).mono ?_); (case side1 => exact Tabs.below hT (by repeat (first | (with_reducible first | exact HB.out | apply zab | apply zaa | apply zac) | exact HB.out))); rintro e w6 ⟨v181, rfl, ho0, hb⟩; refine ⟨_, rfl, ?_⟩; have n0_ := zad.mk (Kd.zbp ho0 (zao (by repeat (first | (with_reducible first | exact HB.out | apply zab | apply zaa | apply zac) | exact HB.out)))); have n1_ := zad.mk (zaf (by repeat (first | (with_reducible first | exact HB.out | apply zab | apply zaa | apply zac) | exact HB.out)) hb); clear HB; have HO182 := n0_; have HB := n1_; clear n0_ n1_; (try clear hb); (try clear hb2); (try clear hk); (try clear hi); (try clear ho0); obtain ⟨Ao7, co7, eo7⟩ := Kd.zbk HO182.out; subst eo7) | ((with_reducible refine zan (f := 10) rfl ?_); refine zbd (some 20) rfl rfl Tryz.func10 (by kernel_rfl) rfl #[.slice Ao7 t178.length co7, .int .i64 0] rfl (by (try simp only [List.map_toArray, List.map_cons, List.map_nil]); first | done | rfl | (simp only [List.length_drop, List.length_take]; rfl)) ?_; (with_reducible refine (za8.calls k _ _ t178 0 t183 t184 t185 _ ?side1 ?side2 ?side3 A3.out).mono ?_); (case side1 => repeat (first | exact (Kd.zbg HO182.out).2.2 | (with_reducible refine Kd.zce ?_ _) | (with_reducible refine Kd.zb6 ?_ _) | (with_reducible refine Kd.zcp ?_))); (case side2 => exact (Kd.zbg HO182.out).2.1); (case side3 => exact Tabs.below hT (by repeat (first | (with_reducible first | exact HB.out | apply zab | apply zaa | apply zac) | exact HB.out))); rintro e w8 ⟨v186, rfl, ho0, hb⟩; refine ⟨_, rfl, ?_⟩; have n0_ := zad.mk (Kd.zbv (by (with_reducible repeat (first | apply Kd.zav | apply Kd.za1 | apply Kd.za9)); exact HO182.out) hb); have n1_ := zad.mk (Kd.zbp ho0 (zao (by repeat (first | (with_reducible first | exact HB.out | apply zab | apply zaa | apply zac) | exact HB.out)))); have n2_ := zad.mk (zaf (by repeat (first | (with_reducible first | exact HB.out | apply zab | apply zaa | apply zac) | exact HB.out)) hb); clear HO182; clear HB; have HO182 := n0_; have HO187 := n1_; have HB := n2_; clear n0_ n1_ n2_; (try clear hb); (try clear hb2); (try clear hk); (try clear hi); (try clear ho0); obtain ⟨Ao9, co9, eo9⟩ := Kd.zbk HO187.out; subst eo9) | ((with_reducible refine zan (f := 11) rfl ?_); refine zbd (some 26) rfl rfl Tryz.func11 (by kernel_rfl) rfl #[.slice Ao9 t183.length co9] rfl (by (try simp only [List.map_toArray, List.map_cons, List.map_nil]); first | done | rfl | (simp only [List.length_drop, List.length_take]; rfl)) ?_; (with_reducible refine (zc8.calls _ _ t183 t188 t189 _ ?side1 ?side2 ?side3 A4.out).mono ?_); (case side1 => repeat (first | exact (Kd.zbg HO187.out).2.2 | (with_reducible refine Kd.zce ?_ _) | (with_reducible refine Kd.zb6 ?_ _) | (with_reducible refine Kd.zcp ?_))); (case side2 => exact (Kd.zbg HO187.out).2.1); (case side3 => exact Tabs.below hT (by repeat (first | (with_reducible first | exact HB.out | apply zab | apply zaa | apply zac) | exact HB.out))); rintro e w10 ⟨rfl, hb⟩; refine ⟨_, rfl, ?_⟩; have n0_ := zad.mk (Kd.zbv (by (with_reducible repeat (first | apply Kd.zav | apply Kd.za1 | apply Kd.za9)); exact HO182.out) hb); have n1_ := zad.mk (Kd.zbv (by (with_reducible repeat (first | apply Kd.zav | apply Kd.za1 | apply Kd.za9)); exact HO187.out) hb); have n2_ := zad.mk (zaf (by repeat (first | (with_reducible first | exact HB.out | apply zab | apply zaa | apply zac) | exact HB.out)) hb); clear HO182; clear HO187; clear HB; have HO182 := n0_; have HO187 := n1_; have HB := n2_; clear n0_ n1_ n2_; (try clear hb); (try clear hb2); (try clear hk); (try clear hi)))
 (try simp only [Act.put, List.setIfInBounds_toArray, List.set_cons_zero, List.set_cons_succ])
 go_cut [38] (fun v38 wc => ∃ (kq : Nat) (x38_4 : Bool), v38 = .bool x38_4 ∧ zad (zae.j0 kq t184 t188 x38_4 = some (r1, r2)) ∧ zad (kq ≤ k) ∧ zad (Below w.heap.size w wc))
 case first =>
  have H := HC5.out
  clear HC5
  by_cases c11 : t180 = 0
  ·rw [if_pos c11] at H
   have c11b0 : (t180 == 0) = true := beq_iff_eq.mpr c11
   have c11b1 : (t180 != 0) = false := bne_eq_false_iff_eq.mpr c11
   clear c11
   (first | rw [c11b0] | (simp only [i64_w, i32_w]; rw [c11b0]) | skip)
   by_cases c12 : t185 = 0
   ·rw [if_pos c12] at H
    have c12b0 : (t185 == 0) = true := beq_iff_eq.mpr c12
    have c12b1 : (t185 != 0) = false := bne_eq_false_iff_eq.mpr c12
    clear c12
    have H' := zad.mk H
    clear H
    go_wp2
    go_meet
    case rel => exact ⟨_, ((t189 != 0)), (by first | rfl | (simp; done) | (simp [*]; done)), H', ⟨by first | omega | exact Nat.le_refl _⟩, ⟨by repeat (first | (with_reducible first | exact HB.out | apply zab | apply zaa | apply zac) | exact HB.out)⟩⟩
   ·rw [if_neg c12] at H
    have c12b0 : (t185 == 0) = false := beq_eq_false_iff_ne.mpr c12
    have c12b1 : (t185 != 0) = true := bne_iff_ne.mpr c12
    have H' := zad.mk H
    clear H
    go_wp2
    go_meet
    case rel => exact ⟨_, (true), (by first | rfl | (simp; done) | (simp [*]; done)), H', ⟨by first | omega | exact Nat.le_refl _⟩, ⟨by repeat (first | (with_reducible first | exact HB.out | apply zab | apply zaa | apply zac) | exact HB.out)⟩⟩
  ·rw [if_neg c11] at H
   have c11b0 : (t180 == 0) = false := beq_eq_false_iff_ne.mpr c11
   have c11b1 : (t180 != 0) = true := bne_iff_ne.mpr c11
   (first | rw [c11b0] | (simp only [i64_w, i32_w]; rw [c11b0]) | skip)
   have H' := zad.mk H
   clear H
   go_wp2
   go_meet
   case rel => exact ⟨_, (true), (by first | rfl | (simp; done) | (simp [*]; done)), H', ⟨by first | omega | exact Nat.le_refl _⟩, ⟨by repeat (first | (with_reducible first | exact HB.out | apply zab | apply zaa | apply zac) | exact HB.out)⟩⟩
 case rest =>
  clear HC5
  try clear c1
  try clear c2
  try clear p2
  try clear c9
  try clear c10
  try clear c11
  try clear c11b0
  try clear c11b1
  try clear c12
  try clear c12b0
  try clear c12b1
  obtain ⟨kq, x38_4, rfl, HA, HJ4, HB⟩ := hcut
  cases kq with
  | zero => exact absurd HA.out (by simp [zae.j0])
  | succ kj4 =>
   have H := HA.out
   clear HA
   simp only [zae.j0] at H
   by_cases c13 : x38_4 = true
   ·subst c13
    have H1 : (some ((⟨#[63]⟩ : ByteArray), t184)) = some (r1, r2) := by rw [if_pos rfl] at H; exact H
    clear H
    have H := H1
    clear H1
    simp only [Option.some.injEq, Prod.mk.injEq] at H
    obtain ⟨rfl, rfl⟩ := H
    go_wp2
    go_ret2
    exact ⟨by first | rfl | (simp [zah, zai] <;> rfl) | (simp [*, zah, zai] <;> rfl), by repeat (first | (with_reducible first | exact HB.out | apply zab | apply zaa | apply zac) | exact HB.out)⟩
   ·replace c13 := Bool.eq_false_iff.mpr c13
    subst c13
    have H1 : (some (t188, t184)) = some (r1, r2) := by rw [if_neg (show ¬ (false = true) by decide)] at H; exact H
    clear H
    have H := H1
    clear H1
    simp only [Option.some.injEq, Prod.mk.injEq] at H
    obtain ⟨rfl, rfl⟩ := H
    go_wp2
    go_ret2
    exact ⟨by first | rfl | (simp [zah, zai] <;> rfl) | (simp [*, zah, zai] <;> rfl), by repeat (first | (with_reducible first | exact HB.out | apply zab | apply zaa | apply zac) | exact HB.out)⟩
def zak.f (k : Nat) (a0 : ByteArray) (a1 : ByteArray) : Option (Bool) := (zba.f k a0).bind fun bt190 => ((zae.f k a0).bind fun bt195 => (if bt190.2.2 = 0 then (if bt195.1.toList = a1.toList then (some (bt195.2 == (bt190.1.length : Int))) else (some false)) else (some false)))
theorem zak.mono : ∀ a0 a1 k, LeO (zak.f k a0 a1) (zak.f (k + 1) a0 a1) := by
  intro a0 a1 k
  unfold zak.f
  repeat' first
      | (with_reducible exact zba.mono _ _)
      | (with_reducible exact zae.mono _ _)
      | (with_reducible exact LeO.refl _)
      | (with_reducible exact LeO.none _)
      | (with_reducible refine LeO.ite ?_ ?_)
      | (with_reducible refine LeO.bind ?_ (fun _ => ?_))
      | exact zba.mono _ _
      | exact zae.mono _ _
      | exact LeO.none _
      | refine LeO.ite ?_ ?_
      | refine LeO.bind ?_ (fun _ => ?_)
set_option maxHeartbeats 8000000 in
set_option maxRecDepth 100000 in
theorem zak.calls (k : Nat) (a0 : ByteArray) (a1 : ByteArray) (r : Bool) (w : World) (hT : Tabs w) (h : zak.f k a0 a1 = some r) :
    Calls Tryz.prog 8 #[.string a0, .string a1] w fun e w' => e = .returned (.bool r) ∧ Below w.heap.size w w' := by
  have HB := zad.mk (Below.refl w.heap.size w)
  have H : ((zba.f k a0).bind fun bt190 => ((zae.f k a0).bind fun bt195 => (if bt190.2.2 = 0 then (if bt195.1.toList = a1.toList then (some (bt195.2 == (bt190.1.length : Int))) else (some false)) else (some false)))) = some r := h
  clear h
  replace H := Option.bind_eq_some_iff.mp H
  obtain ⟨⟨t190, t191, t192⟩, A30, H⟩ := H
  replace H : ((zae.f k a0).bind fun bt195 => (if t192 = 0 then (if bt195.1.toList = a1.toList then (some (bt195.2 == (t190.length : Int))) else (some false)) else (some false))) = some r := H
  have A3 := zad.mk A30
  clear A30
  replace H := Option.bind_eq_some_iff.mp H
  obtain ⟨⟨t195, t196⟩, A40, H⟩ := H
  replace H : (if t192 = 0 then (if t195.toList = a1.toList then (some (t196 == (t190.length : Int))) else (some false)) else (some false)) = some r := H
  have A4 := zad.mk A40
  clear A40
  by_cases c5 : t192 = 0
  · rw [if_pos c5] at H
    have c5b0 : (t192 == 0) = true := beq_iff_eq.mpr c5
    have c5b1 : (t192 != 0) = false := bne_eq_false_iff_eq.mpr c5
    clear c5
    by_cases c6 : t195.toList = a1.toList
    · rw [if_pos c6] at H
      have c6b0 : (t195.toList == a1.toList) = true := beq_iff_eq.mpr c6
      have c6b1 : (t195.toList != a1.toList) = false := bne_eq_false_iff_eq.mpr c6
      clear c6
      obtain rfl := Option.some.inj H
      go_enter Tryz.func8, Tryz.ntmps8
      go_wp2_with (first | ((with_reducible refine zan (f := 9) rfl ?_); refine zbd (some 12) rfl rfl Tryz.func9 (by kernel_rfl) rfl #[.string a0] rfl (by (try simp only [List.map_toArray, List.map_cons, List.map_nil]); first | done | rfl | (simp only [List.length_drop, List.length_take]; rfl)) ?_; (with_reducible refine (zba.calls k a0 t190 t191 t192 _ ?side1 A3.out).mono ?_); (case side1 => exact Tabs.below hT (by repeat (first | (with_reducible first | exact HB.out | apply zab | apply zaa | apply zac) | exact HB.out))); rintro e w7 ⟨v193, rfl, ho0, hb⟩; refine ⟨_, rfl, ?_⟩; have n0_ := zad.mk (Kd.zbp ho0 (zao (by repeat (first | (with_reducible first | exact HB.out | apply zab | apply zaa | apply zac) | exact HB.out)))); have n1_ := zad.mk (zaf (by repeat (first | (with_reducible first | exact HB.out | apply zab | apply zaa | apply zac) | exact HB.out)) hb); clear HB; have HO194 := n0_; have HB := n1_; clear n0_ n1_; (try clear hb); (try clear hb2); (try clear hk); (try clear hi); (try clear ho0)) | ((with_reducible refine zan (f := 24) rfl ?_); refine zbd (some 18) rfl rfl Tryz.func24 (by kernel_rfl) rfl #[.string a0] rfl (by (try simp only [List.map_toArray, List.map_cons, List.map_nil]); first | done | rfl | (simp only [List.length_drop, List.length_take]; rfl)) ?_; (with_reducible refine (zae.calls k a0 t195 t196 _ ?side1 A4.out).mono ?_); (case side1 => exact Tabs.below hT (by repeat (first | (with_reducible first | exact HB.out | apply zab | apply zaa | apply zac) | exact HB.out))); rintro e w8 ⟨rfl, hb⟩; refine ⟨_, rfl, ?_⟩; have n0_ := zad.mk (Kd.zbv (by (with_reducible repeat (first | apply Kd.zav | apply Kd.za1 | apply Kd.za9)); exact HO194.out) hb); have n1_ := zad.mk (zaf (by repeat (first | (with_reducible first | exact HB.out | apply zab | apply zaa | apply zac) | exact HB.out)) hb); clear HO194; clear HB; have HO194 := n0_; have HB := n1_; clear n0_ n1_; (try clear hb); (try clear hb2); (try clear hk); (try clear hi); obtain ⟨Ao9, co9, eo9⟩ := Kd.zbk HO194.out; subst eo9))
      go_ret
      exact ⟨by first | rfl | (simp [zah, zai] <;> rfl) | (simp [*, zah, zai] <;> rfl), by repeat (first | (with_reducible first | exact HB.out | apply zab | apply zaa | apply zac) | exact HB.out)⟩
    · rw [if_neg c6] at H
      have c6b0 : (t195.toList == a1.toList) = false := beq_eq_false_iff_ne.mpr c6
      have c6b1 : (t195.toList != a1.toList) = true := bne_iff_ne.mpr c6
      obtain rfl := Option.some.inj H
      go_enter Tryz.func8, Tryz.ntmps8
      go_wp2_with (first | ((with_reducible refine zan (f := 9) rfl ?_); refine zbd (some 12) rfl rfl Tryz.func9 (by kernel_rfl) rfl #[.string a0] rfl (by (try simp only [List.map_toArray, List.map_cons, List.map_nil]); first | done | rfl | (simp only [List.length_drop, List.length_take]; rfl)) ?_; (with_reducible refine (zba.calls k a0 t190 t191 t192 _ ?side1 A3.out).mono ?_); (case side1 => exact Tabs.below hT (by repeat (first | (with_reducible first | exact HB.out | apply zab | apply zaa | apply zac) | exact HB.out))); rintro e w10 ⟨v193, rfl, ho0, hb⟩; refine ⟨_, rfl, ?_⟩; have n0_ := zad.mk (Kd.zbp ho0 (zao (by repeat (first | (with_reducible first | exact HB.out | apply zab | apply zaa | apply zac) | exact HB.out)))); have n1_ := zad.mk (zaf (by repeat (first | (with_reducible first | exact HB.out | apply zab | apply zaa | apply zac) | exact HB.out)) hb); clear HB; have HO194 := n0_; have HB := n1_; clear n0_ n1_; (try clear hb); (try clear hb2); (try clear hk); (try clear hi); (try clear ho0)) | ((with_reducible refine zan (f := 24) rfl ?_); refine zbd (some 18) rfl rfl Tryz.func24 (by kernel_rfl) rfl #[.string a0] rfl (by (try simp only [List.map_toArray, List.map_cons, List.map_nil]); first | done | rfl | (simp only [List.length_drop, List.length_take]; rfl)) ?_; (with_reducible refine (zae.calls k a0 t195 t196 _ ?side1 A4.out).mono ?_); (case side1 => exact Tabs.below hT (by repeat (first | (with_reducible first | exact HB.out | apply zab | apply zaa | apply zac) | exact HB.out))); rintro e w11 ⟨rfl, hb⟩; refine ⟨_, rfl, ?_⟩; have n0_ := zad.mk (Kd.zbv (by (with_reducible repeat (first | apply Kd.zav | apply Kd.za1 | apply Kd.za9)); exact HO194.out) hb); have n1_ := zad.mk (zaf (by repeat (first | (with_reducible first | exact HB.out | apply zab | apply zaa | apply zac) | exact HB.out)) hb); clear HO194; clear HB; have HO194 := n0_; have HB := n1_; clear n0_ n1_; (try clear hb); (try clear hb2); (try clear hk); (try clear hi)))
      go_ret
      exact ⟨by first | rfl | (simp [zah, zai] <;> rfl) | (simp [*, zah, zai] <;> rfl), by repeat (first | (with_reducible first | exact HB.out | apply zab | apply zaa | apply zac) | exact HB.out)⟩
  · rw [if_neg c5] at H
    have c5b0 : (t192 == 0) = false := beq_eq_false_iff_ne.mpr c5
    have c5b1 : (t192 != 0) = true := bne_iff_ne.mpr c5
    obtain rfl := Option.some.inj H
    go_enter Tryz.func8, Tryz.ntmps8
    go_wp2_with (first | ((with_reducible refine zan (f := 9) rfl ?_); refine zbd (some 12) rfl rfl Tryz.func9 (by kernel_rfl) rfl #[.string a0] rfl (by (try simp only [List.map_toArray, List.map_cons, List.map_nil]); first | done | rfl | (simp only [List.length_drop, List.length_take]; rfl)) ?_; (with_reducible refine (zba.calls k a0 t190 t191 t192 _ ?side1 A3.out).mono ?_); (case side1 => exact Tabs.below hT (by repeat (first | (with_reducible first | exact HB.out | apply zab | apply zaa | apply zac) | exact HB.out))); rintro e w12 ⟨v193, rfl, ho0, hb⟩; refine ⟨_, rfl, ?_⟩; have n0_ := zad.mk (Kd.zbp ho0 (zao (by repeat (first | (with_reducible first | exact HB.out | apply zab | apply zaa | apply zac) | exact HB.out)))); have n1_ := zad.mk (zaf (by repeat (first | (with_reducible first | exact HB.out | apply zab | apply zaa | apply zac) | exact HB.out)) hb); clear HB; have HO194 := n0_; have HB := n1_; clear n0_ n1_; (try clear hb); (try clear hb2); (try clear hk); (try clear hi); (try clear ho0)) | ((with_reducible refine zan (f := 24) rfl ?_); refine zbd (some 18) rfl rfl Tryz.func24 (by kernel_rfl) rfl #[.string a0] rfl (by (try simp only [List.map_toArray, List.map_cons, List.map_nil]); first | done | rfl | (simp only [List.length_drop, List.length_take]; rfl)) ?_; (with_reducible refine (zae.calls k a0 t195 t196 _ ?side1 A4.out).mono ?_); (case side1 => exact Tabs.below hT (by repeat (first | (with_reducible first | exact HB.out | apply zab | apply zaa | apply zac) | exact HB.out))); rintro e w13 ⟨rfl, hb⟩; refine ⟨_, rfl, ?_⟩; have n0_ := zad.mk (Kd.zbv (by (with_reducible repeat (first | apply Kd.zav | apply Kd.za1 | apply Kd.za9)); exact HO194.out) hb); have n1_ := zad.mk (zaf (by repeat (first | (with_reducible first | exact HB.out | apply zab | apply zaa | apply zac) | exact HB.out)) hb); clear HO194; clear HB; have HO194 := n0_; have HB := n1_; clear n0_ n1_; (try clear hb); (try clear hb2); (try clear hk); (try clear hi)))
    go_ret
    exact ⟨by first | rfl | (simp [zah, zai] <;> rfl) | (simp [*, zah, zai] <;> rfl), by repeat (first | (with_reducible first | exact HB.out | apply zab | apply zaa | apply zac) | exact HB.out)⟩
def zbc.f (k : Nat)  : Option (Bool) := (zae.f k (⟨#[118, 32, 43, 32, 41]⟩ : ByteArray)).bind fun bt197 => ((zae.f k (⟨#[118, 32, 60, 32, 49, 32, 60, 32, 50]⟩ : ByteArray)).bind fun bt199 => ((zak.f k (⟨#[118, 32, 43, 32, 50, 32, 42, 32, 107]⟩ : ByteArray) (⟨#[118, 32, 43, 32, 40, 50, 32, 42, 32, 107, 41]⟩ : ByteArray)).bind fun t201 => (if t201 = true then ((zak.f k (⟨#[40, 118, 32, 43, 32, 50, 41, 32, 42, 32, 107]⟩ : ByteArray) (⟨#[40, 118, 32, 43, 32, 50, 41, 32, 42, 32, 107]⟩ : ByteArray)).bind fun t202 => (if t202 = true then ((zak.f k (⟨#[110, 111, 116, 32, 118, 32, 61, 32, 49, 32, 97, 110, 100, 32, 107, 32, 60, 32, 50]⟩ : ByteArray) (⟨#[40, 110, 111, 116, 32, 40, 118, 32, 61, 32, 49, 41, 41, 32, 97, 110, 100, 32, 40, 107, 32, 60, 32, 50, 41]⟩ : ByteArray)).bind fun t203 => (if t203 = true then (if bt197.1.toList = ([63] : List UInt8) then (if bt197.2 = 2 then (if bt199.1.toList = ([118, 32, 60, 32, 49] : List UInt8) then (some (bt199.2 == 3)) else (some false)) else (some false)) else (some false)) else (some false))) else (some false))) else (some false))))
theorem zbc.mono : ∀ k, LeO (zbc.f k ) (zbc.f (k + 1) ) := by
  intro  k
  unfold zbc.f
  repeat' first
      | (with_reducible exact zae.mono _ _)
      | (with_reducible exact zak.mono _ _ _)
      | (with_reducible exact LeO.refl _)
      | (with_reducible exact LeO.none _)
      | (with_reducible refine LeO.ite ?_ ?_)
      | (with_reducible refine LeO.bind ?_ (fun _ => ?_))
      | exact zae.mono _ _
      | exact zak.mono _ _ _
      | exact LeO.none _
      | refine LeO.ite ?_ ?_
      | refine LeO.bind ?_ (fun _ => ?_)
set_option maxHeartbeats 8000000 in
set_option maxRecDepth 100000 in
theorem zbc.calls (k : Nat)  (r : Bool) (w : World) (hT : Tabs w) (h : zbc.f k  = some r) :
    Calls Tryz.prog 12 #[] w fun e w' => e = .returned (.bool r) ∧ Below w.heap.size w w' := by
  have HB := zad.mk (Below.refl w.heap.size w)
  have H : ((zae.f k (⟨#[118, 32, 43, 32, 41]⟩ : ByteArray)).bind fun bt197 => ((zae.f k (⟨#[118, 32, 60, 32, 49, 32, 60, 32, 50]⟩ : ByteArray)).bind fun bt199 => ((zak.f k (⟨#[118, 32, 43, 32, 50, 32, 42, 32, 107]⟩ : ByteArray) (⟨#[118, 32, 43, 32, 40, 50, 32, 42, 32, 107, 41]⟩ : ByteArray)).bind fun t201 => (if t201 = true then ((zak.f k (⟨#[40, 118, 32, 43, 32, 50, 41, 32, 42, 32, 107]⟩ : ByteArray) (⟨#[40, 118, 32, 43, 32, 50, 41, 32, 42, 32, 107]⟩ : ByteArray)).bind fun t202 => (if t202 = true then ((zak.f k (⟨#[110, 111, 116, 32, 118, 32, 61, 32, 49, 32, 97, 110, 100, 32, 107, 32, 60, 32, 50]⟩ : ByteArray) (⟨#[40, 110, 111, 116, 32, 40, 118, 32, 61, 32, 49, 41, 41, 32, 97, 110, 100, 32, 40, 107, 32, 60, 32, 50, 41]⟩ : ByteArray)).bind fun t203 => (if t203 = true then (if bt197.1.toList = ([63] : List UInt8) then (if bt197.2 = 2 then (if bt199.1.toList = ([118, 32, 60, 32, 49] : List UInt8) then (some (bt199.2 == 3)) else (some false)) else (some false)) else (some false)) else (some false))) else (some false))) else (some false))))) = some r := h
  clear h
  replace H := Option.bind_eq_some_iff.mp H
  obtain ⟨⟨t197, t198⟩, A10, H⟩ := H
  replace H : ((zae.f k (⟨#[118, 32, 60, 32, 49, 32, 60, 32, 50]⟩ : ByteArray)).bind fun bt199 => ((zak.f k (⟨#[118, 32, 43, 32, 50, 32, 42, 32, 107]⟩ : ByteArray) (⟨#[118, 32, 43, 32, 40, 50, 32, 42, 32, 107, 41]⟩ : ByteArray)).bind fun t201 => (if t201 = true then ((zak.f k (⟨#[40, 118, 32, 43, 32, 50, 41, 32, 42, 32, 107]⟩ : ByteArray) (⟨#[40, 118, 32, 43, 32, 50, 41, 32, 42, 32, 107]⟩ : ByteArray)).bind fun t202 => (if t202 = true then ((zak.f k (⟨#[110, 111, 116, 32, 118, 32, 61, 32, 49, 32, 97, 110, 100, 32, 107, 32, 60, 32, 50]⟩ : ByteArray) (⟨#[40, 110, 111, 116, 32, 40, 118, 32, 61, 32, 49, 41, 41, 32, 97, 110, 100, 32, 40, 107, 32, 60, 32, 50, 41]⟩ : ByteArray)).bind fun t203 => (if t203 = true then (if t197.toList = ([63] : List UInt8) then (if t198 = 2 then (if bt199.1.toList = ([118, 32, 60, 32, 49] : List UInt8) then (some (bt199.2 == 3)) else (some false)) else (some false)) else (some false)) else (some false))) else (some false))) else (some false)))) = some r := H
  have A1 := zad.mk A10
  clear A10
  replace H := Option.bind_eq_some_iff.mp H
  obtain ⟨⟨t199, t200⟩, A20, H⟩ := H
  replace H : ((zak.f k (⟨#[118, 32, 43, 32, 50, 32, 42, 32, 107]⟩ : ByteArray) (⟨#[118, 32, 43, 32, 40, 50, 32, 42, 32, 107, 41]⟩ : ByteArray)).bind fun t201 => (if t201 = true then ((zak.f k (⟨#[40, 118, 32, 43, 32, 50, 41, 32, 42, 32, 107]⟩ : ByteArray) (⟨#[40, 118, 32, 43, 32, 50, 41, 32, 42, 32, 107]⟩ : ByteArray)).bind fun t202 => (if t202 = true then ((zak.f k (⟨#[110, 111, 116, 32, 118, 32, 61, 32, 49, 32, 97, 110, 100, 32, 107, 32, 60, 32, 50]⟩ : ByteArray) (⟨#[40, 110, 111, 116, 32, 40, 118, 32, 61, 32, 49, 41, 41, 32, 97, 110, 100, 32, 40, 107, 32, 60, 32, 50, 41]⟩ : ByteArray)).bind fun t203 => (if t203 = true then (if t197.toList = ([63] : List UInt8) then (if t198 = 2 then (if t199.toList = ([118, 32, 60, 32, 49] : List UInt8) then (some (t200 == 3)) else (some false)) else (some false)) else (some false)) else (some false))) else (some false))) else (some false))) = some r := H
  have A2 := zad.mk A20
  clear A20
  replace H := Option.bind_eq_some_iff.mp H
  obtain ⟨t201, A30, H⟩ := H
  replace H : (if t201 = true then ((zak.f k (⟨#[40, 118, 32, 43, 32, 50, 41, 32, 42, 32, 107]⟩ : ByteArray) (⟨#[40, 118, 32, 43, 32, 50, 41, 32, 42, 32, 107]⟩ : ByteArray)).bind fun t202 => (if t202 = true then ((zak.f k (⟨#[110, 111, 116, 32, 118, 32, 61, 32, 49, 32, 97, 110, 100, 32, 107, 32, 60, 32, 50]⟩ : ByteArray) (⟨#[40, 110, 111, 116, 32, 40, 118, 32, 61, 32, 49, 41, 41, 32, 97, 110, 100, 32, 40, 107, 32, 60, 32, 50, 41]⟩ : ByteArray)).bind fun t203 => (if t203 = true then (if t197.toList = ([63] : List UInt8) then (if t198 = 2 then (if t199.toList = ([118, 32, 60, 32, 49] : List UInt8) then (some (t200 == 3)) else (some false)) else (some false)) else (some false)) else (some false))) else (some false))) else (some false)) = some r := H
  have A3 := zad.mk A30
  clear A30
  by_cases c4 : t201 = true
  · subst c4
    have H1 : ((zak.f k (⟨#[40, 118, 32, 43, 32, 50, 41, 32, 42, 32, 107]⟩ : ByteArray) (⟨#[40, 118, 32, 43, 32, 50, 41, 32, 42, 32, 107]⟩ : ByteArray)).bind fun t202 => (if t202 = true then ((zak.f k (⟨#[110, 111, 116, 32, 118, 32, 61, 32, 49, 32, 97, 110, 100, 32, 107, 32, 60, 32, 50]⟩ : ByteArray) (⟨#[40, 110, 111, 116, 32, 40, 118, 32, 61, 32, 49, 41, 41, 32, 97, 110, 100, 32, 40, 107, 32, 60, 32, 50, 41]⟩ : ByteArray)).bind fun t203 => (if t203 = true then (if t197.toList = ([63] : List UInt8) then (if t198 = 2 then (if t199.toList = ([118, 32, 60, 32, 49] : List UInt8) then (some (t200 == 3)) else (some false)) else (some false)) else (some false)) else (some false))) else (some false))) = some r := by rw [if_pos rfl] at H; exact H
    clear H
    have H := H1
    clear H1
    replace H := Option.bind_eq_some_iff.mp H
    obtain ⟨t202, A50, H⟩ := H
    replace H : (if t202 = true then ((zak.f k (⟨#[110, 111, 116, 32, 118, 32, 61, 32, 49, 32, 97, 110, 100, 32, 107, 32, 60, 32, 50]⟩ : ByteArray) (⟨#[40, 110, 111, 116, 32, 40, 118, 32, 61, 32, 49, 41, 41, 32, 97, 110, 100, 32, 40, 107, 32, 60, 32, 50, 41]⟩ : ByteArray)).bind fun t203 => (if t203 = true then (if t197.toList = ([63] : List UInt8) then (if t198 = 2 then (if t199.toList = ([118, 32, 60, 32, 49] : List UInt8) then (some (t200 == 3)) else (some false)) else (some false)) else (some false)) else (some false))) else (some false)) = some r := H
    have A5 := zad.mk A50
    clear A50
    by_cases c6 : t202 = true
    · subst c6
      have H1 : ((zak.f k (⟨#[110, 111, 116, 32, 118, 32, 61, 32, 49, 32, 97, 110, 100, 32, 107, 32, 60, 32, 50]⟩ : ByteArray) (⟨#[40, 110, 111, 116, 32, 40, 118, 32, 61, 32, 49, 41, 41, 32, 97, 110, 100, 32, 40, 107, 32, 60, 32, 50, 41]⟩ : ByteArray)).bind fun t203 => (if t203 = true then (if t197.toList = ([63] : List UInt8) then (if t198 = 2 then (if t199.toList = ([118, 32, 60, 32, 49] : List UInt8) then (some (t200 == 3)) else (some false)) else (some false)) else (some false)) else (some false))) = some r := by rw [if_pos rfl] at H; exact H
      clear H
      have H := H1
      clear H1
      replace H := Option.bind_eq_some_iff.mp H
      obtain ⟨t203, A70, H⟩ := H
      replace H : (if t203 = true then (if t197.toList = ([63] : List UInt8) then (if t198 = 2 then (if t199.toList = ([118, 32, 60, 32, 49] : List UInt8) then (some (t200 == 3)) else (some false)) else (some false)) else (some false)) else (some false)) = some r := H
      have A7 := zad.mk A70
      clear A70
      by_cases c8 : t203 = true
      · subst c8
        have H1 : (if t197.toList = ([63] : List UInt8) then (if t198 = 2 then (if t199.toList = ([118, 32, 60, 32, 49] : List UInt8) then (some (t200 == 3)) else (some false)) else (some false)) else (some false)) = some r := by rw [if_pos rfl] at H; exact H
        clear H
        have H := H1
        clear H1
        by_cases c9 : t197.toList = ([63] : List UInt8)
        · rw [if_pos c9] at H
          have c9b0 : (t197.toList == ([63] : List UInt8)) = true := beq_iff_eq.mpr c9
          have c9b1 : (t197.toList != ([63] : List UInt8)) = false := bne_eq_false_iff_eq.mpr c9
          clear c9
          by_cases c10 : t198 = 2
          · rw [if_pos c10] at H
            have c10b0 : (t198 == 2) = true := beq_iff_eq.mpr c10
            have c10b1 : (t198 != 2) = false := bne_eq_false_iff_eq.mpr c10
            clear c10
            by_cases c11 : t199.toList = ([118, 32, 60, 32, 49] : List UInt8)
            · rw [if_pos c11] at H
              have c11b0 : (t199.toList == ([118, 32, 60, 32, 49] : List UInt8)) = true := beq_iff_eq.mpr c11
              have c11b1 : (t199.toList != ([118, 32, 60, 32, 49] : List UInt8)) = false := bne_eq_false_iff_eq.mpr c11
              clear c11
              obtain rfl := Option.some.inj H
              go_enter Tryz.func12, Tryz.ntmps12
              go_wp2_with (first | ((with_reducible refine zan (f := 24) rfl ?_); refine zbd (some 6) rfl rfl Tryz.func24 (by kernel_rfl) rfl #[.string (⟨#[118, 32, 43, 32, 41]⟩ : ByteArray)] rfl (by (try simp only [List.map_toArray, List.map_cons, List.map_nil]); first | done | rfl | (simp only [List.length_drop, List.length_take]; rfl)) ?_; (with_reducible refine (zae.calls k (⟨#[118, 32, 43, 32, 41]⟩ : ByteArray) t197 t198 _ ?side1 A1.out).mono ?_); (case side1 => exact Tabs.below hT (by repeat (first | (with_reducible first | exact HB.out | apply zab | apply zaa | apply zac) | exact HB.out))); rintro e w12 ⟨rfl, hb⟩; refine ⟨_, rfl, ?_⟩; have n0_ := zad.mk (zaf (by repeat (first | (with_reducible first | exact HB.out | apply zab | apply zaa | apply zac) | exact HB.out)) hb); clear HB; have HB := n0_; clear n0_; (try clear hb); (try clear hb2); (try clear hk); (try clear hi)) | ((with_reducible refine zan (f := 24) rfl ?_); refine zbd (some 10) rfl rfl Tryz.func24 (by kernel_rfl) rfl #[.string (⟨#[118, 32, 60, 32, 49, 32, 60, 32, 50]⟩ : ByteArray)] rfl (by (try simp only [List.map_toArray, List.map_cons, List.map_nil]); first | done | rfl | (simp only [List.length_drop, List.length_take]; rfl)) ?_; (with_reducible refine (zae.calls k (⟨#[118, 32, 60, 32, 49, 32, 60, 32, 50]⟩ : ByteArray) t199 t200 _ ?side1 A2.out).mono ?_); (case side1 => exact Tabs.below hT (by repeat (first | (with_reducible first | exact HB.out | apply zab | apply zaa | apply zac) | exact HB.out))); rintro e w13 ⟨rfl, hb⟩; refine ⟨_, rfl, ?_⟩; have n0_ := zad.mk (zaf (by repeat (first | (with_reducible first | exact HB.out | apply zab | apply zaa | apply zac) | exact HB.out)) hb); clear HB; have HB := n0_; clear n0_; (try clear hb); (try clear hb2); (try clear hk); (try clear hi)) | ((with_reducible refine zan (f := 8) rfl ?_); refine zbd (some 13) rfl rfl Tryz.func8 (by kernel_rfl) rfl #[.string (⟨#[118, 32, 43, 32, 50, 32, 42, 32, 107]⟩ : ByteArray), .string (⟨#[118, 32, 43, 32, 40, 50, 32, 42, 32, 107, 41]⟩ : ByteArray)] rfl (by (try simp only [List.map_toArray, List.map_cons, List.map_nil]); first | done | rfl | (simp only [List.length_drop, List.length_take]; rfl)) ?_; (with_reducible refine (zak.calls k (⟨#[118, 32, 43, 32, 50, 32, 42, 32, 107]⟩ : ByteArray) (⟨#[118, 32, 43, 32, 40, 50, 32, 42, 32, 107, 41]⟩ : ByteArray) true _ ?side1 A3.out).mono ?_); (case side1 => exact Tabs.below hT (by repeat (first | (with_reducible first | exact HB.out | apply zab | apply zaa | apply zac) | exact HB.out))); rintro e w14 ⟨rfl, hb⟩; refine ⟨_, rfl, ?_⟩; have n0_ := zad.mk (zaf (by repeat (first | (with_reducible first | exact HB.out | apply zab | apply zaa | apply zac) | exact HB.out)) hb); clear HB; have HB := n0_; clear n0_; (try clear hb); (try clear hb2); (try clear hk); (try clear hi)) | (go_at_call 8; (with_reducible refine (zak.calls k (⟨#[40, 118, 32, 43, 32, 50, 41, 32, 42, 32, 107]⟩ : ByteArray) (⟨#[40, 118, 32, 43, 32, 50, 41, 32, 42, 32, 107]⟩ : ByteArray) true _ ?side1 A5.out).mono ?_); (case side1 => exact Tabs.below hT (by repeat (first | (with_reducible first | exact HB.out | apply zab | apply zaa | apply zac) | exact HB.out))); rintro e w15 ⟨rfl, hb⟩; have n0_ := zad.mk (zaf (by repeat (first | (with_reducible first | exact HB.out | apply zab | apply zaa | apply zac) | exact HB.out)) hb); clear HB; have HB := n0_; clear n0_; (try clear hb); (try clear hb2); (try clear hk); (try clear hi)) | (go_at_call 8; (with_reducible refine (zak.calls k (⟨#[110, 111, 116, 32, 118, 32, 61, 32, 49, 32, 97, 110, 100, 32, 107, 32, 60, 32, 50]⟩ : ByteArray) (⟨#[40, 110, 111, 116, 32, 40, 118, 32, 61, 32, 49, 41, 41, 32, 97, 110, 100, 32, 40, 107, 32, 60, 32, 50, 41]⟩ : ByteArray) true _ ?side1 A7.out).mono ?_); (case side1 => exact Tabs.below hT (by repeat (first | (with_reducible first | exact HB.out | apply zab | apply zaa | apply zac) | exact HB.out))); rintro e w16 ⟨rfl, hb⟩; have n0_ := zad.mk (zaf (by repeat (first | (with_reducible first | exact HB.out | apply zab | apply zaa | apply zac) | exact HB.out)) hb); clear HB; have HB := n0_; clear n0_; (try clear hb); (try clear hb2); (try clear hk); (try clear hi)))
              go_ret
              exact ⟨by first | rfl | (simp [zah, zai] <;> rfl) | (simp [*, zah, zai] <;> rfl), by repeat (first | (with_reducible first | exact HB.out | apply zab | apply zaa | apply zac) | exact HB.out)⟩
            · rw [if_neg c11] at H
              have c11b0 : (t199.toList == ([118, 32, 60, 32, 49] : List UInt8)) = false := beq_eq_false_iff_ne.mpr c11
              have c11b1 : (t199.toList != ([118, 32, 60, 32, 49] : List UInt8)) = true := bne_iff_ne.mpr c11
              obtain rfl := Option.some.inj H
              go_enter Tryz.func12, Tryz.ntmps12
              go_wp2_with (first | ((with_reducible refine zan (f := 24) rfl ?_); refine zbd (some 6) rfl rfl Tryz.func24 (by kernel_rfl) rfl #[.string (⟨#[118, 32, 43, 32, 41]⟩ : ByteArray)] rfl (by (try simp only [List.map_toArray, List.map_cons, List.map_nil]); first | done | rfl | (simp only [List.length_drop, List.length_take]; rfl)) ?_; (with_reducible refine (zae.calls k (⟨#[118, 32, 43, 32, 41]⟩ : ByteArray) t197 t198 _ ?side1 A1.out).mono ?_); (case side1 => exact Tabs.below hT (by repeat (first | (with_reducible first | exact HB.out | apply zab | apply zaa | apply zac) | exact HB.out))); rintro e w17 ⟨rfl, hb⟩; refine ⟨_, rfl, ?_⟩; have n0_ := zad.mk (zaf (by repeat (first | (with_reducible first | exact HB.out | apply zab | apply zaa | apply zac) | exact HB.out)) hb); clear HB; have HB := n0_; clear n0_; (try clear hb); (try clear hb2); (try clear hk); (try clear hi)) | ((with_reducible refine zan (f := 24) rfl ?_); refine zbd (some 10) rfl rfl Tryz.func24 (by kernel_rfl) rfl #[.string (⟨#[118, 32, 60, 32, 49, 32, 60, 32, 50]⟩ : ByteArray)] rfl (by (try simp only [List.map_toArray, List.map_cons, List.map_nil]); first | done | rfl | (simp only [List.length_drop, List.length_take]; rfl)) ?_; (with_reducible refine (zae.calls k (⟨#[118, 32, 60, 32, 49, 32, 60, 32, 50]⟩ : ByteArray) t199 t200 _ ?side1 A2.out).mono ?_); (case side1 => exact Tabs.below hT (by repeat (first | (with_reducible first | exact HB.out | apply zab | apply zaa | apply zac) | exact HB.out))); rintro e w18 ⟨rfl, hb⟩; refine ⟨_, rfl, ?_⟩; have n0_ := zad.mk (zaf (by repeat (first | (with_reducible first | exact HB.out | apply zab | apply zaa | apply zac) | exact HB.out)) hb); clear HB; have HB := n0_; clear n0_; (try clear hb); (try clear hb2); (try clear hk); (try clear hi)) | ((with_reducible refine zan (f := 8) rfl ?_); refine zbd (some 13) rfl rfl Tryz.func8 (by kernel_rfl) rfl #[.string (⟨#[118, 32, 43, 32, 50, 32, 42, 32, 107]⟩ : ByteArray), .string (⟨#[118, 32, 43, 32, 40, 50, 32, 42, 32, 107, 41]⟩ : ByteArray)] rfl (by (try simp only [List.map_toArray, List.map_cons, List.map_nil]); first | done | rfl | (simp only [List.length_drop, List.length_take]; rfl)) ?_; (with_reducible refine (zak.calls k (⟨#[118, 32, 43, 32, 50, 32, 42, 32, 107]⟩ : ByteArray) (⟨#[118, 32, 43, 32, 40, 50, 32, 42, 32, 107, 41]⟩ : ByteArray) true _ ?side1 A3.out).mono ?_); (case side1 => exact Tabs.below hT (by repeat (first | (with_reducible first | exact HB.out | apply zab | apply zaa | apply zac) | exact HB.out))); rintro e w19 ⟨rfl, hb⟩; refine ⟨_, rfl, ?_⟩; have n0_ := zad.mk (zaf (by repeat (first | (with_reducible first | exact HB.out | apply zab | apply zaa | apply zac) | exact HB.out)) hb); clear HB; have HB := n0_; clear n0_; (try clear hb); (try clear hb2); (try clear hk); (try clear hi)) | (go_at_call 8; (with_reducible refine (zak.calls k (⟨#[40, 118, 32, 43, 32, 50, 41, 32, 42, 32, 107]⟩ : ByteArray) (⟨#[40, 118, 32, 43, 32, 50, 41, 32, 42, 32, 107]⟩ : ByteArray) true _ ?side1 A5.out).mono ?_); (case side1 => exact Tabs.below hT (by repeat (first | (with_reducible first | exact HB.out | apply zab | apply zaa | apply zac) | exact HB.out))); rintro e w20 ⟨rfl, hb⟩; have n0_ := zad.mk (zaf (by repeat (first | (with_reducible first | exact HB.out | apply zab | apply zaa | apply zac) | exact HB.out)) hb); clear HB; have HB := n0_; clear n0_; (try clear hb); (try clear hb2); (try clear hk); (try clear hi)) | (go_at_call 8; (with_reducible refine (zak.calls k (⟨#[110, 111, 116, 32, 118, 32, 61, 32, 49, 32, 97, 110, 100, 32, 107, 32, 60, 32, 50]⟩ : ByteArray) (⟨#[40, 110, 111, 116, 32, 40, 118, 32, 61, 32, 49, 41, 41, 32, 97, 110, 100, 32, 40, 107, 32, 60, 32, 50, 41]⟩ : ByteArray) true _ ?side1 A7.out).mono ?_); (case side1 => exact Tabs.below hT (by repeat (first | (with_reducible first | exact HB.out | apply zab | apply zaa | apply zac) | exact HB.out))); rintro e w21 ⟨rfl, hb⟩; have n0_ := zad.mk (zaf (by repeat (first | (with_reducible first | exact HB.out | apply zab | apply zaa | apply zac) | exact HB.out)) hb); clear HB; have HB := n0_; clear n0_; (try clear hb); (try clear hb2); (try clear hk); (try clear hi)))
              go_ret
              exact ⟨by first | rfl | (simp [zah, zai] <;> rfl) | (simp [*, zah, zai] <;> rfl), by repeat (first | (with_reducible first | exact HB.out | apply zab | apply zaa | apply zac) | exact HB.out)⟩
          · rw [if_neg c10] at H
            have c10b0 : (t198 == 2) = false := beq_eq_false_iff_ne.mpr c10
            have c10b1 : (t198 != 2) = true := bne_iff_ne.mpr c10
            obtain rfl := Option.some.inj H
            go_enter Tryz.func12, Tryz.ntmps12
            go_wp2_with (first | ((with_reducible refine zan (f := 24) rfl ?_); refine zbd (some 6) rfl rfl Tryz.func24 (by kernel_rfl) rfl #[.string (⟨#[118, 32, 43, 32, 41]⟩ : ByteArray)] rfl (by (try simp only [List.map_toArray, List.map_cons, List.map_nil]); first | done | rfl | (simp only [List.length_drop, List.length_take]; rfl)) ?_; (with_reducible refine (zae.calls k (⟨#[118, 32, 43, 32, 41]⟩ : ByteArray) t197 t198 _ ?side1 A1.out).mono ?_); (case side1 => exact Tabs.below hT (by repeat (first | (with_reducible first | exact HB.out | apply zab | apply zaa | apply zac) | exact HB.out))); rintro e w22 ⟨rfl, hb⟩; refine ⟨_, rfl, ?_⟩; have n0_ := zad.mk (zaf (by repeat (first | (with_reducible first | exact HB.out | apply zab | apply zaa | apply zac) | exact HB.out)) hb); clear HB; have HB := n0_; clear n0_; (try clear hb); (try clear hb2); (try clear hk); (try clear hi)) | ((with_reducible refine zan (f := 24) rfl ?_); refine zbd (some 10) rfl rfl Tryz.func24 (by kernel_rfl) rfl #[.string (⟨#[118, 32, 60, 32, 49, 32, 60, 32, 50]⟩ : ByteArray)] rfl (by (try simp only [List.map_toArray, List.map_cons, List.map_nil]); first | done | rfl | (simp only [List.length_drop, List.length_take]; rfl)) ?_; (with_reducible refine (zae.calls k (⟨#[118, 32, 60, 32, 49, 32, 60, 32, 50]⟩ : ByteArray) t199 t200 _ ?side1 A2.out).mono ?_); (case side1 => exact Tabs.below hT (by repeat (first | (with_reducible first | exact HB.out | apply zab | apply zaa | apply zac) | exact HB.out))); rintro e w23 ⟨rfl, hb⟩; refine ⟨_, rfl, ?_⟩; have n0_ := zad.mk (zaf (by repeat (first | (with_reducible first | exact HB.out | apply zab | apply zaa | apply zac) | exact HB.out)) hb); clear HB; have HB := n0_; clear n0_; (try clear hb); (try clear hb2); (try clear hk); (try clear hi)) | ((with_reducible refine zan (f := 8) rfl ?_); refine zbd (some 13) rfl rfl Tryz.func8 (by kernel_rfl) rfl #[.string (⟨#[118, 32, 43, 32, 50, 32, 42, 32, 107]⟩ : ByteArray), .string (⟨#[118, 32, 43, 32, 40, 50, 32, 42, 32, 107, 41]⟩ : ByteArray)] rfl (by (try simp only [List.map_toArray, List.map_cons, List.map_nil]); first | done | rfl | (simp only [List.length_drop, List.length_take]; rfl)) ?_; (with_reducible refine (zak.calls k (⟨#[118, 32, 43, 32, 50, 32, 42, 32, 107]⟩ : ByteArray) (⟨#[118, 32, 43, 32, 40, 50, 32, 42, 32, 107, 41]⟩ : ByteArray) true _ ?side1 A3.out).mono ?_); (case side1 => exact Tabs.below hT (by repeat (first | (with_reducible first | exact HB.out | apply zab | apply zaa | apply zac) | exact HB.out))); rintro e w24 ⟨rfl, hb⟩; refine ⟨_, rfl, ?_⟩; have n0_ := zad.mk (zaf (by repeat (first | (with_reducible first | exact HB.out | apply zab | apply zaa | apply zac) | exact HB.out)) hb); clear HB; have HB := n0_; clear n0_; (try clear hb); (try clear hb2); (try clear hk); (try clear hi)) | (go_at_call 8; (with_reducible refine (zak.calls k (⟨#[40, 118, 32, 43, 32, 50, 41, 32, 42, 32, 107]⟩ : ByteArray) (⟨#[40, 118, 32, 43, 32, 50, 41, 32, 42, 32, 107]⟩ : ByteArray) true _ ?side1 A5.out).mono ?_); (case side1 => exact Tabs.below hT (by repeat (first | (with_reducible first | exact HB.out | apply zab | apply zaa | apply zac) | exact HB.out))); rintro e w25 ⟨rfl, hb⟩; have n0_ := zad.mk (zaf (by repeat (first | (with_reducible first | exact HB.out | apply zab | apply zaa | apply zac) | exact HB.out)) hb); clear HB; have HB := n0_; clear n0_; (try clear hb); (try clear hb2); (try clear hk); (try clear hi)) | (go_at_call 8; (with_reducible refine (zak.calls k (⟨#[110, 111, 116, 32, 118, 32, 61, 32, 49, 32, 97, 110, 100, 32, 107, 32, 60, 32, 50]⟩ : ByteArray) (⟨#[40, 110, 111, 116, 32, 40, 118, 32, 61, 32, 49, 41, 41, 32, 97, 110, 100, 32, 40, 107, 32, 60, 32, 50, 41]⟩ : ByteArray) true _ ?side1 A7.out).mono ?_); (case side1 => exact Tabs.below hT (by repeat (first | (with_reducible first | exact HB.out | apply zab | apply zaa | apply zac) | exact HB.out))); rintro e w26 ⟨rfl, hb⟩; have n0_ := zad.mk (zaf (by repeat (first | (with_reducible first | exact HB.out | apply zab | apply zaa | apply zac) | exact HB.out)) hb); clear HB; have HB := n0_; clear n0_; (try clear hb); (try clear hb2); (try clear hk); (try clear hi)))
            go_ret
            exact ⟨by first | rfl | (simp [zah, zai] <;> rfl) | (simp [*, zah, zai] <;> rfl), by repeat (first | (with_reducible first | exact HB.out | apply zab | apply zaa | apply zac) | exact HB.out)⟩
        · rw [if_neg c9] at H
          have c9b0 : (t197.toList == ([63] : List UInt8)) = false := beq_eq_false_iff_ne.mpr c9
          have c9b1 : (t197.toList != ([63] : List UInt8)) = true := bne_iff_ne.mpr c9
          obtain rfl := Option.some.inj H
          go_enter Tryz.func12, Tryz.ntmps12
          go_wp2_with (first | ((with_reducible refine zan (f := 24) rfl ?_); refine zbd (some 6) rfl rfl Tryz.func24 (by kernel_rfl) rfl #[.string (⟨#[118, 32, 43, 32, 41]⟩ : ByteArray)] rfl (by (try simp only [List.map_toArray, List.map_cons, List.map_nil]); first | done | rfl | (simp only [List.length_drop, List.length_take]; rfl)) ?_; (with_reducible refine (zae.calls k (⟨#[118, 32, 43, 32, 41]⟩ : ByteArray) t197 t198 _ ?side1 A1.out).mono ?_); (case side1 => exact Tabs.below hT (by repeat (first | (with_reducible first | exact HB.out | apply zab | apply zaa | apply zac) | exact HB.out))); rintro e w27 ⟨rfl, hb⟩; refine ⟨_, rfl, ?_⟩; have n0_ := zad.mk (zaf (by repeat (first | (with_reducible first | exact HB.out | apply zab | apply zaa | apply zac) | exact HB.out)) hb); clear HB; have HB := n0_; clear n0_; (try clear hb); (try clear hb2); (try clear hk); (try clear hi)) | ((with_reducible refine zan (f := 24) rfl ?_); refine zbd (some 10) rfl rfl Tryz.func24 (by kernel_rfl) rfl #[.string (⟨#[118, 32, 60, 32, 49, 32, 60, 32, 50]⟩ : ByteArray)] rfl (by (try simp only [List.map_toArray, List.map_cons, List.map_nil]); first | done | rfl | (simp only [List.length_drop, List.length_take]; rfl)) ?_; (with_reducible refine (zae.calls k (⟨#[118, 32, 60, 32, 49, 32, 60, 32, 50]⟩ : ByteArray) t199 t200 _ ?side1 A2.out).mono ?_); (case side1 => exact Tabs.below hT (by repeat (first | (with_reducible first | exact HB.out | apply zab | apply zaa | apply zac) | exact HB.out))); rintro e w28 ⟨rfl, hb⟩; refine ⟨_, rfl, ?_⟩; have n0_ := zad.mk (zaf (by repeat (first | (with_reducible first | exact HB.out | apply zab | apply zaa | apply zac) | exact HB.out)) hb); clear HB; have HB := n0_; clear n0_; (try clear hb); (try clear hb2); (try clear hk); (try clear hi)) | ((with_reducible refine zan (f := 8) rfl ?_); refine zbd (some 13) rfl rfl Tryz.func8 (by kernel_rfl) rfl #[.string (⟨#[118, 32, 43, 32, 50, 32, 42, 32, 107]⟩ : ByteArray), .string (⟨#[118, 32, 43, 32, 40, 50, 32, 42, 32, 107, 41]⟩ : ByteArray)] rfl (by (try simp only [List.map_toArray, List.map_cons, List.map_nil]); first | done | rfl | (simp only [List.length_drop, List.length_take]; rfl)) ?_; (with_reducible refine (zak.calls k (⟨#[118, 32, 43, 32, 50, 32, 42, 32, 107]⟩ : ByteArray) (⟨#[118, 32, 43, 32, 40, 50, 32, 42, 32, 107, 41]⟩ : ByteArray) true _ ?side1 A3.out).mono ?_); (case side1 => exact Tabs.below hT (by repeat (first | (with_reducible first | exact HB.out | apply zab | apply zaa | apply zac) | exact HB.out))); rintro e w29 ⟨rfl, hb⟩; refine ⟨_, rfl, ?_⟩; have n0_ := zad.mk (zaf (by repeat (first | (with_reducible first | exact HB.out | apply zab | apply zaa | apply zac) | exact HB.out)) hb); clear HB; have HB := n0_; clear n0_; (try clear hb); (try clear hb2); (try clear hk); (try clear hi)) | (go_at_call 8; (with_reducible refine (zak.calls k (⟨#[40, 118, 32, 43, 32, 50, 41, 32, 42, 32, 107]⟩ : ByteArray) (⟨#[40, 118, 32, 43, 32, 50, 41, 32, 42, 32, 107]⟩ : ByteArray) true _ ?side1 A5.out).mono ?_); (case side1 => exact Tabs.below hT (by repeat (first | (with_reducible first | exact HB.out | apply zab | apply zaa | apply zac) | exact HB.out))); rintro e w30 ⟨rfl, hb⟩; have n0_ := zad.mk (zaf (by repeat (first | (with_reducible first | exact HB.out | apply zab | apply zaa | apply zac) | exact HB.out)) hb); clear HB; have HB := n0_; clear n0_; (try clear hb); (try clear hb2); (try clear hk); (try clear hi)) | (go_at_call 8; (with_reducible refine (zak.calls k (⟨#[110, 111, 116, 32, 118, 32, 61, 32, 49, 32, 97, 110, 100, 32, 107, 32, 60, 32, 50]⟩ : ByteArray) (⟨#[40, 110, 111, 116, 32, 40, 118, 32, 61, 32, 49, 41, 41, 32, 97, 110, 100, 32, 40, 107, 32, 60, 32, 50, 41]⟩ : ByteArray) true _ ?side1 A7.out).mono ?_); (case side1 => exact Tabs.below hT (by repeat (first | (with_reducible first | exact HB.out | apply zab | apply zaa | apply zac) | exact HB.out))); rintro e w31 ⟨rfl, hb⟩; have n0_ := zad.mk (zaf (by repeat (first | (with_reducible first | exact HB.out | apply zab | apply zaa | apply zac) | exact HB.out)) hb); clear HB; have HB := n0_; clear n0_; (try clear hb); (try clear hb2); (try clear hk); (try clear hi)))
          go_ret
          exact ⟨by first | rfl | (simp [zah, zai] <;> rfl) | (simp [*, zah, zai] <;> rfl), by repeat (first | (with_reducible first | exact HB.out | apply zab | apply zaa | apply zac) | exact HB.out)⟩
      · replace c8 := Bool.eq_false_iff.mpr c8
        subst c8
        have H1 : (some false) = some r := by rw [if_neg (show ¬ (false = true) by decide)] at H; exact H
        clear H
        have H := H1
        clear H1
        obtain rfl := Option.some.inj H
        go_enter Tryz.func12, Tryz.ntmps12
        go_wp2_with (first | ((with_reducible refine zan (f := 24) rfl ?_); refine zbd (some 6) rfl rfl Tryz.func24 (by kernel_rfl) rfl #[.string (⟨#[118, 32, 43, 32, 41]⟩ : ByteArray)] rfl (by (try simp only [List.map_toArray, List.map_cons, List.map_nil]); first | done | rfl | (simp only [List.length_drop, List.length_take]; rfl)) ?_; (with_reducible refine (zae.calls k (⟨#[118, 32, 43, 32, 41]⟩ : ByteArray) t197 t198 _ ?side1 A1.out).mono ?_); (case side1 => exact Tabs.below hT (by repeat (first | (with_reducible first | exact HB.out | apply zab | apply zaa | apply zac) | exact HB.out))); rintro e w32 ⟨rfl, hb⟩; refine ⟨_, rfl, ?_⟩; have n0_ := zad.mk (zaf (by repeat (first | (with_reducible first | exact HB.out | apply zab | apply zaa | apply zac) | exact HB.out)) hb); clear HB; have HB := n0_; clear n0_; (try clear hb); (try clear hb2); (try clear hk); (try clear hi)) | ((with_reducible refine zan (f := 24) rfl ?_); refine zbd (some 10) rfl rfl Tryz.func24 (by kernel_rfl) rfl #[.string (⟨#[118, 32, 60, 32, 49, 32, 60, 32, 50]⟩ : ByteArray)] rfl (by (try simp only [List.map_toArray, List.map_cons, List.map_nil]); first | done | rfl | (simp only [List.length_drop, List.length_take]; rfl)) ?_; (with_reducible refine (zae.calls k (⟨#[118, 32, 60, 32, 49, 32, 60, 32, 50]⟩ : ByteArray) t199 t200 _ ?side1 A2.out).mono ?_); (case side1 => exact Tabs.below hT (by repeat (first | (with_reducible first | exact HB.out | apply zab | apply zaa | apply zac) | exact HB.out))); rintro e w33 ⟨rfl, hb⟩; refine ⟨_, rfl, ?_⟩; have n0_ := zad.mk (zaf (by repeat (first | (with_reducible first | exact HB.out | apply zab | apply zaa | apply zac) | exact HB.out)) hb); clear HB; have HB := n0_; clear n0_; (try clear hb); (try clear hb2); (try clear hk); (try clear hi)) | ((with_reducible refine zan (f := 8) rfl ?_); refine zbd (some 13) rfl rfl Tryz.func8 (by kernel_rfl) rfl #[.string (⟨#[118, 32, 43, 32, 50, 32, 42, 32, 107]⟩ : ByteArray), .string (⟨#[118, 32, 43, 32, 40, 50, 32, 42, 32, 107, 41]⟩ : ByteArray)] rfl (by (try simp only [List.map_toArray, List.map_cons, List.map_nil]); first | done | rfl | (simp only [List.length_drop, List.length_take]; rfl)) ?_; (with_reducible refine (zak.calls k (⟨#[118, 32, 43, 32, 50, 32, 42, 32, 107]⟩ : ByteArray) (⟨#[118, 32, 43, 32, 40, 50, 32, 42, 32, 107, 41]⟩ : ByteArray) true _ ?side1 A3.out).mono ?_); (case side1 => exact Tabs.below hT (by repeat (first | (with_reducible first | exact HB.out | apply zab | apply zaa | apply zac) | exact HB.out))); rintro e w34 ⟨rfl, hb⟩; refine ⟨_, rfl, ?_⟩; have n0_ := zad.mk (zaf (by repeat (first | (with_reducible first | exact HB.out | apply zab | apply zaa | apply zac) | exact HB.out)) hb); clear HB; have HB := n0_; clear n0_; (try clear hb); (try clear hb2); (try clear hk); (try clear hi)) | (go_at_call 8; (with_reducible refine (zak.calls k (⟨#[40, 118, 32, 43, 32, 50, 41, 32, 42, 32, 107]⟩ : ByteArray) (⟨#[40, 118, 32, 43, 32, 50, 41, 32, 42, 32, 107]⟩ : ByteArray) true _ ?side1 A5.out).mono ?_); (case side1 => exact Tabs.below hT (by repeat (first | (with_reducible first | exact HB.out | apply zab | apply zaa | apply zac) | exact HB.out))); rintro e w35 ⟨rfl, hb⟩; have n0_ := zad.mk (zaf (by repeat (first | (with_reducible first | exact HB.out | apply zab | apply zaa | apply zac) | exact HB.out)) hb); clear HB; have HB := n0_; clear n0_; (try clear hb); (try clear hb2); (try clear hk); (try clear hi)) | (go_at_call 8; (with_reducible refine (zak.calls k (⟨#[110, 111, 116, 32, 118, 32, 61, 32, 49, 32, 97, 110, 100, 32, 107, 32, 60, 32, 50]⟩ : ByteArray) (⟨#[40, 110, 111, 116, 32, 40, 118, 32, 61, 32, 49, 41, 41, 32, 97, 110, 100, 32, 40, 107, 32, 60, 32, 50, 41]⟩ : ByteArray) false _ ?side1 A7.out).mono ?_); (case side1 => exact Tabs.below hT (by repeat (first | (with_reducible first | exact HB.out | apply zab | apply zaa | apply zac) | exact HB.out))); rintro e w36 ⟨rfl, hb⟩; have n0_ := zad.mk (zaf (by repeat (first | (with_reducible first | exact HB.out | apply zab | apply zaa | apply zac) | exact HB.out)) hb); clear HB; have HB := n0_; clear n0_; (try clear hb); (try clear hb2); (try clear hk); (try clear hi)))
        go_ret
        exact ⟨by first | rfl | (simp [zah, zai] <;> rfl) | (simp [*, zah, zai] <;> rfl), by repeat (first | (with_reducible first | exact HB.out | apply zab | apply zaa | apply zac) | exact HB.out)⟩
    · replace c6 := Bool.eq_false_iff.mpr c6
      subst c6
      have H1 : (some false) = some r := by rw [if_neg (show ¬ (false = true) by decide)] at H; exact H
      clear H
      have H := H1
      clear H1
      obtain rfl := Option.some.inj H
      go_enter Tryz.func12, Tryz.ntmps12
      go_wp2_with (first | ((with_reducible refine zan (f := 24) rfl ?_); refine zbd (some 6) rfl rfl Tryz.func24 (by kernel_rfl) rfl #[.string (⟨#[118, 32, 43, 32, 41]⟩ : ByteArray)] rfl (by (try simp only [List.map_toArray, List.map_cons, List.map_nil]); first | done | rfl | (simp only [List.length_drop, List.length_take]; rfl)) ?_; (with_reducible refine (zae.calls k (⟨#[118, 32, 43, 32, 41]⟩ : ByteArray) t197 t198 _ ?side1 A1.out).mono ?_); (case side1 => exact Tabs.below hT (by repeat (first | (with_reducible first | exact HB.out | apply zab | apply zaa | apply zac) | exact HB.out))); rintro e w37 ⟨rfl, hb⟩; refine ⟨_, rfl, ?_⟩; have n0_ := zad.mk (zaf (by repeat (first | (with_reducible first | exact HB.out | apply zab | apply zaa | apply zac) | exact HB.out)) hb); clear HB; have HB := n0_; clear n0_; (try clear hb); (try clear hb2); (try clear hk); (try clear hi)) | ((with_reducible refine zan (f := 24) rfl ?_); refine zbd (some 10) rfl rfl Tryz.func24 (by kernel_rfl) rfl #[.string (⟨#[118, 32, 60, 32, 49, 32, 60, 32, 50]⟩ : ByteArray)] rfl (by (try simp only [List.map_toArray, List.map_cons, List.map_nil]); first | done | rfl | (simp only [List.length_drop, List.length_take]; rfl)) ?_; (with_reducible refine (zae.calls k (⟨#[118, 32, 60, 32, 49, 32, 60, 32, 50]⟩ : ByteArray) t199 t200 _ ?side1 A2.out).mono ?_); (case side1 => exact Tabs.below hT (by repeat (first | (with_reducible first | exact HB.out | apply zab | apply zaa | apply zac) | exact HB.out))); rintro e w38 ⟨rfl, hb⟩; refine ⟨_, rfl, ?_⟩; have n0_ := zad.mk (zaf (by repeat (first | (with_reducible first | exact HB.out | apply zab | apply zaa | apply zac) | exact HB.out)) hb); clear HB; have HB := n0_; clear n0_; (try clear hb); (try clear hb2); (try clear hk); (try clear hi)) | ((with_reducible refine zan (f := 8) rfl ?_); refine zbd (some 13) rfl rfl Tryz.func8 (by kernel_rfl) rfl #[.string (⟨#[118, 32, 43, 32, 50, 32, 42, 32, 107]⟩ : ByteArray), .string (⟨#[118, 32, 43, 32, 40, 50, 32, 42, 32, 107, 41]⟩ : ByteArray)] rfl (by (try simp only [List.map_toArray, List.map_cons, List.map_nil]); first | done | rfl | (simp only [List.length_drop, List.length_take]; rfl)) ?_; (with_reducible refine (zak.calls k (⟨#[118, 32, 43, 32, 50, 32, 42, 32, 107]⟩ : ByteArray) (⟨#[118, 32, 43, 32, 40, 50, 32, 42, 32, 107, 41]⟩ : ByteArray) true _ ?side1 A3.out).mono ?_); (case side1 => exact Tabs.below hT (by repeat (first | (with_reducible first | exact HB.out | apply zab | apply zaa | apply zac) | exact HB.out))); rintro e w39 ⟨rfl, hb⟩; refine ⟨_, rfl, ?_⟩; have n0_ := zad.mk (zaf (by repeat (first | (with_reducible first | exact HB.out | apply zab | apply zaa | apply zac) | exact HB.out)) hb); clear HB; have HB := n0_; clear n0_; (try clear hb); (try clear hb2); (try clear hk); (try clear hi)) | (go_at_call 8; (with_reducible refine (zak.calls k (⟨#[40, 118, 32, 43, 32, 50, 41, 32, 42, 32, 107]⟩ : ByteArray) (⟨#[40, 118, 32, 43, 32, 50, 41, 32, 42, 32, 107]⟩ : ByteArray) false _ ?side1 A5.out).mono ?_); (case side1 => exact Tabs.below hT (by repeat (first | (with_reducible first | exact HB.out | apply zab | apply zaa | apply zac) | exact HB.out))); rintro e w40 ⟨rfl, hb⟩; have n0_ := zad.mk (zaf (by repeat (first | (with_reducible first | exact HB.out | apply zab | apply zaa | apply zac) | exact HB.out)) hb); clear HB; have HB := n0_; clear n0_; (try clear hb); (try clear hb2); (try clear hk); (try clear hi)))
      go_ret
      exact ⟨by first | rfl | (simp [zah, zai] <;> rfl) | (simp [*, zah, zai] <;> rfl), by repeat (first | (with_reducible first | exact HB.out | apply zab | apply zaa | apply zac) | exact HB.out)⟩
  · replace c4 := Bool.eq_false_iff.mpr c4
    subst c4
    have H1 : (some false) = some r := by rw [if_neg (show ¬ (false = true) by decide)] at H; exact H
    clear H
    have H := H1
    clear H1
    obtain rfl := Option.some.inj H
    go_enter Tryz.func12, Tryz.ntmps12
    go_wp2_with (first | ((with_reducible refine zan (f := 24) rfl ?_); refine zbd (some 6) rfl rfl Tryz.func24 (by kernel_rfl) rfl #[.string (⟨#[118, 32, 43, 32, 41]⟩ : ByteArray)] rfl (by (try simp only [List.map_toArray, List.map_cons, List.map_nil]); first | done | rfl | (simp only [List.length_drop, List.length_take]; rfl)) ?_; (with_reducible refine (zae.calls k (⟨#[118, 32, 43, 32, 41]⟩ : ByteArray) t197 t198 _ ?side1 A1.out).mono ?_); (case side1 => exact Tabs.below hT (by repeat (first | (with_reducible first | exact HB.out | apply zab | apply zaa | apply zac) | exact HB.out))); rintro e w41 ⟨rfl, hb⟩; refine ⟨_, rfl, ?_⟩; have n0_ := zad.mk (zaf (by repeat (first | (with_reducible first | exact HB.out | apply zab | apply zaa | apply zac) | exact HB.out)) hb); clear HB; have HB := n0_; clear n0_; (try clear hb); (try clear hb2); (try clear hk); (try clear hi)) | ((with_reducible refine zan (f := 24) rfl ?_); refine zbd (some 10) rfl rfl Tryz.func24 (by kernel_rfl) rfl #[.string (⟨#[118, 32, 60, 32, 49, 32, 60, 32, 50]⟩ : ByteArray)] rfl (by (try simp only [List.map_toArray, List.map_cons, List.map_nil]); first | done | rfl | (simp only [List.length_drop, List.length_take]; rfl)) ?_; (with_reducible refine (zae.calls k (⟨#[118, 32, 60, 32, 49, 32, 60, 32, 50]⟩ : ByteArray) t199 t200 _ ?side1 A2.out).mono ?_); (case side1 => exact Tabs.below hT (by repeat (first | (with_reducible first | exact HB.out | apply zab | apply zaa | apply zac) | exact HB.out))); rintro e w42 ⟨rfl, hb⟩; refine ⟨_, rfl, ?_⟩; have n0_ := zad.mk (zaf (by repeat (first | (with_reducible first | exact HB.out | apply zab | apply zaa | apply zac) | exact HB.out)) hb); clear HB; have HB := n0_; clear n0_; (try clear hb); (try clear hb2); (try clear hk); (try clear hi)) | ((with_reducible refine zan (f := 8) rfl ?_); refine zbd (some 13) rfl rfl Tryz.func8 (by kernel_rfl) rfl #[.string (⟨#[118, 32, 43, 32, 50, 32, 42, 32, 107]⟩ : ByteArray), .string (⟨#[118, 32, 43, 32, 40, 50, 32, 42, 32, 107, 41]⟩ : ByteArray)] rfl (by (try simp only [List.map_toArray, List.map_cons, List.map_nil]); first | done | rfl | (simp only [List.length_drop, List.length_take]; rfl)) ?_; (with_reducible refine (zak.calls k (⟨#[118, 32, 43, 32, 50, 32, 42, 32, 107]⟩ : ByteArray) (⟨#[118, 32, 43, 32, 40, 50, 32, 42, 32, 107, 41]⟩ : ByteArray) false _ ?side1 A3.out).mono ?_); (case side1 => exact Tabs.below hT (by repeat (first | (with_reducible first | exact HB.out | apply zab | apply zaa | apply zac) | exact HB.out))); rintro e w43 ⟨rfl, hb⟩; refine ⟨_, rfl, ?_⟩; have n0_ := zad.mk (zaf (by repeat (first | (with_reducible first | exact HB.out | apply zab | apply zaa | apply zac) | exact HB.out)) hb); clear HB; have HB := n0_; clear n0_; (try clear hb); (try clear hb2); (try clear hk); (try clear hi)))
    go_ret
    exact ⟨by first | rfl | (simp [zah, zai] <;> rfl) | (simp [*, zah, zai] <;> rfl), by repeat (first | (with_reducible first | exact HB.out | apply zab | apply zaa | apply zac) | exact HB.out)⟩
end Go.Proofs.YtgmmngipnjmkfaaGreatDoor.Q
end
section
namespace Go.Proofs.YtgmmngipnjmkfaaGreatDoor.PureL
set_option linter.unusedVariables false
open Go.RowKit Go.Proofs.YtgmmngipnjmkfaaGreatDoor.Hand Go.Proofs.YtgmmngipnjmkfaaGreatDoor.Q Go.Proofs.YtgmmngipnjmkfaaGreatDoorW.PrintWords Go.Proofs.YtgmmngipnjmkfaaGreatDoorW.PrintLast Go.Proofs.YtgmmngipnjmkfaaGreatDoorW.PrintMore
open Go.Proofs.YtgmmngipnjmkfaaGreatDoor.Pure (Tr tbytes tk pt br isLeaf opB fldB brB Ct Res Job Nd cdAt valAt posAt Seg)
def tkOf (t : Tk) : Nat × Int := ((cT t).c, (cT t).v)
theorem step_tok {q : Int} {w X : List UInt8} (hv : chk q w = 0) (ht : tok (w ++ X) = (q, w)) {ts : List Tk} {m : Nat} {e : Int} {a n : Nat} (hn : n < 200) (h : Scan (a + w.length) (n + 1) X ts m e) : Scan a n (w ++ X) (⟨q, ba w, (a : Int)⟩ :: ts) m e := by
  cases w with
  | nil => exact absurd rfl (chk_pos hv)
  | cons c r =>
    have hs := Scan.tok (a := a) (n := n) (c := c) (r := r ++ X) (ts := ts) (m := m) (e := e) (chk_head q c r hv) (by omega)
      (by rw [show c :: (r ++ X) = c :: r ++ X from rfl, ht]; exact hv)
      (by rw [show c :: (r ++ X) = c :: r ++ X from rfl, ht, List.drop_left' rfl]; exact h)
    rw [show c :: (r ++ X) = c :: r ++ X from rfl, ht] at hs
    exact hs
theorem symL_br (c : UInt8) (hc : c = 40 ∨ c = 41) (X : List UInt8) : symL (c :: X) = 1 := by
  rcases hc with rfl | rfl <;> cases X <;> simp [symL, kindOf, two]
theorem tok_br (c : UInt8) (hc : c = 40 ∨ c = 41) (X : List UInt8) : tok ([c] ++ X) = (3, [c]) := by
  have h2 : ¬ kd c = 2 := by rcases hc with rfl | rfl <;> decide
  have h3 : ¬ kd c = 3 := by rcases hc with rfl | rfl <;> decide
  show tok (c :: X) = _
  simp only [tok, if_neg h2, if_neg h3]
  rw [symL_br c hc X]; rfl
theorem chk_lp : chk 3 [40] = 0 := by decide
theorem chk_rp : chk 3 [41] = 0 := by decide
def Reads (bs : List UInt8) (cs : List (Nat × Int)) (X : List UInt8) : Prop := ∀ (a n : Nat) (ts' : List Tk) (m : Nat) (e : Int), n + cs.length ≤ 200 → Scan (a + bs.length) (n + cs.length) X ts' m e → ∃ ts, Scan a n (bs ++ X) (ts ++ ts') m e ∧ ts.map tkOf = cs
theorem Reads.app {bs1 bs2 : List UInt8} {cs1 cs2 : List (Nat × Int)} {X : List UInt8} (h1 : Reads bs1 cs1 (bs2 ++ X)) (h2 : Reads bs2 cs2 X) : Reads (bs1 ++ bs2) (cs1 ++ cs2) X := by
  intro a n ts' m e hn h
  rw [List.length_append] at hn
  rw [List.length_append, List.length_append, ← Nat.add_assoc, ← Nat.add_assoc] at h
  obtain ⟨t2, hs2, hm2⟩ := h2 (a + bs1.length) (n + cs1.length) ts' m e (by omega) h
  obtain ⟨t1, hs1, hm1⟩ := h1 a n (t2 ++ ts') m e (by omega) hs2
  exact ⟨t1 ++ t2, by rw [List.append_assoc, List.append_assoc]; exact hs1, by rw [List.map_append, hm1, hm2]⟩
theorem Reads.sp (X : List UInt8) : Reads [32] [] X := fun a n ts' m e _ h => ⟨[], .blank kd_sp h, rfl⟩
theorem Reads.one {q : Int} {w X : List UInt8} {c : Nat × Int} (hv : chk q w = 0) (ht : tok (w ++ X) = (q, w)) (hc : ∀ p, tkOf ⟨q, ba w, p⟩ = c) : Reads w [c] X :=
  fun a n ts' m e hn h => ⟨[⟨q, ba w, (a : Int)⟩], step_tok hv ht (by simp at hn; omega) h, by rw [List.map_cons, hc]; rfl⟩
theorem Reads.bracket {bs : List UInt8} {cs : List (Nat × Int)} {X : List UInt8} (h : Reads bs cs (41 :: X)) : Reads (40 :: (bs ++ [41])) ((5, 0) :: (cs ++ [(6, 0)])) X := by
  have h1 : Reads [40] [(5, 0)] ((bs ++ [41]) ++ X) := Reads.one chk_lp (tok_br 40 (.inl rfl) _) (fun p => rfl)
  have h2 : Reads [41] [(6, 0)] X := Reads.one chk_rp (tok_br 41 (.inr rfl) _) (fun p => rfl)
  have h3 : Reads (bs ++ [41]) (cs ++ [(6, 0)]) X := Reads.app (bs2 := [41]) h h2
  exact Reads.app (bs1 := [40]) (cs1 := [(5, 0)]) h1 h3
structure Good (L : List Tk) : Prop where
  len : L.length ≤ 200
  tok : ∀ t ∈ L, chkT t = 0 ∧ 0 ≤ t.f2 ∧ t.f2 ≤ 400 ∧ t.f1.size ≤ 140737488351232
theorem jn_one (t : Tk) (h : chkT t = 0) : (jn [t]).2 ≠ 8 := by
  unfold jn
  rw [if_neg (by simp), if_pos (by rw [List.all_cons, List.all_nil, h]; rfl)]
  split
  · show (18 : Int) ≠ 8; decide
  · show (0 : Int) ≠ 8; decide
theorem parse_l0 {k : Nat} (hk : 201 ≤ k) : ∀ (L : List Tk), (∀ t ∈ L, chkT t = 0 ∧ 0 ≤ t.f2 ∧ t.f2 ≤ 400 ∧ t.f1.size ≤ 140737488351232) → za8.l0 k L = some false
  | [], _ => rfl
  | t :: r, h => by
    obtain ⟨h1, h2, h3, h4⟩ := h t (List.mem_cons_self ..)
    simp only [za8.l0]
    rw [join_f [t] 140737488351232 (Nat.le_refl _) (fun _ => by rw [List.length_singleton]; decide) (fun x hx => by rw [List.mem_singleton.1 hx]; exact h4) k hk]
    simp only [Option.bind_some]
    rw [if_neg (by have := jn_one t h1; omega)]
    exact parse_l0 hk r (fun x hx => h x (List.mem_cons_of_mem _ hx))
theorem good_fine {L : List Tk} (h : Good L) : fineB L = true := fineB_iff.2 ⟨h.len, fun t ht => by obtain ⟨_, h2, h3, h4⟩ := h.tok t ht; exact ⟨h2, h3, by omega⟩⟩
theorem parse_f {L : List Tk} (h : Good L) (a : Nat) (ha : a ≤ L.length) (k : Nat) (hk : 201 ≤ k) : za8.f k L (a : Int) = resO (Pure.run (CL L) k (.expr 1) a) := by
  have h1 := h.len
  unfold za8.f
  rw [if_neg (by omega), parse_l0 hk L h.tok]
  simp only [Option.bind_some]
  rw [if_neg (by decide), if_neg (by omega)]
  unfold zbm.f
  rw [if_pos ⟨rfl, by omega, by omega, by decide, by decide, good_fine h⟩, Int.toNat_natCast]
  rfl
end Go.Proofs.YtgmmngipnjmkfaaGreatDoor.PureL
end
