/- Lemmas of the proof (cut to what it uses, by wip/trim.py). -/
import Derived.Lib.ItoaNum
import Derived.Shelf.Strconv.Itoa4
import Derived.Test.YtgmmngipnjmkfaaGreatDoorProg
import Derived.Test.YtgmmngipnjmkfaaGreatDoorEo3
import Derived.Test.YtgmmngipnjmkfaaGreatDoorEo6
section
namespace Go.Proofs.YtgmmngipnjmkfaaGreatDoor.Q
open Go.Proofs.YtgmmngipnjmkfaaGreatDoor.Hand
open Go.RowKit Go.Proofs.YtgmmngipnjmkfaaGreatDoorW.PrintWords Go.Proofs.YtgmmngipnjmkfaaGreatDoorW.PrintLast Go.Proofs.YtgmmngipnjmkfaaGreatDoorW.PrintMore
attribute [local go_sem] zda zdb zdm zdn zcq zcr zdc zdd
set_option linter.unusedVariables false
set_option linter.unusedSimpArgs false
mutual
def za7.l0 : Nat → Int → List (S43) → Int → Int → Option ((List (S43)))
  | 0, _, _, _, _ => none
  | k + 1, x1, x5, x12, x13 => if x13 < x12 then (if 0 ≤ x13 then (if x13 < (x5.length : Int) then ((zb5.f ((zbf x5 x13).f0)).bind fun bt144 => (if bt144.1 > 0 then (za7.j1 k x1 (x5.set (x13 : Int).toNat (⟨(zbf x5 x13).f0, (zbf x5 x13).f1, wrap64 (((zbf x5 x13).f2) + x1), (zbf x5 x13).f3, (zbf x5 x13).f4⟩ : S43)) x13 bt144.1 x12 x13) else (za7.j1 k x1 x5 x13 bt144.1 x12 x13))) else (none)) else (none)) else (some x5)
def za7.j1 : Nat → Int → List (S43) → Int → Int → Int → Int → Option ((List (S43)))
  | 0, _, _, _, _, _, _ => none
  | k + 1, x1, x5, x6, x7, x12, x13 => if x7 > 1 then (if 0 ≤ x6 then (if x6 < (x5.length : Int) then (za7.l0 k x1 (x5.set (x6 : Int).toNat (⟨(zbf x5 x6).f0, (zbf x5 x6).f1, (zbf x5 x6).f2, wrap64 (((zbf x5 x6).f3) + x1), (zbf x5 x6).f4⟩ : S43)) x12 (wrap64 (x13 + 1))) else (none)) else (none)) else (za7.l0 k x1 x5 x12 (wrap64 (x13 + 1)))
end
def za7.f (k : Nat) (l0 : List (S43)) (a1 : Int) : Option ((List (S43))) := (api_Node.f l0).bind fun t140 => (za7.l0 k a1 t140 (t140.length : Int) 0)
set_option maxHeartbeats 8000000 in
set_option maxRecDepth 100000 in
theorem za7.calls (k : Nat) (A0 : Option Addr) (c0 : Nat) (l0 : List (S43)) (a1 : Int) (r : List (S43)) (w : World) (hr0 : Kd.C k43 w A0 l0.length l0) (hc0 : l0.length ≤ c0) (h : za7.f k l0 a1 = some r) :
 Calls Tryz.prog 37 #[.slice A0 l0.length c0, .int .i64 a1] w fun e w' => ∃ v0_ : Value, e = .returned (v0_) ∧ Kd.R k43 43 w' w.heap.size (fun _ => True) v0_ r ∧ Below w.heap.size w w' := by
 have HR0 := zad.mk hr0
 have HC0 := zad.mk hc0
 clear hr0 hc0
 have HB := zad.mk (Below.refl w.heap.size w)
 have H : ((api_Node.f l0).bind fun t140 => (za7.l0 k a1 t140 (t140.length : Int) 0)) = some r := h
 clear h
 replace H := Option.bind_eq_some_iff.mp H
 obtain ⟨t140, A30, H⟩ := H
 replace H : (za7.l0 k a1 t140 (t140.length : Int) 0) = some r := H
 have A3 := zad.mk A30
 clear A30
 have H' := zad.mk H
 clear H
 go_enter Tryz.func37, Tryz.ntmps37
 go_wp2_with (first | ((with_reducible refine zan (f := 56) rfl ?_); refine zbd (some 10) rfl rfl Tryz.func56 (by kernel_rfl) rfl #[.slice A0 l0.length c0] rfl (by (try simp only [List.map_toArray, List.map_cons, List.map_nil]); first | done | rfl | (simp only [List.length_drop, List.length_take]; rfl)) ?_; (with_reducible refine (api_Node.calls _ _ l0 t140 _ ?side1 ?side2 A3.out).mono ?_); (case side1 => repeat (first | exact HR0.out | (with_reducible refine Kd.zce ?_ _) | (with_reducible refine Kd.zb6 ?_ _) | (with_reducible refine Kd.zcp ?_))); (case side2 => exact HC0.out); rintro e w4 ⟨v141, rfl, ho0, hb⟩; refine ⟨_, rfl, ?_⟩; have n0_ := zad.mk (Kd.zbp ho0 (zao (by repeat (first | (with_reducible first | exact HB.out | apply zab | apply zaa | apply zac) | exact HB.out)))); have n1_ := zad.mk (zaf (by repeat (first | (with_reducible first | exact HB.out | apply zab | apply zaa | apply zac) | exact HB.out)) hb); clear HB; have HO142 := n0_; have HB := n1_; clear n0_ n1_; (try clear hb); (try clear hb2); (try clear hk); (try clear hi); (try clear ho0); obtain ⟨Ao5, co5, eo5⟩ := Kd.zbk HO142.out; subst eo5))
 go_loopg [13] k (fun kq v13 w' => ∃ (x5_1 : List (S43)) (x13_1 : Int), v13 = .int .i64 x13_1 ∧ zad (za7.l0 kq a1 x5_1 (t140.length : Int) x13_1 = some r) ∧ zad (kq ≤ k) ∧ zad (Kd.R k43 43 w' w.heap.size (fun _ => True) (.slice Ao5 t140.length co5) x5_1) ∧ zad (Below w.heap.size w w'))
 case atStart => exact ⟨(t140), (0), (by first | rfl | (simp; done) | (simp [*]; done)), H', ⟨Nat.le_refl _⟩, ⟨by (with_reducible repeat (first | apply Kd.zav | apply Kd.za1 | apply Kd.za9)); exact HO142.out⟩, ⟨by repeat (first | (with_reducible first | exact HB.out | apply zab | apply zaa | apply zac) | exact HB.out)⟩⟩
 case round =>
  clear H'
  try clear p2
  try clear c3
  try clear c5
  obtain ⟨x5_1, x13_1, rfl, HA, HK1, HO_5, HB⟩ := hrel
  have hl5_1 := (Kd.zbg HO_5.out).1
  rw [hl5_1] at HO_5
  (try simp only [hl5_1])
  cases gk with
  | zero => exact absurd HA.out (by simp [za7.l0])
  | succ k1 =>
   have H := HA.out
   clear HA
   simp only [za7.l0] at H
   by_cases c6 : x13_1 < (t140.length : Int)
   ·rw [if_pos c6] at H
    have c6b0 : decide (x13_1 < (t140.length : Int)) = true := decide_eq_true c6
    clear c6
    by_cases c7 : 0 ≤ x13_1
    ·rw [if_pos c7] at H
     have c7b0 : decide (0 ≤ x13_1) = true := decide_eq_true c7
     clear c7
     by_cases c8 : x13_1 < (x5_1.length : Int)
     ·rw [if_pos c8] at H
      have c8b0 : decide (x13_1 < (x5_1.length : Int)) = true := decide_eq_true c8
      clear c8
      replace H := Option.bind_eq_some_iff.mp H
      obtain ⟨⟨t144, t145⟩, A90, H⟩ := H
      replace H : (if t144 > 0 then (za7.j1 k1 a1 (x5_1.set (x13_1 : Int).toNat (⟨(zbf x5_1 x13_1).f0, (zbf x5_1 x13_1).f1, wrap64 (((zbf x5_1 x13_1).f2) + a1), (zbf x5_1 x13_1).f3, (zbf x5_1 x13_1).f4⟩ : S43)) x13_1 t144 (t140.length : Int) x13_1) else (za7.j1 k1 a1 x5_1 x13_1 t144 (t140.length : Int) x13_1)) = some r := H
      have A9 := zad.mk A90
      clear A90
      have HC10 := zad.mk H
      clear H
      have p143 : 0 ≤ (x13_1 : Int) := of_decide_eq_true (by first | (with_reducible assumption) | assumption)
      have q143 : x13_1 < (x5_1.length : Int) := of_decide_eq_true (by first | (with_reducible assumption) | assumption)
      obtain ⟨ad143, e143, hx143_0, hx143_1, hx143_2, hx143_3, hx143_4⟩ := at_T43 (Kd.zbg HO_5.out).2.2 x13_1 p143 q143
      cases e143
      replace p143 := eq_true p143
      replace q143 := eq_true q143
      go_upto_if 26 with (first | ((with_reducible refine zan (f := 36) rfl ?_); refine zbd (some 22) rfl rfl Tryz.func36 (by kernel_rfl) rfl #[.int .u8 ((zbf x5_1 x13_1).f0)] rfl (by (try simp only [List.map_toArray, List.map_cons, List.map_nil]); first | done | rfl | (simp only [List.length_drop, List.length_take]; rfl)) ?_; (with_reducible refine (zb5.calls ((zbf x5_1 x13_1).f0) t144 t145 _ A9.out).mono ?_); rintro e w11 ⟨rfl, hb⟩; refine ⟨_, rfl, ?_⟩; have n0_ := zad.mk (Kd.zbv (by (with_reducible repeat (first | apply Kd.zav | apply Kd.za1 | apply Kd.za9)); exact HO_5.out) hb); have n1_ := zad.mk (zaf (by repeat (first | (with_reducible first | exact HB.out | apply zab | apply zaa | apply zac) | exact HB.out)) hb); clear HO_5; clear HB; have HO_5 := n0_; have HB := n1_; clear n0_ n1_; (try clear hb); (try clear hb2); (try clear hk); (try clear hi)))
      (try simp only [Act.put, List.setIfInBounds_toArray, List.set_cons_zero, List.set_cons_succ])
      go_cut [] (fun wc => ∃ (kq : Nat) (x5_9 : List (S43)), zad (za7.j1 kq a1 x5_9 x13_1 t144 (t140.length : Int) x13_1 = some r) ∧ zad (kq ≤ k1) ∧ zad (Kd.R k43 43 wc w.heap.size (fun _ => True) (.slice (some ad143) x5_1.length co5) x5_9) ∧ zad (Below w.heap.size w wc))
      case first =>
       have H := HC10.out
       clear HC10
       by_cases c12 : t144 > 0
       ·rw [if_pos c12] at H
        have c12b0 : decide (0 < t144) = true := decide_eq_true c12
        clear c12
        (first | rw [c12b0] | (simp only [i64_w, i32_w]; rw [c12b0]) | skip)
        obtain ⟨y147, hy147⟩ : ∃ y_ : List (S43), y_ = (x5_1.set (x13_1 : Int).toNat (⟨(zbf x5_1 x13_1).f0, (zbf x5_1 x13_1).f1, wrap64 (((zbf x5_1 x13_1).f2) + a1), (zbf x5_1 x13_1).f3, (zbf x5_1 x13_1).f4⟩ : S43)) := ⟨_, rfl⟩
        replace H : (za7.j1 k1 a1 y147 x13_1 t144 (t140.length : Int) x13_1) = some r := by first | (rw [hy147]; with_reducible exact H) | (have H2_ := (Option.bind_some _ _).symm.trans H; rw [hy147]; with_reducible exact H2_) | (have H2_ := (Option.bind_some _ _).symm.trans H; with_reducible exact H2_) | with_reducible exact H | (rw [hy147]; exact H) | exact H
        have Ny147 := zad.mk hy147
        clear hy147
        have H' := zad.mk H
        clear H
        have p146 : 0 ≤ (x13_1 : Int) := of_decide_eq_true (by first | (with_reducible assumption) | assumption)
        have q146 : x13_1 < (x5_1.length : Int) := of_decide_eq_true (by first | (with_reducible assumption) | assumption)
        obtain ⟨ad146, e146, hx146_0, hx146_1, hx146_2, hx146_3, hx146_4⟩ := at_T43 (Kd.zbg HO_5.out).2.2 x13_1 p146 q146
        obtain rfl : ad143 = ad146 := (by injection e146)
        replace p146 := eq_true p146
        replace q146 := eq_true q146
        have p13 : 0 ≤ (x13_1 : Int) := of_decide_eq_true (by first | (with_reducible assumption) | assumption)
        have q13 : (x13_1 : Int) < ((x5_1.length : Int) : Int) := of_decide_eq_true (by first | (with_reducible assumption) | assumption)
        obtain ⟨go13, co13, eo13, gb13, gl13, cl13, HG13⟩ := Kd.R_form HO_5.out (by omega)
        (first | cases eo13 | (injection eo13 with ea_ en_ ec_; (first | subst ea_ | (injection ea_ with ea_; subst ea_)); subst ec_; clear en_))
        have GB13 := zad.mk gb13
        have GG13 := zad.mk HG13
        clear gb13 gl13 HG13
        (first | simp only [add_plain] at hx143_0 | skip)
        (first | simp only [add_plain] at hx143_1 | skip)
        (first | simp only [add_plain] at hx143_2 | skip)
        (first | simp only [add_plain] at hx143_3 | skip)
        (first | simp only [add_plain] at hx143_4 | skip)
        (first | simp only [add_plain] at hx146_0 | skip)
        (first | simp only [add_plain] at hx146_1 | skip)
        (first | simp only [add_plain] at hx146_2 | skip)
        (first | simp only [add_plain] at hx146_3 | skip)
        (first | simp only [add_plain] at hx146_4 | skip)
        obtain ⟨ce13, hcl13, hM13, hcc13, hfr13⟩ := Kd.R_elem HO_5.out z43 (x13_1 : Int) p13 q13
        obtain rfl := k43_openM hM13
        have hx13_0 : w11.cell? ⟨go13, (x13_1 : Int).toNat * 5, none⟩ = some (.int .u8 ((zbf x5_1 x13_1).f0)) := hcc13 0 _ rfl
        have hx13_1 : w11.cell? ⟨go13, (x13_1 : Int).toNat * 5 + 1, none⟩ = some (.int .i64 ((zbf x5_1 x13_1).f1)) := hcc13 1 _ rfl
        have hx13_2 : w11.cell? ⟨go13, (x13_1 : Int).toNat * 5 + 2, none⟩ = some (.int .i64 ((zbf x5_1 x13_1).f2)) := hcc13 2 _ rfl
        have hx13_3 : w11.cell? ⟨go13, (x13_1 : Int).toNat * 5 + 3, none⟩ = some (.int .i64 ((zbf x5_1 x13_1).f3)) := hcc13 3 _ rfl
        have hx13_4 : w11.cell? ⟨go13, (x13_1 : Int).toNat * 5 + 4, none⟩ = some (.int .i64 ((zbf x5_1 x13_1).f4)) := hcc13 4 _ rfl
        have hf13_0 : w11.frozen? ⟨go13, (x13_1 : Int).toNat * 5, none⟩ = false := hfr13 0
        have hf13_1 : w11.frozen? ⟨go13, (x13_1 : Int).toNat * 5 + 1, none⟩ = false := hfr13 1
        have hf13_2 : w11.frozen? ⟨go13, (x13_1 : Int).toNat * 5 + 2, none⟩ = false := hfr13 2
        have hf13_3 : w11.frozen? ⟨go13, (x13_1 : Int).toNat * 5 + 3, none⟩ = false := hfr13 3
        have hf13_4 : w11.frozen? ⟨go13, (x13_1 : Int).toNat * 5 + 4, none⟩ = false := hfr13 4
        clear hcl13 hcc13 hfr13 hM13
        replace p13 := eq_true p13
        replace q13 := eq_true q13
        have HX14 := zad.mk (show Kd.R k43 43 w11 w.heap.size (fun _ => True) (.slice (some ⟨go13, 0, none⟩) x5_1.length co5) x5_1 from (by (with_reducible repeat (first | apply Kd.zav | apply Kd.za1 | apply Kd.za9)); exact HO_5.out))
        obtain ⟨ce14, hcl14, hM14, hcc14, hfr14⟩ := Kd.R_elem HX14.out z43 (x13_1 : Int) (of_decide_eq_true (by first | (with_reducible assumption) | assumption)) (by have h_ : (x13_1 : Int) < ((x5_1.length : Int) : Int) := of_decide_eq_true (by first | (with_reducible assumption) | assumption); first | exact h_ | (have e_ := (Kd.zbg HO_5.out).1; omega) | simpa using h_)
        obtain rfl := k43_openM hM14
        have HP14 := Kd.R_seg HX14.out (x13_1 : Int) (of_decide_eq_true (by first | (with_reducible assumption) | assumption)) (by have h_ : (x13_1 : Int) < ((x5_1.length : Int) : Int) := of_decide_eq_true (by first | (with_reducible assumption) | assumption); first | exact h_ | (have e_ := (Kd.zbg HO_5.out).1; omega) | simpa using h_) (seg := [.int .i64 (wrap64 (((zbf x5_1 x13_1).f2) + a1))]) (j := 2) hcl14 hcc14 (show 3 ≤ 5 from by decide) (x' := (⟨(zbf x5_1 x13_1).f0, (zbf x5_1 x13_1).f1, wrap64 (((zbf x5_1 x13_1).f2) + a1), (zbf x5_1 x13_1).f3, (zbf x5_1 x13_1).f4⟩ : S43)) (k43_mkM _ _ _ (⟨(zbf x5_1 x13_1).f0, (zbf x5_1 x13_1).f1, wrap64 (((zbf x5_1 x13_1).f2) + a1), (zbf x5_1 x13_1).f3, (zbf x5_1 x13_1).f4⟩ : S43) ) (fun _ hk => hk)
        have hx14_2 := hcc14 2 _ rfl
        (try simp only [show (k43).sz = 5 from rfl, Nat.mul_one, Nat.add_zero] at hx14_2)
        have hf14_2 := hfr14 2
        (try simp only [show (k43).sz = 5 from rfl, Nat.mul_one, Nat.add_zero] at hf14_2)
        clear hcl14 hcc14 hfr14 hM14
        go_wp2_with (first | ((with_reducible refine gate_store (t := 3) (p := 35) rfl ?_); refine store_event (t := 3) (p := 35) (v := ?vo_w15) (w1 := (w11.setCell ⟨go13, (x13_1 : Int).toNat * 5 + 2, none⟩ (.int .i64 (wrap64 (((zbf x5_1 x13_1).f2) + a1))))) ?hg ?ho ?hn ?hr ?_; (case ho => rfl); (case hg => rfl); (case hn => rfl); (case hr => first | (go_simp; done) | (go_simp; rfl)); intro w15 hw; have hg : w11.grownBy w15 (some go13) := (by rw [hw]; exact HP14.2); have hp_ : Kd.R k43 43 w15 w.heap.size (fun _ => True) (.slice (some ⟨go13, 0, none⟩) x5_1.length co5) y147 := (by rw [hw, Ny147.out]; exact HP14.1); clear HP14; have n0_ := zad.mk (hp_); have n1_ := zad.mk ((by rw [hw]; exact zaq (HB.out) GB13.out : Below w.heap.size w w15)); clear HO_5; clear HB; have HO_5 := n0_; have HB := n1_; clear n0_ n1_; clear hg hw hp_))
        go_meet
        case rel => exact ⟨_, (y147), H', ⟨by have := HK1.out; first | omega | exact Nat.le_refl _⟩, ⟨by (try simp only [hl5_1]); (with_reducible repeat (first | apply Kd.zav | apply Kd.za1 | apply Kd.za9)); exact HO_5.out⟩, ⟨by repeat (first | (with_reducible first | exact HB.out | apply zab | apply zaa | apply zac) | exact HB.out)⟩⟩
       ·rw [if_neg c12] at H
        have c12b0 : decide (0 < t144) = false := decide_eq_false c12
        clear c12
        (first | rw [c12b0] | (simp only [i64_w, i32_w]; rw [c12b0]) | skip)
        have H' := zad.mk H
        clear H
        go_wp2
        go_meet
        case rel => exact ⟨_, (x5_1), H', ⟨by have := HK1.out; first | omega | exact Nat.le_refl _⟩, ⟨by (try simp only [hl5_1]); (with_reducible repeat (first | apply Kd.zav | apply Kd.za1 | apply Kd.za9)); exact HO_5.out⟩, ⟨by repeat (first | (with_reducible first | exact HB.out | apply zab | apply zaa | apply zac) | exact HB.out)⟩⟩
      case rest =>
       clear HC10
       try clear c1
       try clear p1
       try clear q1
       try clear hx1
       try clear p2
       try clear c3
       try clear c5
       try clear c6
       try clear c6b0
       try clear p6
       try clear c7
       try clear c7b0
       try clear c8
       try clear c8b0
       try clear c12
       try clear c12b0
       try clear c13
       try clear p13
       try clear q13
       try clear hx13
       try clear hf13
       try clear c14
       try clear p14
       try clear q14
       try clear hx14
       try clear hf14
       try clear hx13_0
       try clear hx13_1
       try clear hx13_2
       try clear hx13_3
       try clear hx13_4
       try clear hx143_0
       try clear hx143_1
       try clear hx143_2
       try clear hx143_3
       try clear hx143_4
       try clear hx146_0
       try clear hx146_1
       try clear hx146_2
       try clear hx146_3
       try clear hx146_4
       try clear hx14_2
       try clear p13
       try clear p143
       try clear p146
       try clear p2
       try clear q13
       try clear q143
       try clear q146
       obtain ⟨kq, x5_9, HA, HJ9, HO_5, HB⟩ := hcut
       have hl5_9 := (Kd.zbg HO_5.out).1
       rw [hl5_9] at HO_5
       (try simp only [hl5_9])
       cases kq with
       | zero => exact absurd HA.out (by simp [za7.j1])
       | succ kj9 =>
        have H := HA.out
        clear HA
        simp only [za7.j1] at H
        by_cases c16 : t144 > 1
        ·rw [if_pos c16] at H
         have c16b0 : decide (1 < t144) = true := decide_eq_true c16
         clear c16
         by_cases c17 : 0 ≤ x13_1
         ·rw [if_pos c17] at H
          have c17b0 : decide (0 ≤ x13_1) = true := decide_eq_true c17
          clear c17
          by_cases c18 : x13_1 < (x5_9.length : Int)
          ·rw [if_pos c18] at H
           have c18b0 : decide (x13_1 < (x5_9.length : Int)) = true := decide_eq_true c18
           clear c18
           obtain ⟨y149, hy149⟩ : ∃ y_ : List (S43), y_ = (x5_9.set (x13_1 : Int).toNat (⟨(zbf x5_9 x13_1).f0, (zbf x5_9 x13_1).f1, (zbf x5_9 x13_1).f2, wrap64 (((zbf x5_9 x13_1).f3) + a1), (zbf x5_9 x13_1).f4⟩ : S43)) := ⟨_, rfl⟩
           replace H : (za7.l0 kj9 a1 y149 (t140.length : Int) (wrap64 (x13_1 + 1))) = some r := by first | (rw [hy149]; with_reducible exact H) | (have H2_ := (Option.bind_some _ _).symm.trans H; rw [hy149]; with_reducible exact H2_) | (have H2_ := (Option.bind_some _ _).symm.trans H; with_reducible exact H2_) | with_reducible exact H | (rw [hy149]; exact H) | exact H
           have Ny149 := zad.mk hy149
           clear hy149
           have H' := zad.mk H
           clear H
           have p148 : 0 ≤ (x13_1 : Int) := of_decide_eq_true (by first | (with_reducible assumption) | assumption)
           have q148 : x13_1 < (x5_9.length : Int) := of_decide_eq_true (by first | (with_reducible assumption) | assumption)
           obtain ⟨ad148, e148, hx148_0, hx148_1, hx148_2, hx148_3, hx148_4⟩ := at_T43 (Kd.zbg HO_5.out).2.2 x13_1 p148 q148
           obtain rfl : ad143 = ad148 := (by injection e148)
           replace p148 := eq_true p148
           replace q148 := eq_true q148
           have p19 : 0 ≤ (x13_1 : Int) := of_decide_eq_true (by first | (with_reducible assumption) | assumption)
           have q19 : (x13_1 : Int) < ((x5_9.length : Int) : Int) := of_decide_eq_true (by first | (with_reducible assumption) | assumption)
           obtain ⟨go19, co19, eo19, gb19, gl19, cl19, HG19⟩ := Kd.R_form HO_5.out (by omega)
           (first | cases eo19 | (injection eo19 with ea_ en_ ec_; (first | subst ea_ | (injection ea_ with ea_; subst ea_)); subst ec_; clear en_))
           have GB19 := zad.mk gb19
           have GG19 := zad.mk HG19
           clear gb19 gl19 HG19
           (first | simp only [add_plain] at hx148_0 | skip)
           (first | simp only [add_plain] at hx148_1 | skip)
           (first | simp only [add_plain] at hx148_2 | skip)
           (first | simp only [add_plain] at hx148_3 | skip)
           (first | simp only [add_plain] at hx148_4 | skip)
           obtain ⟨ce19, hcl19, hM19, hcc19, hfr19⟩ := Kd.R_elem HO_5.out z43 (x13_1 : Int) p19 q19
           obtain rfl := k43_openM hM19
           have hx19_0 : wc.cell? ⟨go19, (x13_1 : Int).toNat * 5, none⟩ = some (.int .u8 ((zbf x5_9 x13_1).f0)) := hcc19 0 _ rfl
           have hx19_1 : wc.cell? ⟨go19, (x13_1 : Int).toNat * 5 + 1, none⟩ = some (.int .i64 ((zbf x5_9 x13_1).f1)) := hcc19 1 _ rfl
           have hx19_2 : wc.cell? ⟨go19, (x13_1 : Int).toNat * 5 + 2, none⟩ = some (.int .i64 ((zbf x5_9 x13_1).f2)) := hcc19 2 _ rfl
           have hx19_3 : wc.cell? ⟨go19, (x13_1 : Int).toNat * 5 + 3, none⟩ = some (.int .i64 ((zbf x5_9 x13_1).f3)) := hcc19 3 _ rfl
           have hx19_4 : wc.cell? ⟨go19, (x13_1 : Int).toNat * 5 + 4, none⟩ = some (.int .i64 ((zbf x5_9 x13_1).f4)) := hcc19 4 _ rfl
           have hf19_0 : wc.frozen? ⟨go19, (x13_1 : Int).toNat * 5, none⟩ = false := hfr19 0
           have hf19_1 : wc.frozen? ⟨go19, (x13_1 : Int).toNat * 5 + 1, none⟩ = false := hfr19 1
           have hf19_2 : wc.frozen? ⟨go19, (x13_1 : Int).toNat * 5 + 2, none⟩ = false := hfr19 2
           have hf19_3 : wc.frozen? ⟨go19, (x13_1 : Int).toNat * 5 + 3, none⟩ = false := hfr19 3
           have hf19_4 : wc.frozen? ⟨go19, (x13_1 : Int).toNat * 5 + 4, none⟩ = false := hfr19 4
           clear hcl19 hcc19 hfr19 hM19
           replace p19 := eq_true p19
           replace q19 := eq_true q19
           have HX20 := zad.mk (show Kd.R k43 43 wc w.heap.size (fun _ => True) (.slice (some ⟨go19, 0, none⟩) x5_9.length co5) x5_9 from (by (with_reducible repeat (first | apply Kd.zav | apply Kd.za1 | apply Kd.za9)); exact HO_5.out))
           obtain ⟨ce20, hcl20, hM20, hcc20, hfr20⟩ := Kd.R_elem HX20.out z43 (x13_1 : Int) (of_decide_eq_true (by first | (with_reducible assumption) | assumption)) (by have h_ : (x13_1 : Int) < ((x5_9.length : Int) : Int) := of_decide_eq_true (by first | (with_reducible assumption) | assumption); first | exact h_ | (have e_ := (Kd.zbg HO_5.out).1; omega) | simpa using h_)
           obtain rfl := k43_openM hM20
           have HP20 := Kd.R_seg HX20.out (x13_1 : Int) (of_decide_eq_true (by first | (with_reducible assumption) | assumption)) (by have h_ : (x13_1 : Int) < ((x5_9.length : Int) : Int) := of_decide_eq_true (by first | (with_reducible assumption) | assumption); first | exact h_ | (have e_ := (Kd.zbg HO_5.out).1; omega) | simpa using h_) (seg := [.int .i64 (wrap64 (((zbf x5_9 x13_1).f3) + a1))]) (j := 3) hcl20 hcc20 (show 4 ≤ 5 from by decide) (x' := (⟨(zbf x5_9 x13_1).f0, (zbf x5_9 x13_1).f1, (zbf x5_9 x13_1).f2, wrap64 (((zbf x5_9 x13_1).f3) + a1), (zbf x5_9 x13_1).f4⟩ : S43)) (k43_mkM _ _ _ (⟨(zbf x5_9 x13_1).f0, (zbf x5_9 x13_1).f1, (zbf x5_9 x13_1).f2, wrap64 (((zbf x5_9 x13_1).f3) + a1), (zbf x5_9 x13_1).f4⟩ : S43) ) (fun _ hk => hk)
           have hx20_3 := hcc20 3 _ rfl
           (try simp only [show (k43).sz = 5 from rfl, Nat.mul_one, Nat.add_zero] at hx20_3)
           have hf20_3 := hfr20 3
           (try simp only [show (k43).sz = 5 from rfl, Nat.mul_one, Nat.add_zero] at hf20_3)
           clear hcl20 hcc20 hfr20 hM20
           go_wp2_with (first | ((with_reducible refine gate_store (t := 3) (p := 46) rfl ?_); refine store_event (t := 3) (p := 46) (v := ?vo_w21) (w1 := (wc.setCell ⟨go19, (x13_1 : Int).toNat * 5 + 3, none⟩ (.int .i64 (wrap64 (((zbf x5_9 x13_1).f3) + a1))))) ?hg ?ho ?hn ?hr ?_; (case ho => rfl); (case hg => rfl); (case hn => rfl); (case hr => first | (go_simp; done) | (go_simp; rfl)); intro w21 hw; have hg : wc.grownBy w21 (some go19) := (by rw [hw]; exact HP20.2); have hp_ : Kd.R k43 43 w21 w.heap.size (fun _ => True) (.slice (some ⟨go19, 0, none⟩) x5_9.length co5) y149 := (by rw [hw, Ny149.out]; exact HP20.1); clear HP20; have n0_ := zad.mk (hp_); have n1_ := zad.mk ((by rw [hw]; exact zaq (HB.out) GB19.out : Below w.heap.size w w21)); clear HO_5; clear HB; have HO_5 := n0_; have HB := n1_; clear n0_ n1_; clear hg hw hp_))
           (try simp only [← hl5_1, ← hl5_9])
           go_roundg kj9
           case measure => have := HK1.out; have := HJ9.out; omega
           case rel => exact ⟨(y149), (wrap64 (x13_1 + 1)), (by first | rfl | (simp; done) | (simp [*]; done)), H', ⟨by have := HK1.out; have := HJ9.out; omega⟩, ⟨by (try simp only [hl5_1]); (try simp only [hl5_9]); (with_reducible repeat (first | apply Kd.zav | apply Kd.za1 | apply Kd.za9)); exact HO_5.out⟩, ⟨by repeat (first | (with_reducible first | exact HB.out | apply zab | apply zaa | apply zac) | exact HB.out)⟩⟩
          ·rw [if_neg c18] at H
           exact absurd H (by simp)
         ·rw [if_neg c17] at H
          exact absurd H (by simp)
        ·rw [if_neg c16] at H
         have c16b0 : decide (1 < t144) = false := decide_eq_false c16
         clear c16
         have H' := zad.mk H
         clear H
         go_wp2
         (try simp only [← hl5_1, ← hl5_9])
         go_roundg kj9
         case measure => have := HK1.out; have := HJ9.out; omega
         case rel => exact ⟨(x5_9), (wrap64 (x13_1 + 1)), (by first | rfl | (simp; done) | (simp [*]; done)), H', ⟨by have := HK1.out; have := HJ9.out; omega⟩, ⟨by (try simp only [hl5_1]); (try simp only [hl5_9]); (with_reducible repeat (first | apply Kd.zav | apply Kd.za1 | apply Kd.za9)); exact HO_5.out⟩, ⟨by repeat (first | (with_reducible first | exact HB.out | apply zab | apply zaa | apply zac) | exact HB.out)⟩⟩
     ·rw [if_neg c8] at H
      exact absurd H (by simp)
    ·rw [if_neg c7] at H
     exact absurd H (by simp)
   ·rw [if_neg c6] at H
    have c6b0 : decide (x13_1 < (t140.length : Int)) = false := decide_eq_false c6
    try rw [hl5_1] at c6b0
    clear c6
    obtain rfl := Option.some.inj H
    go_wp2
    go_ret
    exact ⟨_, by first | rfl | (simp [zah, zai] <;> rfl) | (simp [*, zah, zai] <;> rfl), by (with_reducible repeat (first | apply Kd.zav | apply Kd.za1 | apply Kd.za9)); exact HO_5.out, by repeat (first | (with_reducible first | exact HB.out | apply zab | apply zaa | apply zac) | exact HB.out)⟩
mutual
def zat.j0 : Nat → Int → Int → Int → List (List (S43)) → Bool → Option ((List (S43)) × Int)
  | 0, _, _, _, _, _ => none
  | k + 1, x0, x1, x2, x3, x50 => if x50 = true then (some (([] : List (S43)), 2)) else (zat.l0 k ([] : List (S43)) x3 (x3.length : Int) 0 x0 x1 0 0 x2)
def zat.l0 : Nat → List (S43) → List (List (S43)) → Int → Int → Int → Int → Int → Int → Int → Option ((List (S43)) × Int)
  | 0, _, _, _, _, _, _, _, _, _ => none
  | k + 1, x13, x55, x56, x57, x153000, x153001, x153002, x153003, x153004 => if x57 < x56 then (if 0 ≤ x57 then (if x57 < (x55.length : Int) then ((zbl.f (rd_L7 x55 x57)).bind fun t154 => (if t154 = 0 then ((za7.f k (rd_L7 x55 x57) (x13.length : Int)).bind fun t155 => (if x13.length + t155.length < 3518437208883 then ((some (x13 ++ t155 : List (S43))).bind fun y158 => (if x57 = 0 then (zat.l0 k y158 x55 x56 (wrap64 (x57 + 1)) x153000 x153001 (wrap64 ((y158.length : Int) - 1)) x153003 x153004) else (zat.l0 k y158 x55 x56 (wrap64 (x57 + 1)) x153000 x153001 x153002 (wrap64 ((y158.length : Int) - 1)) x153004))) else (none))) else (some (([] : List (S43)), t154)))) else (none)) else (none)) else (if x13.length < 3518437208883 then ((some (x13 ++ [(⟨x153000, x153001, x153002, x153003, x153004⟩ : S43)] : List (S43))).bind fun y161 => ((zbl.f y161).bind fun t164 => (if t164 = 0 then (some (y161, 0)) else (some (([] : List (S43)), t164))))) else (none))
end
def zat.f (k : Nat) (a0 : Int) (a1 : Int) (a2 : Int) (l3 : List (List (S43))) : Option ((List (S43)) × Int) := (zb5.f a0).bind fun bt150 => (if bt150.2 = 0 then (if bt150.1 = (l3.length : Int) then (if a1 < 0 then (zat.j0 k a0 a1 a2 l3 true) else (if a1 > 0 then (if a0 = 1 then (if a2 < 0 then (zat.j0 k a0 a1 a2 l3 true) else (zat.j0 k a0 a1 a2 l3 (decide (a2 > 400)))) else (zat.j0 k a0 a1 a2 l3 true)) else (if a2 < 0 then (zat.j0 k a0 a1 a2 l3 true) else (zat.j0 k a0 a1 a2 l3 (decide (a2 > 400)))))) else (zat.j0 k a0 a1 a2 l3 true)) else (zat.j0 k a0 a1 a2 l3 true))
set_option maxHeartbeats 8000000 in
set_option maxRecDepth 100000 in
theorem zat.calls (k : Nat) (a0 : Int) (a1 : Int) (a2 : Int) (A3 : Option Addr) (c3 : Nat) (l3 : List (List (S43))) (r1 : List (S43)) (r2 : Int) (w : World) (hr3 : Kd.C (Kd.slice 43 k43) w A3 l3.length l3) (hc3 : l3.length ≤ c3) (h : zat.f k a0 a1 a2 l3 = some (r1, r2)) :
 Calls Tryz.prog 23 #[.int .u8 a0, .int .i64 a1, .int .i64 a2, .slice A3 l3.length c3] w fun e w' => ∃ v0_ : Value, e = .returned (.tuple #[v0_, .int .i64 r2]) ∧ Kd.R k43 43 w' w.heap.size (fun _ => True) v0_ r1 ∧ Below w.heap.size w w' := by
 have hu43 := Tryz.underlying43
 have HR3 := zad.mk hr3
 have HC3 := zad.mk hc3
 clear hr3 hc3
 have HB := zad.mk (Below.refl w.heap.size w)
 have H : ((zb5.f a0).bind fun bt150 => (if bt150.2 = 0 then (if bt150.1 = (l3.length : Int) then (if a1 < 0 then (zat.j0 k a0 a1 a2 l3 true) else (if a1 > 0 then (if a0 = 1 then (if a2 < 0 then (zat.j0 k a0 a1 a2 l3 true) else (zat.j0 k a0 a1 a2 l3 (decide (a2 > 400)))) else (zat.j0 k a0 a1 a2 l3 true)) else (if a2 < 0 then (zat.j0 k a0 a1 a2 l3 true) else (zat.j0 k a0 a1 a2 l3 (decide (a2 > 400)))))) else (zat.j0 k a0 a1 a2 l3 true)) else (zat.j0 k a0 a1 a2 l3 true))) = some (r1, r2) := h
 clear h
 replace H := Option.bind_eq_some_iff.mp H
 obtain ⟨⟨t150, t151⟩, A50, H⟩ := H
 replace H : (if t151 = 0 then (if t150 = (l3.length : Int) then (if a1 < 0 then (zat.j0 k a0 a1 a2 l3 true) else (if a1 > 0 then (if a0 = 1 then (if a2 < 0 then (zat.j0 k a0 a1 a2 l3 true) else (zat.j0 k a0 a1 a2 l3 (decide (a2 > 400)))) else (zat.j0 k a0 a1 a2 l3 true)) else (if a2 < 0 then (zat.j0 k a0 a1 a2 l3 true) else (zat.j0 k a0 a1 a2 l3 (decide (a2 > 400)))))) else (zat.j0 k a0 a1 a2 l3 true)) else (zat.j0 k a0 a1 a2 l3 true)) = some (r1, r2) := H
 have A5 := zad.mk A50
 clear A50
 have HC6 := zad.mk H
 clear H
 go_enter Tryz.func23, Tryz.ntmps23
 go_upto_region 2 with (first | ((with_reducible refine zan (f := 36) rfl ?_); refine zbd (some 20) rfl rfl Tryz.func36 (by kernel_rfl) rfl #[.int .u8 a0] rfl (by (try simp only [List.map_toArray, List.map_cons, List.map_nil]); first | done | rfl | (simp only [List.length_drop, List.length_take]; rfl)) ?_; (with_reducible refine (zb5.calls a0 t150 t151 _ A5.out).mono ?_); rintro e w7 ⟨rfl, hb⟩; refine ⟨_, rfl, ?_⟩; have n0_ := zad.mk (zaf (by repeat (first | (with_reducible first | exact HB.out | apply zab | apply zaa | apply zac) | exact HB.out)) hb); clear HB; have HB := n0_; clear n0_; (try clear hb); (try clear hb2); (try clear hk); (try clear hi)))
 (try simp only [Act.put, List.setIfInBounds_toArray, List.set_cons_zero, List.set_cons_succ])
 go_cut [50] (fun v50 wc => ∃ (kq : Nat) (x50_5 : Bool), v50 = .bool x50_5 ∧ zad (zat.j0 kq a0 a1 a2 l3 x50_5 = some (r1, r2)) ∧ zad (kq ≤ k) ∧ zad (Below w.heap.size w wc))
 case first =>
  have H := HC6.out
  clear HC6
  by_cases c8 : t151 = 0
  ·rw [if_pos c8] at H
   have c8b0 : (t151 == 0) = true := beq_iff_eq.mpr c8
   have c8b1 : (t151 != 0) = false := bne_eq_false_iff_eq.mpr c8
   clear c8
   (first | rw [c8b0] | (simp only [i64_w, i32_w]; rw [c8b0]) | skip)
   by_cases c9 : t150 = (l3.length : Int)
   ·rw [if_pos c9] at H
    have c9b0 : (t150 == (l3.length : Int)) = true := beq_iff_eq.mpr c9
    have c9b1 : (t150 != (l3.length : Int)) = false := bne_eq_false_iff_eq.mpr c9
    clear c9
    by_cases c10 : a1 < 0
    ·rw [if_pos c10] at H
     have c10b0 : decide (a1 < 0) = true := decide_eq_true c10
     clear c10
     have H' := zad.mk H
     clear H
     go_wp2
     go_meet
     case rel => exact ⟨_, (true), (by first | rfl | (simp; done) | (simp [*]; done)), H', ⟨by first | omega | exact Nat.le_refl _⟩, ⟨by repeat (first | (with_reducible first | exact HB.out | apply zab | apply zaa | apply zac) | exact HB.out)⟩⟩
    ·rw [if_neg c10] at H
     have c10b0 : decide (a1 < 0) = false := decide_eq_false c10
     clear c10
     by_cases c11 : a1 > 0
     ·rw [if_pos c11] at H
      have c11b0 : decide (0 < a1) = true := decide_eq_true c11
      clear c11
      by_cases c12 : a0 = 1
      ·rw [if_pos c12] at H
       have c12b0 : (a0 == 1) = true := beq_iff_eq.mpr c12
       have c12b1 : (a0 != 1) = false := bne_eq_false_iff_eq.mpr c12
       clear c12
       by_cases c13 : a2 < 0
       ·rw [if_pos c13] at H
        have c13b0 : decide (a2 < 0) = true := decide_eq_true c13
        clear c13
        have H' := zad.mk H
        clear H
        go_wp2
        go_meet
        case rel => exact ⟨_, (true), (by first | rfl | (simp; done) | (simp [*]; done)), H', ⟨by first | omega | exact Nat.le_refl _⟩, ⟨by repeat (first | (with_reducible first | exact HB.out | apply zab | apply zaa | apply zac) | exact HB.out)⟩⟩
       ·rw [if_neg c13] at H
        have c13b0 : decide (a2 < 0) = false := decide_eq_false c13
        clear c13
        have H' := zad.mk H
        clear H
        go_wp2
        go_meet
        case rel => exact ⟨_, (decide (a2 > 400)), (by first | rfl | (simp; done) | (simp [*]; done)), H', ⟨by first | omega | exact Nat.le_refl _⟩, ⟨by repeat (first | (with_reducible first | exact HB.out | apply zab | apply zaa | apply zac) | exact HB.out)⟩⟩
      ·rw [if_neg c12] at H
       have c12b0 : (a0 == 1) = false := beq_eq_false_iff_ne.mpr c12
       have c12b1 : (a0 != 1) = true := bne_iff_ne.mpr c12
       have H' := zad.mk H
       clear H
       go_wp2
       go_meet
       case rel => exact ⟨_, (true), (by first | rfl | (simp; done) | (simp [*]; done)), H', ⟨by first | omega | exact Nat.le_refl _⟩, ⟨by repeat (first | (with_reducible first | exact HB.out | apply zab | apply zaa | apply zac) | exact HB.out)⟩⟩
     ·rw [if_neg c11] at H
      have c11b0 : decide (0 < a1) = false := decide_eq_false c11
      clear c11
      by_cases c14 : a2 < 0
      ·rw [if_pos c14] at H
       have c14b0 : decide (a2 < 0) = true := decide_eq_true c14
       clear c14
       have H' := zad.mk H
       clear H
       go_wp2
       go_meet
       case rel => exact ⟨_, (true), (by first | rfl | (simp; done) | (simp [*]; done)), H', ⟨by first | omega | exact Nat.le_refl _⟩, ⟨by repeat (first | (with_reducible first | exact HB.out | apply zab | apply zaa | apply zac) | exact HB.out)⟩⟩
      ·rw [if_neg c14] at H
       have c14b0 : decide (a2 < 0) = false := decide_eq_false c14
       clear c14
       have H' := zad.mk H
       clear H
       go_wp2
       go_meet
       case rel => exact ⟨_, (decide (a2 > 400)), (by first | rfl | (simp; done) | (simp [*]; done)), H', ⟨by first | omega | exact Nat.le_refl _⟩, ⟨by repeat (first | (with_reducible first | exact HB.out | apply zab | apply zaa | apply zac) | exact HB.out)⟩⟩
   ·rw [if_neg c9] at H
    have c9b0 : (t150 == (l3.length : Int)) = false := beq_eq_false_iff_ne.mpr c9
    have c9b1 : (t150 != (l3.length : Int)) = true := bne_iff_ne.mpr c9
    have H' := zad.mk H
    clear H
    go_wp2
    go_meet
    case rel => exact ⟨_, (true), (by first | rfl | (simp; done) | (simp [*]; done)), H', ⟨by first | omega | exact Nat.le_refl _⟩, ⟨by repeat (first | (with_reducible first | exact HB.out | apply zab | apply zaa | apply zac) | exact HB.out)⟩⟩
  ·rw [if_neg c8] at H
   have c8b0 : (t151 == 0) = false := beq_eq_false_iff_ne.mpr c8
   have c8b1 : (t151 != 0) = true := bne_iff_ne.mpr c8
   (first | rw [c8b0] | (simp only [i64_w, i32_w]; rw [c8b0]) | skip)
   have H' := zad.mk H
   clear H
   go_wp2
   go_meet
   case rel => exact ⟨_, (true), (by first | rfl | (simp; done) | (simp [*]; done)), H', ⟨by first | omega | exact Nat.le_refl _⟩, ⟨by repeat (first | (with_reducible first | exact HB.out | apply zab | apply zaa | apply zac) | exact HB.out)⟩⟩
 case rest =>
  clear HC6
  try clear c1
  try clear c2
  try clear p2
  try clear c3
  try clear c8
  try clear c8b0
  try clear c8b1
  try clear c9
  try clear c9b0
  try clear c9b1
  try clear c10
  try clear c10b0
  try clear c11
  try clear c11b0
  try clear c12
  try clear c12b0
  try clear c12b1
  try clear c13
  try clear c13b0
  try clear c14
  try clear c14b0
  obtain ⟨kq, x50_5, rfl, HA, HJ5, HB⟩ := hcut
  cases kq with
  | zero => exact absurd HA.out (by simp [zat.j0])
  | succ kj5 =>
   have H := HA.out
   clear HA
   simp only [zat.j0] at H
   by_cases c15 : x50_5 = true
   ·subst c15
    have H1 : (some (([] : List (S43)), 2)) = some (r1, r2) := by rw [if_pos rfl] at H; exact H
    clear H
    have H := H1
    clear H1
    simp only [Option.some.injEq, Prod.mk.injEq] at H
    obtain ⟨rfl, rfl⟩ := H
    go_wp2
    go_ret2
    exact ⟨_, by first | rfl | (simp [zah, zai] <;> rfl) | (simp [*, zah, zai] <;> rfl), by first | exact Kd.R_nil _ _ _ _ _ | exact Kd.N_nil _ _ _ _ _ | exact Kd.V_nil _ _ _ _ _ | exact Kd.Q_nil _ _ _ _ _ | exact Kd.S_nil _ _ _ _ _, by repeat (first | (with_reducible first | exact HB.out | apply zab | apply zaa | apply zac) | exact HB.out)⟩
   ·replace c15 := Bool.eq_false_iff.mpr c15
    subst c15
    have H1 : (zat.l0 kj5 ([] : List (S43)) l3 (l3.length : Int) 0 a0 a1 0 0 a2) = some (r1, r2) := by rw [if_neg (show ¬ (false = true) by decide)] at H; exact H
    clear H
    have H := H1
    clear H1
    have H' := zad.mk H
    clear H
    go_wp2_with (first | ((with_reducible refine zbt (N := 12) rfl ?_); (try (refine zb3 (by rfl) ?_; dsimp only)); refine zbs ?hg (N := 12) ?hd (cs := #[.int .u8 0, .int .i64 0, .int .i64 0, .int .i64 0, .int .i64 0]) (t := 43) ?hr ?_; (case hd => rfl); (case hg => rfl); (case hr => first | (go_simp; done) | (go_simp; rfl)); intro gb152 hg w16 hbox hb; have n0_ := zad.mk (zaf (by repeat (first | (with_reducible first | exact HB.out | apply zab | apply zaa | apply zac) | exact HB.out)) hb); have n1_ := zad.mk (hbox); have n2_ := zad.mk ((by rw [hg]; exact (zao (by repeat (first | (with_reducible first | exact HB.out | apply zab | apply zaa | apply zac) | exact HB.out))) : w.heap.size ≤ gb152)); have n3_ := zad.mk ((by rw [hg]; exact (zao (by repeat (first | (with_reducible first | exact HB.out | apply zab | apply zaa | apply zac) | exact HB.out))) : w.heap.size ≤ gb152)); clear HB; have HB := n0_; have BK152 := n1_; have GW152 := n2_; have GE152 := n3_; clear n0_ n1_ n2_ n3_; clear hb hbox hg; have hcz17_0 : w16.cell? ⟨gb152, 0, none⟩ = some (.int .u8 0) := (zal BK152.out 0).trans rfl; have hcz17_1 : w16.cell? ⟨gb152, 1, none⟩ = some (.int .i64 0) := (zal BK152.out 1).trans rfl; have hcz17_2 : w16.cell? ⟨gb152, 2, none⟩ = some (.int .i64 0) := (zal BK152.out 2).trans rfl; have hcz17_3 : w16.cell? ⟨gb152, 3, none⟩ = some (.int .i64 0) := (zal BK152.out 3).trans rfl; have hcz17_4 : w16.cell? ⟨gb152, 4, none⟩ = some (.int .i64 0) := (zal BK152.out 4).trans rfl; have hfz17_0 := zaj BK152.out 0; have hfz17_1 := zaj BK152.out 1; have hfz17_2 := zaj BK152.out 2; have hfz17_3 := zaj BK152.out 3; have hfz17_4 := zaj BK152.out 4))
    go_loopg [13, 57] kj5 (fun kq v13 v57 w' => ∃ (x13_2 : List (S43)) (x57_2 : Int) (x153002_2 : Int) (x153003_2 : Int), v57 = .int .i64 x57_2 ∧ zad (zat.l0 kq x13_2 l3 (l3.length : Int) x57_2 a0 a1 x153002_2 x153003_2 a2 = some (r1, r2)) ∧ zad (kq ≤ kj5) ∧ zad (Kd.R k43 43 w' w.heap.size (fun k_ => k_ ≠ gb152) v13 x13_2) ∧ zad (w'.heap[gb152]? = some (.cells #[.int .u8 a0, .int .i64 a1, .int .i64 x153002_2, .int .i64 x153003_2, .int .i64 a2] 43 (0, 0))) ∧ zad (Below w.heap.size w w'))
    case atStart => exact ⟨(([] : List (S43))), (0), (0), (0), (by first | rfl | (simp; done) | (simp [*]; done)), H', ⟨Nat.le_refl _⟩, ⟨by first | exact Kd.R_nil _ _ _ _ _ | exact Kd.N_nil _ _ _ _ _ | exact Kd.V_nil _ _ _ _ _ | exact Kd.Q_nil _ _ _ _ _ | exact Kd.S_nil _ _ _ _ _⟩, ⟨by (with_reducible repeat (first | refine zas ?_ _ | refine zaw ?_ | refine zar ?_ _)); refine zbw (cs := #[.int .u8 a0, .int .i64 a1, .int .i64 0, .int .i64 0, .int .i64 0]) ?_ 4 _ rfl; (with_reducible repeat (first | refine zas ?_ _ | refine zaw ?_ | refine zar ?_ _)); refine zbw (cs := #[.int .u8 a0, .int .i64 a1, .int .i64 0, .int .i64 0, .int .i64 0]) ?_ 3 _ rfl; (with_reducible repeat (first | refine zas ?_ _ | refine zaw ?_ | refine zar ?_ _)); refine zbw (cs := #[.int .u8 a0, .int .i64 a1, .int .i64 0, .int .i64 0, .int .i64 0]) ?_ 2 _ rfl; (with_reducible repeat (first | refine zas ?_ _ | refine zaw ?_ | refine zar ?_ _)); refine zbw (cs := #[.int .u8 a0, .int .i64 0, .int .i64 0, .int .i64 0, .int .i64 0]) ?_ 1 _ rfl; (with_reducible repeat (first | refine zas ?_ _ | refine zaw ?_ | refine zar ?_ _)); refine zbw (cs := #[.int .u8 0, .int .i64 0, .int .i64 0, .int .i64 0, .int .i64 0]) ?_ 0 _ rfl; (with_reducible repeat (first | refine zas ?_ _ | refine zaw ?_ | refine zar ?_ _)); exact BK152.out⟩, ⟨by repeat (first | (with_reducible first | exact HB.out | apply zab | apply zaa | apply zac | refine zaq ?_ GE152.out) | exact HB.out)⟩⟩
    case round =>
     clear H'
     try clear c1
     try clear c2
     try clear p2
     try clear c3
     try clear c8
     try clear c8b0
     try clear c8b1
     try clear c9
     try clear c9b0
     try clear c9b1
     try clear c10
     try clear c10b0
     try clear c11
     try clear c11b0
     try clear c12
     try clear c12b0
     try clear c12b1
     try clear c13
     try clear c13b0
     try clear c14
     try clear c14b0
     try clear c15
     try clear hcz17_0
     try clear hcz17_1
     try clear hcz17_2
     try clear hcz17_3
     try clear hcz17_4
     try clear hfz17_0
     try clear hfz17_1
     try clear hfz17_2
     try clear hfz17_3
     try clear hfz17_4
     try clear p2
     obtain ⟨x13_2, x57_2, x153002_2, x153003_2, rfl, HA, HK2, HO_13, BK152, HB⟩ := hrel
     cases gk with
     | zero => exact absurd HA.out (by simp [zat.l0])
     | succ k2 =>
      have H := HA.out
      clear HA
      simp only [zat.l0] at H
      by_cases c18 : x57_2 < (l3.length : Int)
      ·rw [if_pos c18] at H
       have c18b0 : decide (x57_2 < (l3.length : Int)) = true := decide_eq_true c18
       clear c18
       by_cases c19 : 0 ≤ x57_2
       ·rw [if_pos c19] at H
        have c19b0 : decide (0 ≤ x57_2) = true := decide_eq_true c19
        clear c19
        by_cases c20 : x57_2 < (l3.length : Int)
        ·rw [if_pos c20] at H
         have c20b0 : decide (x57_2 < (l3.length : Int)) = true := decide_eq_true c20
         clear c20
         replace H := Option.bind_eq_some_iff.mp H
         obtain ⟨t154, A210, H⟩ := H
         replace H : (if t154 = 0 then ((za7.f k2 (rd_L7 l3 x57_2) (x13_2.length : Int)).bind fun t155 => (if x13_2.length + t155.length < 3518437208883 then ((some (x13_2 ++ t155 : List (S43))).bind fun y158 => (if x57_2 = 0 then (zat.l0 k2 y158 l3 (l3.length : Int) (wrap64 (x57_2 + 1)) a0 a1 (wrap64 ((y158.length : Int) - 1)) x153003_2 a2) else (zat.l0 k2 y158 l3 (l3.length : Int) (wrap64 (x57_2 + 1)) a0 a1 x153002_2 (wrap64 ((y158.length : Int) - 1)) a2))) else (none))) else (some (([] : List (S43)), t154))) = some (r1, r2) := H
         have A21 := zad.mk A210
         clear A210
         by_cases c22 : t154 = 0
         ·rw [if_pos c22] at H
          have c22b0 : (t154 == 0) = true := beq_iff_eq.mpr c22
          have c22b1 : (t154 != 0) = false := bne_eq_false_iff_eq.mpr c22
          clear c22
          replace H := Option.bind_eq_some_iff.mp H
          obtain ⟨t155, A230, H⟩ := H
          replace H : (if x13_2.length + t155.length < 3518437208883 then ((some (x13_2 ++ t155 : List (S43))).bind fun y158 => (if x57_2 = 0 then (zat.l0 k2 y158 l3 (l3.length : Int) (wrap64 (x57_2 + 1)) a0 a1 (wrap64 ((y158.length : Int) - 1)) x153003_2 a2) else (zat.l0 k2 y158 l3 (l3.length : Int) (wrap64 (x57_2 + 1)) a0 a1 x153002_2 (wrap64 ((y158.length : Int) - 1)) a2))) else (none)) = some (r1, r2) := H
          have A23 := zad.mk A230
          clear A230
          by_cases c24 : x13_2.length + t155.length < 3518437208883
          ·rw [if_pos c24] at H
           have LMc24 := zad.mk c24
           clear c24
           obtain ⟨y158, hy158⟩ : ∃ y_ : List (S43), y_ = (x13_2 ++ t155) := ⟨_, rfl⟩
           replace H : (if x57_2 = 0 then (zat.l0 k2 y158 l3 (l3.length : Int) (wrap64 (x57_2 + 1)) a0 a1 (wrap64 ((y158.length : Int) - 1)) x153003_2 a2) else (zat.l0 k2 y158 l3 (l3.length : Int) (wrap64 (x57_2 + 1)) a0 a1 x153002_2 (wrap64 ((y158.length : Int) - 1)) a2)) = some (r1, r2) := by first | (rw [hy158]; with_reducible exact H) | (have H2_ := (Option.bind_some _ _).symm.trans H; rw [hy158]; with_reducible exact H2_) | (have H2_ := (Option.bind_some _ _).symm.trans H; with_reducible exact H2_) | with_reducible exact H | (rw [hy158]; exact H) | exact H
           have Ny158 := zad.mk hy158
           clear hy158
           by_cases c25 : x57_2 = 0
           ·rw [if_pos c25] at H
            have c25b0 : (x57_2 == 0) = true := beq_iff_eq.mpr c25
            have c25b1 : (x57_2 != 0) = false := bne_eq_false_iff_eq.mpr c25
            clear c25
            have H' := zad.mk H
            clear H
            have p153 : 0 ≤ (x57_2 : Int) := of_decide_eq_true (by first | (with_reducible assumption) | assumption)
            have q153 : x57_2 < (l3.length : Int) := of_decide_eq_true (by first | (with_reducible assumption) | assumption)
            obtain ⟨ad153, A153_0, c153_0, e153, hx153_0, hl153_0, hi153_0⟩ := at_L7 HR3.out x57_2 p153 q153
            cases e153
            replace hx153_0 := (HB.out.cell (World.block_lt_of_cell? w _ hx153_0)).trans hx153_0
            have HR153_0 := zad.mk hi153_0
            have HC153_0 := zad.mk hl153_0
            clear hi153_0 hl153_0
            replace p153 := eq_true p153
            replace q153 := eq_true q153
            go_wp2_with (first | ((with_reducible refine zan (f := 15) rfl ?_); refine zbd (some 63) rfl rfl Tryz.func15 (by kernel_rfl) rfl #[.slice A153_0 (rd_L7 l3 x57_2).length c153_0] rfl (by (try simp only [List.map_toArray, List.map_cons, List.map_nil]); first | done | rfl | (simp only [List.length_drop, List.length_take]; rfl)) ?_; (with_reducible refine (zbl.calls _ _ (rd_L7 l3 x57_2) t154 _ ?side1 ?side2 A21.out).mono ?_); (case side1 => repeat (first | exact (Kd.zca HR153_0.out HB.out) | (with_reducible refine Kd.zce ?_ _) | (with_reducible refine Kd.zb6 ?_ _) | (with_reducible refine Kd.zcp ?_))); (case side2 => exact HC153_0.out); rintro e w26 ⟨rfl, hb⟩; refine ⟨_, rfl, ?_⟩; have n0_ := zad.mk (Kd.zbv (by (with_reducible repeat (first | apply Kd.zav | apply Kd.za1 | apply Kd.za9)); exact HO_13.out) hb); have n1_ := zad.mk (zbn (g := gb152) (o := .cells #[.int .u8 a0, .int .i64 a1, .int .i64 x153002_2, .int .i64 x153003_2, .int .i64 a2] 43 (0, 0)) (by (with_reducible repeat (first | refine zas ?_ _ | refine zaw ?_ | refine zar ?_ _)); exact BK152.out) hb); have n2_ := zad.mk (zaf (by repeat (first | (with_reducible first | exact HB.out | apply zab | apply zaa | apply zac | refine zaq ?_ GE152.out) | exact HB.out)) hb); clear HO_13; clear BK152; clear HB; have HO_13 := n0_; have BK152 := n1_; have HB := n2_; clear n0_ n1_ n2_; (try clear hb); (try clear hb2); (try clear hk); (try clear hi); obtain ⟨Ao27, co27, eo27⟩ := Kd.zbk HO_13.out; subst eo27) | ((with_reducible refine zan (f := 37) rfl ?_); refine zbd (some 71) rfl rfl Tryz.func37 (by kernel_rfl) rfl #[.slice A153_0 (rd_L7 l3 x57_2).length c153_0, .int .i64 (x13_2.length : Int)] rfl (by (try simp only [List.map_toArray, List.map_cons, List.map_nil]); first | done | rfl | (simp only [List.length_drop, List.length_take]; rfl)) ?_; (with_reducible refine (za7.calls k2 _ _ (rd_L7 l3 x57_2) (x13_2.length : Int) t155 _ ?side1 ?side2 A23.out).mono ?_); (case side1 => repeat (first | exact (Kd.zca HR153_0.out HB.out) | (with_reducible refine Kd.zce ?_ _) | (with_reducible refine Kd.zb6 ?_ _) | (with_reducible refine Kd.zcp ?_))); (case side2 => exact HC153_0.out); rintro e w28 ⟨v156, rfl, ho0, hb⟩; refine ⟨_, rfl, ?_⟩; have n0_ := zad.mk (Kd.R_elder' (by (with_reducible repeat (first | apply Kd.zav | apply Kd.za1 | apply Kd.za9)); exact HO_13.out) (Kd.R_base ho0) hb); have n1_ := zad.mk (Kd.zbp (Kd.R_newB (Kd.R_new' ho0 (Kd.R_lt (by (with_reducible repeat (first | apply Kd.zav | apply Kd.za1 | apply Kd.za9)); exact HO_13.out))) (g := gb152) (o := .cells #[.int .u8 a0, .int .i64 a1, .int .i64 x153002_2, .int .i64 x153003_2, .int .i64 a2] 43 (0, 0)) (by (with_reducible repeat (first | refine zas ?_ _ | refine zaw ?_ | refine zar ?_ _)); exact BK152.out)) (zao (by repeat (first | (with_reducible first | exact HB.out | apply zab | apply zaa | apply zac | refine zaq ?_ GE152.out) | exact HB.out)))); have n2_ := zad.mk (zbn (g := gb152) (o := .cells #[.int .u8 a0, .int .i64 a1, .int .i64 x153002_2, .int .i64 x153003_2, .int .i64 a2] 43 (0, 0)) (by (with_reducible repeat (first | refine zas ?_ _ | refine zaw ?_ | refine zar ?_ _)); exact BK152.out) hb); have n3_ := zad.mk (zaf (by repeat (first | (with_reducible first | exact HB.out | apply zab | apply zaa | apply zac | refine zaq ?_ GE152.out) | exact HB.out)) hb); clear HO_13; clear BK152; clear HB; have HO_13 := n0_; have HO157 := n1_; have BK152 := n2_; have HB := n3_; clear n0_ n1_ n2_ n3_; (try clear hb); (try clear hb2); (try clear hk); (try clear hi); (try clear ho0); obtain ⟨Ao30, co30, eo30⟩ := Kd.zbk HO157.out; subst eo30) | ((with_reducible refine zbe (b := .append) (xs := #[.tmp 67, .tmp 71]) rfl ?_); (try (refine zb3 (by rfl) ?_; dsimp only)); at_builtin; refine Kd.R_append_rows k43 (w0 := w) w.heap.size rfl (.tmp 67) (.tmp 71) 29 43 (.agg #[(.int .u8 0), (.int .i64 0), (.int .i64 0), (.int .i64 0), (.int .i64 0)]) 40 rfl Tryz.underlying29 info43 rfl (by decide) (by omega) (.slice Ao27 x13_2.length co27) x13_2 t155 _ _ _ (fun k_ => some k_ ≠ (.slice Ao30 t155.length co30 : Value).ownBlock ∧ k_ ≠ gb152) (fun _ => False) rfl rfl ?aO ?aR (fun _ _ h => h) (fun _ h => h.elim) ?aF ?aB ?aS ?aL ?_; (case aR => repeat (first | exact (Kd.zbg HO157.out).2.2 | (with_reducible refine Kd.zce ?_ _) | (with_reducible refine Kd.zb6 ?_ _) | (with_reducible refine Kd.zcp ?_))); (case aB => exact (by repeat (first | (with_reducible first | exact HB.out | apply zab | apply zaa | apply zac | refine zaq ?_ GE152.out) | exact HB.out))); (case aF => exact (fun k_ hk => ⟨Kd.fresh' (Kd.R_lt (by (with_reducible repeat (first | apply Kd.zav | apply Kd.za1 | apply Kd.za9)); exact HO157.out)) k_ hk, Kd.freshB (g := gb152) (o := .cells #[.int .u8 a0, .int .i64 a1, .int .i64 x153002_2, .int .i64 x153003_2, .int .i64 a2] 43 (0, 0)) (by (with_reducible repeat (first | refine zas ?_ _ | refine zaw ?_ | refine zar ?_ _)); exact BK152.out) k_ hk⟩)); (case aO => exact (by (with_reducible repeat (first | apply Kd.zav | apply Kd.za1 | apply Kd.za9)); exact Kd.zb0 HO_13.out (fun _ hk => ⟨hk.2, hk.1⟩))); (case aS => exact (zao (by repeat (first | (with_reducible first | exact HB.out | apply zab | apply zaa | apply zac | refine zaq ?_ GE152.out) | exact HB.out)))); (case aL => have := LMc24.out; omega); intro v159 w29 ho hb hg hat; rw [← Ny158.out] at ho; have n0_ := zad.mk (zb9 (g := gb152) (o := .cells #[.int .u8 a0, .int .i64 a1, .int .i64 x153002_2, .int .i64 x153003_2, .int .i64 a2] 43 (0, 0)) (by (with_reducible repeat (first | refine zas ?_ _ | refine zaw ?_ | refine zar ?_ _)); exact BK152.out) hg (Kd.R_away HO_13.out (fun _ hk => hk.1))); have n1_ := zad.mk (Kd.zch (ok := (fun k_ => k_ ≠ gb152)) (by (with_reducible repeat (first | apply Kd.zav | apply Kd.za1 | apply Kd.za9)); exact Kd.zb0 HO157.out (fun _ hk => ⟨hk.2, hk.1.2⟩)) hg hat); have n2_ := zad.mk (hb); have n3_ := zad.mk (ho); clear BK152; clear HO157; clear HB; clear HO_13; have BK152 := n0_; have HO157 := n1_; have HB := n2_; have HO160 := n3_; clear n0_ n1_ n2_ n3_; clear ho hb hg hat; obtain ⟨Ao31, co31, eo31⟩ := Kd.zbk HO160.out; subst eo31; have hcz32_0 : w29.cell? ⟨gb152, 0, none⟩ = some (.int .u8 a0) := (zal BK152.out 0).trans rfl; have hcz32_1 : w29.cell? ⟨gb152, 1, none⟩ = some (.int .i64 a1) := (zal BK152.out 1).trans rfl; have hcz32_2 : w29.cell? ⟨gb152, 2, none⟩ = some (.int .i64 x153002_2) := (zal BK152.out 2).trans rfl; have hcz32_3 : w29.cell? ⟨gb152, 3, none⟩ = some (.int .i64 x153003_2) := (zal BK152.out 3).trans rfl; have hcz32_4 : w29.cell? ⟨gb152, 4, none⟩ = some (.int .i64 a2) := (zal BK152.out 4).trans rfl; have hfz32_0 := zaj BK152.out 0; have hfz32_1 := zaj BK152.out 1; have hfz32_2 := zaj BK152.out 2; have hfz32_3 := zaj BK152.out 3; have hfz32_4 := zaj BK152.out 4))
            go_roundg k2
            case measure => have := HJ5.out; have := HK2.out; omega
            case rel => exact ⟨(y158), (wrap64 (x57_2 + 1)), (wrap64 ((y158.length : Int) - 1)), (x153003_2), (by first | rfl | (simp; done) | (simp [*]; done)), H', ⟨by have := HJ5.out; have := HK2.out; omega⟩, ⟨by (with_reducible repeat (first | apply Kd.zav | apply Kd.za1 | apply Kd.za9)); exact Kd.zb0 (Kd.R_far (p := ⟨gb152, 2, none⟩) (Kd.zb0 HO160.out (fun k_ hk => (⟨hk, hk.2⟩ : _ ∧ k_ ≠ gb152))) (fun _ hk => hk.2) (.int .i64 (wrap64 ((y158.length : Int) - 1)))) (fun _ hk => hk.1.2)⟩, ⟨by (with_reducible repeat (first | refine zas ?_ _ | refine zaw ?_ | refine zar ?_ _)); refine zbw (cs := #[.int .u8 a0, .int .i64 a1, .int .i64 x153002_2, .int .i64 x153003_2, .int .i64 a2]) ?_ 2 _ rfl; (with_reducible repeat (first | refine zas ?_ _ | refine zaw ?_ | refine zar ?_ _)); exact BK152.out⟩, ⟨by repeat (first | (with_reducible first | exact HB.out | apply zab | apply zaa | apply zac | refine zaq ?_ GE152.out) | exact HB.out)⟩⟩
           ·rw [if_neg c25] at H
            have c25b0 : (x57_2 == 0) = false := beq_eq_false_iff_ne.mpr c25
            have c25b1 : (x57_2 != 0) = true := bne_iff_ne.mpr c25
            have H' := zad.mk H
            clear H
            have p153 : 0 ≤ (x57_2 : Int) := of_decide_eq_true (by first | (with_reducible assumption) | assumption)
            have q153 : x57_2 < (l3.length : Int) := of_decide_eq_true (by first | (with_reducible assumption) | assumption)
            obtain ⟨ad153, A153_0, c153_0, e153, hx153_0, hl153_0, hi153_0⟩ := at_L7 HR3.out x57_2 p153 q153
            cases e153
            replace hx153_0 := (HB.out.cell (World.block_lt_of_cell? w _ hx153_0)).trans hx153_0
            have HR153_0 := zad.mk hi153_0
            have HC153_0 := zad.mk hl153_0
            clear hi153_0 hl153_0
            replace p153 := eq_true p153
            replace q153 := eq_true q153
            go_wp2_with (first | ((with_reducible refine zan (f := 15) rfl ?_); refine zbd (some 63) rfl rfl Tryz.func15 (by kernel_rfl) rfl #[.slice A153_0 (rd_L7 l3 x57_2).length c153_0] rfl (by (try simp only [List.map_toArray, List.map_cons, List.map_nil]); first | done | rfl | (simp only [List.length_drop, List.length_take]; rfl)) ?_; (with_reducible refine (zbl.calls _ _ (rd_L7 l3 x57_2) t154 _ ?side1 ?side2 A21.out).mono ?_); (case side1 => repeat (first | exact (Kd.zca HR153_0.out HB.out) | (with_reducible refine Kd.zce ?_ _) | (with_reducible refine Kd.zb6 ?_ _) | (with_reducible refine Kd.zcp ?_))); (case side2 => exact HC153_0.out); rintro e w33 ⟨rfl, hb⟩; refine ⟨_, rfl, ?_⟩; have n0_ := zad.mk (Kd.zbv (by (with_reducible repeat (first | apply Kd.zav | apply Kd.za1 | apply Kd.za9)); exact HO_13.out) hb); have n1_ := zad.mk (zbn (g := gb152) (o := .cells #[.int .u8 a0, .int .i64 a1, .int .i64 x153002_2, .int .i64 x153003_2, .int .i64 a2] 43 (0, 0)) (by (with_reducible repeat (first | refine zas ?_ _ | refine zaw ?_ | refine zar ?_ _)); exact BK152.out) hb); have n2_ := zad.mk (zaf (by repeat (first | (with_reducible first | exact HB.out | apply zab | apply zaa | apply zac | refine zaq ?_ GE152.out) | exact HB.out)) hb); clear HO_13; clear BK152; clear HB; have HO_13 := n0_; have BK152 := n1_; have HB := n2_; clear n0_ n1_ n2_; (try clear hb); (try clear hb2); (try clear hk); (try clear hi); obtain ⟨Ao34, co34, eo34⟩ := Kd.zbk HO_13.out; subst eo34) | ((with_reducible refine zan (f := 37) rfl ?_); refine zbd (some 71) rfl rfl Tryz.func37 (by kernel_rfl) rfl #[.slice A153_0 (rd_L7 l3 x57_2).length c153_0, .int .i64 (x13_2.length : Int)] rfl (by (try simp only [List.map_toArray, List.map_cons, List.map_nil]); first | done | rfl | (simp only [List.length_drop, List.length_take]; rfl)) ?_; (with_reducible refine (za7.calls k2 _ _ (rd_L7 l3 x57_2) (x13_2.length : Int) t155 _ ?side1 ?side2 A23.out).mono ?_); (case side1 => repeat (first | exact (Kd.zca HR153_0.out HB.out) | (with_reducible refine Kd.zce ?_ _) | (with_reducible refine Kd.zb6 ?_ _) | (with_reducible refine Kd.zcp ?_))); (case side2 => exact HC153_0.out); rintro e w35 ⟨v156, rfl, ho0, hb⟩; refine ⟨_, rfl, ?_⟩; have n0_ := zad.mk (Kd.R_elder' (by (with_reducible repeat (first | apply Kd.zav | apply Kd.za1 | apply Kd.za9)); exact HO_13.out) (Kd.R_base ho0) hb); have n1_ := zad.mk (Kd.zbp (Kd.R_newB (Kd.R_new' ho0 (Kd.R_lt (by (with_reducible repeat (first | apply Kd.zav | apply Kd.za1 | apply Kd.za9)); exact HO_13.out))) (g := gb152) (o := .cells #[.int .u8 a0, .int .i64 a1, .int .i64 x153002_2, .int .i64 x153003_2, .int .i64 a2] 43 (0, 0)) (by (with_reducible repeat (first | refine zas ?_ _ | refine zaw ?_ | refine zar ?_ _)); exact BK152.out)) (zao (by repeat (first | (with_reducible first | exact HB.out | apply zab | apply zaa | apply zac | refine zaq ?_ GE152.out) | exact HB.out)))); have n2_ := zad.mk (zbn (g := gb152) (o := .cells #[.int .u8 a0, .int .i64 a1, .int .i64 x153002_2, .int .i64 x153003_2, .int .i64 a2] 43 (0, 0)) (by (with_reducible repeat (first | refine zas ?_ _ | refine zaw ?_ | refine zar ?_ _)); exact BK152.out) hb); have n3_ := zad.mk (zaf (by repeat (first | (with_reducible first | exact HB.out | apply zab | apply zaa | apply zac | refine zaq ?_ GE152.out) | exact HB.out)) hb); clear HO_13; clear BK152; clear HB; have HO_13 := n0_; have HO157 := n1_; have BK152 := n2_; have HB := n3_; clear n0_ n1_ n2_ n3_; (try clear hb); (try clear hb2); (try clear hk); (try clear hi); (try clear ho0); obtain ⟨Ao37, co37, eo37⟩ := Kd.zbk HO157.out; subst eo37) | ((with_reducible refine zbe (b := .append) (xs := #[.tmp 67, .tmp 71]) rfl ?_); (try (refine zb3 (by rfl) ?_; dsimp only)); at_builtin; refine Kd.R_append_rows k43 (w0 := w) w.heap.size rfl (.tmp 67) (.tmp 71) 29 43 (.agg #[(.int .u8 0), (.int .i64 0), (.int .i64 0), (.int .i64 0), (.int .i64 0)]) 40 rfl Tryz.underlying29 info43 rfl (by decide) (by omega) (.slice Ao34 x13_2.length co34) x13_2 t155 _ _ _ (fun k_ => some k_ ≠ (.slice Ao37 t155.length co37 : Value).ownBlock ∧ k_ ≠ gb152) (fun _ => False) rfl rfl ?aO ?aR (fun _ _ h => h) (fun _ h => h.elim) ?aF ?aB ?aS ?aL ?_; (case aR => repeat (first | exact (Kd.zbg HO157.out).2.2 | (with_reducible refine Kd.zce ?_ _) | (with_reducible refine Kd.zb6 ?_ _) | (with_reducible refine Kd.zcp ?_))); (case aB => exact (by repeat (first | (with_reducible first | exact HB.out | apply zab | apply zaa | apply zac | refine zaq ?_ GE152.out) | exact HB.out))); (case aF => exact (fun k_ hk => ⟨Kd.fresh' (Kd.R_lt (by (with_reducible repeat (first | apply Kd.zav | apply Kd.za1 | apply Kd.za9)); exact HO157.out)) k_ hk, Kd.freshB (g := gb152) (o := .cells #[.int .u8 a0, .int .i64 a1, .int .i64 x153002_2, .int .i64 x153003_2, .int .i64 a2] 43 (0, 0)) (by (with_reducible repeat (first | refine zas ?_ _ | refine zaw ?_ | refine zar ?_ _)); exact BK152.out) k_ hk⟩)); (case aO => exact (by (with_reducible repeat (first | apply Kd.zav | apply Kd.za1 | apply Kd.za9)); exact Kd.zb0 HO_13.out (fun _ hk => ⟨hk.2, hk.1⟩))); (case aS => exact (zao (by repeat (first | (with_reducible first | exact HB.out | apply zab | apply zaa | apply zac | refine zaq ?_ GE152.out) | exact HB.out)))); (case aL => have := LMc24.out; omega); intro v159 w36 ho hb hg hat; rw [← Ny158.out] at ho; have n0_ := zad.mk (zb9 (g := gb152) (o := .cells #[.int .u8 a0, .int .i64 a1, .int .i64 x153002_2, .int .i64 x153003_2, .int .i64 a2] 43 (0, 0)) (by (with_reducible repeat (first | refine zas ?_ _ | refine zaw ?_ | refine zar ?_ _)); exact BK152.out) hg (Kd.R_away HO_13.out (fun _ hk => hk.1))); have n1_ := zad.mk (Kd.zch (ok := (fun k_ => k_ ≠ gb152)) (by (with_reducible repeat (first | apply Kd.zav | apply Kd.za1 | apply Kd.za9)); exact Kd.zb0 HO157.out (fun _ hk => ⟨hk.2, hk.1.2⟩)) hg hat); have n2_ := zad.mk (hb); have n3_ := zad.mk (ho); clear BK152; clear HO157; clear HB; clear HO_13; have BK152 := n0_; have HO157 := n1_; have HB := n2_; have HO160 := n3_; clear n0_ n1_ n2_ n3_; clear ho hb hg hat; obtain ⟨Ao38, co38, eo38⟩ := Kd.zbk HO160.out; subst eo38; have hcz39_0 : w36.cell? ⟨gb152, 0, none⟩ = some (.int .u8 a0) := (zal BK152.out 0).trans rfl; have hcz39_1 : w36.cell? ⟨gb152, 1, none⟩ = some (.int .i64 a1) := (zal BK152.out 1).trans rfl; have hcz39_2 : w36.cell? ⟨gb152, 2, none⟩ = some (.int .i64 x153002_2) := (zal BK152.out 2).trans rfl; have hcz39_3 : w36.cell? ⟨gb152, 3, none⟩ = some (.int .i64 x153003_2) := (zal BK152.out 3).trans rfl; have hcz39_4 : w36.cell? ⟨gb152, 4, none⟩ = some (.int .i64 a2) := (zal BK152.out 4).trans rfl; have hfz39_0 := zaj BK152.out 0; have hfz39_1 := zaj BK152.out 1; have hfz39_2 := zaj BK152.out 2; have hfz39_3 := zaj BK152.out 3; have hfz39_4 := zaj BK152.out 4))
            go_roundg k2
            case measure => have := HJ5.out; have := HK2.out; omega
            case rel => exact ⟨(y158), (wrap64 (x57_2 + 1)), (x153002_2), (wrap64 ((y158.length : Int) - 1)), (by first | rfl | (simp; done) | (simp [*]; done)), H', ⟨by have := HJ5.out; have := HK2.out; omega⟩, ⟨by (with_reducible repeat (first | apply Kd.zav | apply Kd.za1 | apply Kd.za9)); exact Kd.zb0 (Kd.R_far (p := ⟨gb152, 3, none⟩) (Kd.zb0 HO160.out (fun k_ hk => (⟨hk, hk.2⟩ : _ ∧ k_ ≠ gb152))) (fun _ hk => hk.2) (.int .i64 (wrap64 ((y158.length : Int) - 1)))) (fun _ hk => hk.1.2)⟩, ⟨by (with_reducible repeat (first | refine zas ?_ _ | refine zaw ?_ | refine zar ?_ _)); refine zbw (cs := #[.int .u8 a0, .int .i64 a1, .int .i64 x153002_2, .int .i64 x153003_2, .int .i64 a2]) ?_ 3 _ rfl; (with_reducible repeat (first | refine zas ?_ _ | refine zaw ?_ | refine zar ?_ _)); exact BK152.out⟩, ⟨by repeat (first | (with_reducible first | exact HB.out | apply zab | apply zaa | apply zac | refine zaq ?_ GE152.out) | exact HB.out)⟩⟩
          ·rw [if_neg c24] at H
           exact absurd H (by simp)
         ·rw [if_neg c22] at H
          have c22b0 : (t154 == 0) = false := beq_eq_false_iff_ne.mpr c22
          have c22b1 : (t154 != 0) = true := bne_iff_ne.mpr c22
          simp only [Option.some.injEq, Prod.mk.injEq] at H
          obtain ⟨rfl, rfl⟩ := H
          have p153 : 0 ≤ (x57_2 : Int) := of_decide_eq_true (by first | (with_reducible assumption) | assumption)
          have q153 : x57_2 < (l3.length : Int) := of_decide_eq_true (by first | (with_reducible assumption) | assumption)
          obtain ⟨ad153, A153_0, c153_0, e153, hx153_0, hl153_0, hi153_0⟩ := at_L7 HR3.out x57_2 p153 q153
          cases e153
          replace hx153_0 := (HB.out.cell (World.block_lt_of_cell? w _ hx153_0)).trans hx153_0
          have HR153_0 := zad.mk hi153_0
          have HC153_0 := zad.mk hl153_0
          clear hi153_0 hl153_0
          replace p153 := eq_true p153
          replace q153 := eq_true q153
          go_wp2_with (first | ((with_reducible refine zan (f := 15) rfl ?_); refine zbd (some 63) rfl rfl Tryz.func15 (by kernel_rfl) rfl #[.slice A153_0 (rd_L7 l3 x57_2).length c153_0] rfl (by (try simp only [List.map_toArray, List.map_cons, List.map_nil]); first | done | rfl | (simp only [List.length_drop, List.length_take]; rfl)) ?_; (with_reducible refine (zbl.calls _ _ (rd_L7 l3 x57_2) t154 _ ?side1 ?side2 A21.out).mono ?_); (case side1 => repeat (first | exact (Kd.zca HR153_0.out HB.out) | (with_reducible refine Kd.zce ?_ _) | (with_reducible refine Kd.zb6 ?_ _) | (with_reducible refine Kd.zcp ?_))); (case side2 => exact HC153_0.out); rintro e w40 ⟨rfl, hb⟩; refine ⟨_, rfl, ?_⟩; have n0_ := zad.mk (Kd.zbv (by (with_reducible repeat (first | apply Kd.zav | apply Kd.za1 | apply Kd.za9)); exact HO_13.out) hb); have n1_ := zad.mk (zbn (g := gb152) (o := .cells #[.int .u8 a0, .int .i64 a1, .int .i64 x153002_2, .int .i64 x153003_2, .int .i64 a2] 43 (0, 0)) (by (with_reducible repeat (first | refine zas ?_ _ | refine zaw ?_ | refine zar ?_ _)); exact BK152.out) hb); have n2_ := zad.mk (zaf (by repeat (first | (with_reducible first | exact HB.out | apply zab | apply zaa | apply zac | refine zaq ?_ GE152.out) | exact HB.out)) hb); clear HO_13; clear BK152; clear HB; have HO_13 := n0_; have BK152 := n1_; have HB := n2_; clear n0_ n1_ n2_; (try clear hb); (try clear hb2); (try clear hk); (try clear hi)))
          go_ret2
          exact ⟨_, by first | rfl | (simp [zah, zai] <;> rfl) | (simp [*, zah, zai] <;> rfl), by first | exact Kd.R_nil _ _ _ _ _ | exact Kd.N_nil _ _ _ _ _ | exact Kd.V_nil _ _ _ _ _ | exact Kd.Q_nil _ _ _ _ _ | exact Kd.S_nil _ _ _ _ _, by repeat (first | (with_reducible first | exact HB.out | apply zab | apply zaa | apply zac | refine zaq ?_ GE152.out) | exact HB.out)⟩
        ·rw [if_neg c20] at H
         exact absurd H (by simp)
       ·rw [if_neg c19] at H
        exact absurd H (by simp)
      ·rw [if_neg c18] at H
       have c18b0 : decide (x57_2 < (l3.length : Int)) = false := decide_eq_false c18
       clear c18
       by_cases c41 : x13_2.length < 3518437208883
       ·rw [if_pos c41] at H
        have LMc41 := zad.mk c41
        clear c41
        obtain ⟨y161, hy161⟩ : ∃ y_ : List (S43), y_ = (x13_2 ++ [(⟨a0, a1, x153002_2, x153003_2, a2⟩ : S43)]) := ⟨_, rfl⟩
        replace H : ((zbl.f y161).bind fun t164 => (if t164 = 0 then (some (y161, 0)) else (some (([] : List (S43)), t164)))) = some (r1, r2) := by first | (rw [hy161]; with_reducible exact H) | (have H2_ := (Option.bind_some _ _).symm.trans H; rw [hy161]; with_reducible exact H2_) | (have H2_ := (Option.bind_some _ _).symm.trans H; with_reducible exact H2_) | with_reducible exact H | (rw [hy161]; exact H) | exact H
        have Ny161 := zad.mk hy161
        clear hy161
        replace H := Option.bind_eq_some_iff.mp H
        obtain ⟨t164, A420, H⟩ := H
        replace H : (if t164 = 0 then (some (y161, 0)) else (some (([] : List (S43)), t164))) = some (r1, r2) := H
        have A42 := zad.mk A420
        clear A420
        by_cases c43 : t164 = 0
        ·rw [if_pos c43] at H
         have c43b0 : (t164 == 0) = true := beq_iff_eq.mpr c43
         have c43b1 : (t164 != 0) = false := bne_eq_false_iff_eq.mpr c43
         clear c43
         simp only [Option.some.injEq, Prod.mk.injEq] at H
         obtain ⟨rfl, rfl⟩ := H
         have hcz44_0 : wr.cell? ⟨gb152, 0, none⟩ = some (.int .u8 a0) := (zal BK152.out 0).trans rfl
         have hcz44_1 : wr.cell? ⟨gb152, 1, none⟩ = some (.int .i64 a1) := (zal BK152.out 1).trans rfl
         have hcz44_2 : wr.cell? ⟨gb152, 2, none⟩ = some (.int .i64 x153002_2) := (zal BK152.out 2).trans rfl
         have hcz44_3 : wr.cell? ⟨gb152, 3, none⟩ = some (.int .i64 x153003_2) := (zal BK152.out 3).trans rfl
         have hcz44_4 : wr.cell? ⟨gb152, 4, none⟩ = some (.int .i64 a2) := (zal BK152.out 4).trans rfl
         have hfz44_0 := zaj BK152.out 0
         have hfz44_1 := zaj BK152.out 1
         have hfz44_2 := zaj BK152.out 2
         have hfz44_3 := zaj BK152.out 3
         have hfz44_4 := zaj BK152.out 4
         go_wp2_with (first | ((with_reducible refine zbe (b := .append) (xs := #[.tmp 84, .tmp 86]) rfl ?_); (try (refine zb3 (by rfl) ?_; dsimp only)); at_builtin; refine Kd.zb2 k43 (w0 := w) w.heap.size rfl (.tmp 84) (.tmp 86) 29 43 (.agg #[(.int .u8 0), (.int .i64 0), (.int .i64 0), (.int .i64 0), (.int .i64 0)]) 40 rfl Tryz.underlying29 info43 rfl (by decide) (by omega) u13 x13_2 (⟨a0, a1, x153002_2, x153003_2, a2⟩ : S43) [.int .u8 a0, .int .i64 a1, .int .i64 x153002_2, .int .i64 x153003_2, .int .i64 a2] (fun k_ => k_ ≠ gb152) (fun _ => False) rfl rfl ?aP (fun _ hk => hk.elim) ?aF ?aO ?aB ?aS ?aL ?_; (case aP => exact k43_mkM _ _ _ (⟨a0, a1, x153002_2, x153003_2, a2⟩ : S43)); (case aB => exact (by repeat (first | (with_reducible first | exact HB.out | apply zab | apply zaa | apply zac | refine zaq ?_ GE152.out) | exact HB.out))); (case aF => exact (fun k_ hk => Kd.freshB (g := gb152) (o := .cells #[.int .u8 a0, .int .i64 a1, .int .i64 x153002_2, .int .i64 x153003_2, .int .i64 a2] 43 (0, 0)) (by (with_reducible repeat (first | refine zas ?_ _ | refine zaw ?_ | refine zar ?_ _)); exact BK152.out) k_ hk)); (case aO => exact (by (with_reducible repeat (first | apply Kd.zav | apply Kd.za1 | apply Kd.za9)); exact HO_13.out)); (case aS => exact (zao (by repeat (first | (with_reducible first | exact HB.out | apply zab | apply zaa | apply zac | refine zaq ?_ GE152.out) | exact HB.out)))); (case aL => have := LMc41.out; omega); intro v162 w45 ho hb hg hat; rw [← Ny161.out] at ho; have n0_ := zad.mk (zb9 (g := gb152) (o := .cells #[.int .u8 a0, .int .i64 a1, .int .i64 x153002_2, .int .i64 x153003_2, .int .i64 a2] 43 (0, 0)) (by (with_reducible repeat (first | refine zas ?_ _ | refine zaw ?_ | refine zar ?_ _)); exact BK152.out) hg (Kd.R_away HO_13.out (fun _ hk => hk))); have n1_ := zad.mk (hb); have n2_ := zad.mk (ho); clear BK152; clear HB; clear HO_13; have BK152 := n0_; have HB := n1_; have HO163 := n2_; clear n0_ n1_ n2_; clear ho hb hg hat; obtain ⟨Ao46, co46, eo46⟩ := Kd.zbk HO163.out; subst eo46) | ((with_reducible refine zan (f := 15) rfl ?_); refine zbd (some 89) rfl rfl Tryz.func15 (by kernel_rfl) rfl #[.slice Ao46 y161.length co46] rfl (by (try simp only [List.map_toArray, List.map_cons, List.map_nil]); first | done | rfl | (simp only [List.length_drop, List.length_take]; rfl)) ?_; (with_reducible refine (zbl.calls _ _ y161 t164 _ ?side1 ?side2 A42.out).mono ?_); (case side1 => repeat (first | exact (Kd.zbg HO163.out).2.2 | (with_reducible refine Kd.zce ?_ _) | (with_reducible refine Kd.zb6 ?_ _) | (with_reducible refine Kd.zcp ?_))); (case side2 => exact (Kd.zbg HO163.out).2.1); rintro e w47 ⟨rfl, hb⟩; refine ⟨_, rfl, ?_⟩; have n0_ := zad.mk (Kd.zbv (by (with_reducible repeat (first | apply Kd.zav | apply Kd.za1 | apply Kd.za9)); exact HO163.out) hb); have n1_ := zad.mk (zbn (g := gb152) (o := .cells #[.int .u8 a0, .int .i64 a1, .int .i64 x153002_2, .int .i64 x153003_2, .int .i64 a2] 43 (0, 0)) (by (with_reducible repeat (first | refine zas ?_ _ | refine zaw ?_ | refine zar ?_ _)); exact BK152.out) hb); have n2_ := zad.mk (zaf (by repeat (first | (with_reducible first | exact HB.out | apply zab | apply zaa | apply zac | refine zaq ?_ GE152.out) | exact HB.out)) hb); clear HO163; clear BK152; clear HB; have HO163 := n0_; have BK152 := n1_; have HB := n2_; clear n0_ n1_ n2_; (try clear hb); (try clear hb2); (try clear hk); (try clear hi)))
         go_ret2
         exact ⟨_, by first | rfl | (simp [zah, zai] <;> rfl) | (simp [*, zah, zai] <;> rfl), by (with_reducible repeat (first | apply Kd.zav | apply Kd.za1 | apply Kd.za9)); exact Kd.zb0 HO163.out (fun _ hk => trivial), by repeat (first | (with_reducible first | exact HB.out | apply zab | apply zaa | apply zac | refine zaq ?_ GE152.out) | exact HB.out)⟩
        ·rw [if_neg c43] at H
         have c43b0 : (t164 == 0) = false := beq_eq_false_iff_ne.mpr c43
         have c43b1 : (t164 != 0) = true := bne_iff_ne.mpr c43
         simp only [Option.some.injEq, Prod.mk.injEq] at H
         obtain ⟨rfl, rfl⟩ := H
         have hcz48_0 : wr.cell? ⟨gb152, 0, none⟩ = some (.int .u8 a0) := (zal BK152.out 0).trans rfl
         have hcz48_1 : wr.cell? ⟨gb152, 1, none⟩ = some (.int .i64 a1) := (zal BK152.out 1).trans rfl
         have hcz48_2 : wr.cell? ⟨gb152, 2, none⟩ = some (.int .i64 x153002_2) := (zal BK152.out 2).trans rfl
         have hcz48_3 : wr.cell? ⟨gb152, 3, none⟩ = some (.int .i64 x153003_2) := (zal BK152.out 3).trans rfl
         have hcz48_4 : wr.cell? ⟨gb152, 4, none⟩ = some (.int .i64 a2) := (zal BK152.out 4).trans rfl
         have hfz48_0 := zaj BK152.out 0
         have hfz48_1 := zaj BK152.out 1
         have hfz48_2 := zaj BK152.out 2
         have hfz48_3 := zaj BK152.out 3
         have hfz48_4 := zaj BK152.out 4
         go_wp2_with (first | ((with_reducible refine zbe (b := .append) (xs := #[.tmp 84, .tmp 86]) rfl ?_); (try (refine zb3 (by rfl) ?_; dsimp only)); at_builtin; refine Kd.zb2 k43 (w0 := w) w.heap.size rfl (.tmp 84) (.tmp 86) 29 43 (.agg #[(.int .u8 0), (.int .i64 0), (.int .i64 0), (.int .i64 0), (.int .i64 0)]) 40 rfl Tryz.underlying29 info43 rfl (by decide) (by omega) u13 x13_2 (⟨a0, a1, x153002_2, x153003_2, a2⟩ : S43) [.int .u8 a0, .int .i64 a1, .int .i64 x153002_2, .int .i64 x153003_2, .int .i64 a2] (fun k_ => k_ ≠ gb152) (fun _ => False) rfl rfl ?aP (fun _ hk => hk.elim) ?aF ?aO ?aB ?aS ?aL ?_; (case aP => exact k43_mkM _ _ _ (⟨a0, a1, x153002_2, x153003_2, a2⟩ : S43)); (case aB => exact (by repeat (first | (with_reducible first | exact HB.out | apply zab | apply zaa | apply zac | refine zaq ?_ GE152.out) | exact HB.out))); (case aF => exact (fun k_ hk => Kd.freshB (g := gb152) (o := .cells #[.int .u8 a0, .int .i64 a1, .int .i64 x153002_2, .int .i64 x153003_2, .int .i64 a2] 43 (0, 0)) (by (with_reducible repeat (first | refine zas ?_ _ | refine zaw ?_ | refine zar ?_ _)); exact BK152.out) k_ hk)); (case aO => exact (by (with_reducible repeat (first | apply Kd.zav | apply Kd.za1 | apply Kd.za9)); exact HO_13.out)); (case aS => exact (zao (by repeat (first | (with_reducible first | exact HB.out | apply zab | apply zaa | apply zac | refine zaq ?_ GE152.out) | exact HB.out)))); (case aL => have := LMc41.out; omega); intro v162 w49 ho hb hg hat; rw [← Ny161.out] at ho; have n0_ := zad.mk (zb9 (g := gb152) (o := .cells #[.int .u8 a0, .int .i64 a1, .int .i64 x153002_2, .int .i64 x153003_2, .int .i64 a2] 43 (0, 0)) (by (with_reducible repeat (first | refine zas ?_ _ | refine zaw ?_ | refine zar ?_ _)); exact BK152.out) hg (Kd.R_away HO_13.out (fun _ hk => hk))); have n1_ := zad.mk (hb); have n2_ := zad.mk (ho); clear BK152; clear HB; clear HO_13; have BK152 := n0_; have HB := n1_; have HO163 := n2_; clear n0_ n1_ n2_; clear ho hb hg hat; obtain ⟨Ao50, co50, eo50⟩ := Kd.zbk HO163.out; subst eo50) | ((with_reducible refine zan (f := 15) rfl ?_); refine zbd (some 89) rfl rfl Tryz.func15 (by kernel_rfl) rfl #[.slice Ao50 y161.length co50] rfl (by (try simp only [List.map_toArray, List.map_cons, List.map_nil]); first | done | rfl | (simp only [List.length_drop, List.length_take]; rfl)) ?_; (with_reducible refine (zbl.calls _ _ y161 t164 _ ?side1 ?side2 A42.out).mono ?_); (case side1 => repeat (first | exact (Kd.zbg HO163.out).2.2 | (with_reducible refine Kd.zce ?_ _) | (with_reducible refine Kd.zb6 ?_ _) | (with_reducible refine Kd.zcp ?_))); (case side2 => exact (Kd.zbg HO163.out).2.1); rintro e w51 ⟨rfl, hb⟩; refine ⟨_, rfl, ?_⟩; have n0_ := zad.mk (Kd.zbv (by (with_reducible repeat (first | apply Kd.zav | apply Kd.za1 | apply Kd.za9)); exact HO163.out) hb); have n1_ := zad.mk (zbn (g := gb152) (o := .cells #[.int .u8 a0, .int .i64 a1, .int .i64 x153002_2, .int .i64 x153003_2, .int .i64 a2] 43 (0, 0)) (by (with_reducible repeat (first | refine zas ?_ _ | refine zaw ?_ | refine zar ?_ _)); exact BK152.out) hb); have n2_ := zad.mk (zaf (by repeat (first | (with_reducible first | exact HB.out | apply zab | apply zaa | apply zac | refine zaq ?_ GE152.out) | exact HB.out)) hb); clear HO163; clear BK152; clear HB; have HO163 := n0_; have BK152 := n1_; have HB := n2_; clear n0_ n1_ n2_; (try clear hb); (try clear hb2); (try clear hk); (try clear hi)))
         go_ret2
         exact ⟨_, by first | rfl | (simp [zah, zai] <;> rfl) | (simp [*, zah, zai] <;> rfl), by first | exact Kd.R_nil _ _ _ _ _ | exact Kd.N_nil _ _ _ _ _ | exact Kd.V_nil _ _ _ _ _ | exact Kd.Q_nil _ _ _ _ _ | exact Kd.S_nil _ _ _ _ _, by repeat (first | (with_reducible first | exact HB.out | apply zab | apply zaa | apply zac | refine zaq ?_ GE152.out) | exact HB.out)⟩
       ·rw [if_neg c41] at H
        exact absurd H (by simp)
end Go.Proofs.YtgmmngipnjmkfaaGreatDoor.Q
end
section
namespace Go.Proofs.YtgmmngipnjmkfaaGreatDoor.Q
open Go.Proofs.YtgmmngipnjmkfaaGreatDoor.Hand
open Go.RowKit Go.Proofs.YtgmmngipnjmkfaaGreatDoorW.PrintWords Go.Proofs.YtgmmngipnjmkfaaGreatDoorW.PrintLast Go.Proofs.YtgmmngipnjmkfaaGreatDoorW.PrintMore
attribute [local go_sem] zda zdb zdm zdn zcq zcr zdc zdd
set_option linter.unusedVariables false
set_option linter.unusedSimpArgs false
def IsS64 (w0 W : World) (g : Nat) (f0 : List (S33)) (f1 : Int) (f2 : Int) : Prop := ∃ A0 c0, W.heap[g]? = some (.cells #[.slice A0 f0.length c0, .int .i64 f1, .int .i64 f2] 64 (0, 0)) ∧ w0.heap.size ≤ g ∧ Kd.C k33 w0 A0 f0.length f0
theorem IsS64.grown {w0 W : World} {g : Nat} {f0 : List (S33)} {f1 : Int} {f2 : Int} {W1 : World} {row : Option Nat} (h : IsS64 w0 W g f0 f1 f2) (hw : W.grownBy W1 row) (hne : some g ≠ row) : IsS64 w0 W1 g f0 f1 f2 := by
  obtain ⟨A0, c0, hb, hg, hr0⟩ := h
  exact ⟨A0, c0, zb9 hb hw hne, hg, hr0⟩
theorem IsS64.kept {w0 W : World} {g : Nat} {f0 : List (S33)} {f1 : Int} {f2 : Int} {W1 : World} {S : Nat → Prop} (h : IsS64 w0 W g f0 f1 f2) (hk : Kept W W1 S) (hne : ¬ S g) : IsS64 w0 W1 g f0 f1 f2 := by
  obtain ⟨A0, c0, hb, hg, hr0⟩ := h
  exact ⟨A0, c0, blk_kept hb hk hne, hg, hr0⟩
theorem IsS64.below {w0 W : World} {g : Nat} {f0 : List (S33)} {f1 : Int} {f2 : Int} {W1 : World} (h : IsS64 w0 W g f0 f1 f2) (hw : Below W.heap.size W W1) : IsS64 w0 W1 g f0 f1 f2 := h.grown (grown_of_below hw none) (by simp)
theorem IsS64.alloc {w0 W : World} {g : Nat} {f0 : List (S33)} {f1 : Int} {f2 : Int} (h : IsS64 w0 W g f0 f1 f2) (o : Obj) : IsS64 w0 (W.alloc o) g f0 f1 f2 := h.below (zab (Below.refl _ _) o)
theorem IsS64.drewN {w0 W : World} {g : Nat} {f0 : List (S33)} {f1 : Int} {f2 : Int} (h : IsS64 w0 W g f0 f1 f2) (m : Nat) : IsS64 w0 (W.drewN m) g f0 f1 f2 := h
theorem IsS64.drew {w0 W : World} {g : Nat} {f0 : List (S33)} {f1 : Int} {f2 : Int} (h : IsS64 w0 W g f0 f1 f2) : IsS64 w0 W.drew g f0 f1 f2 := h
theorem IsS64.at_ {w0 W : World} {g : Nat} {f0 : List (S33)} {f1 : Int} {f2 : Int} {w' : World} {m : Nat} (hq : W.drewN m = w') (h : IsS64 w0 W g f0 f1 f2) : IsS64 w0 w' g f0 f1 f2 := by subst hq; exact IsS64.drewN h m
theorem IsS64.apart {w0 W : World} {g : Nat} {f0 : List (S33)} {f1 : Int} {f2 : Int} {α : Type} {d : Kd α} {e : Nat} {base : Nat} {ok : Nat → Prop} {v : Value} {xs : List α} (h : IsS64 w0 W g f0 f1 f2) (ho : d.R e W base ok v xs) (ht : ∀ q, q ∈ e :: d.E → q ≠ 64) : d.R e W base (fun k => ok k ∧ k ≠ g) v xs := by
  obtain ⟨A0, c0, hb, hg, hr0⟩ := h
  exact Kd.R_types ho hb ht
theorem IsS64.own_ne {w0 W : World} {g : Nat} {f0 : List (S33)} {f1 : Int} {f2 : Int} {α : Type} {d : Kd α} {e : Nat} {base : Nat} {ok : Nat → Prop} {v : Value} {xs : List α} (h : IsS64 w0 W g f0 f1 f2) (ho : d.R e W base ok v xs) (ht : e ≠ 64) : some g ≠ v.ownBlock := by
  obtain ⟨A0, c0, hb, hg, hr0⟩ := h
  exact Kd.R_ne ho hb ht
theorem IsS64.lt {w0 W : World} {g : Nat} {f0 : List (S33)} {f1 : Int} {f2 : Int} (h : IsS64 w0 W g f0 f1 f2) : g < W.heap.size := by
  obtain ⟨A0, c0, hb, hg, hr0⟩ := h
  exact blk_lt hb
theorem IsS64.ge {w0 W : World} {g : Nat} {f0 : List (S33)} {f1 : Int} {f2 : Int} (h : IsS64 w0 W g f0 f1 f2) : w0.heap.size ≤ g := by
  obtain ⟨A0, c0, hb, hg, hr0⟩ := h
  exact hg
theorem zcz {W : World} {g : Nat} {A0 : Option Addr} {c0 : Nat} {f0 : List (S33)} {f1 : Int} {f2 : Int} (h : W.heap[g]? = some (.cells #[.slice A0 f0.length c0, .int .i64 f1, .int .i64 f2] 64 (0, 0))) : W.cell? ⟨g, 0, none⟩ = some (.slice A0 f0.length c0) := (zal h 0).trans rfl
theorem zcs {W : World} {g : Nat} {A0 : Option Addr} {c0 : Nat} {f0 : List (S33)} {f1 : Int} {f2 : Int} (h : W.heap[g]? = some (.cells #[.slice A0 f0.length c0, .int .i64 f1, .int .i64 f2] 64 (0, 0))) : W.cell? ⟨g, 1, none⟩ = some (.int .i64 f1) := (zal h 1).trans rfl
theorem IsS64.set_1 {w0 W : World} {g : Nat} {f0 : List (S33)} {f1 : Int} {f2 : Int} (h : IsS64 w0 W g f0 f1 f2) (x : Int) : IsS64 w0 (W.setCell ⟨g, 1, none⟩ (.int .i64 x)) g f0 x f2 := by
  obtain ⟨A0, c0, hb, hg, hr0⟩ := h
  exact ⟨A0, c0, by simpa using blk_set hb 1 (.int .i64 x), hg, hr0⟩
theorem zct {W : World} {g : Nat} {A0 : Option Addr} {c0 : Nat} {f0 : List (S33)} {f1 : Int} {f2 : Int} (h : W.heap[g]? = some (.cells #[.slice A0 f0.length c0, .int .i64 f1, .int .i64 f2] 64 (0, 0))) : W.cell? ⟨g, 2, none⟩ = some (.int .i64 f2) := (zal h 2).trans rfl
theorem IsS64.set_2 {w0 W : World} {g : Nat} {f0 : List (S33)} {f1 : Int} {f2 : Int} (h : IsS64 w0 W g f0 f1 f2) (x : Int) : IsS64 w0 (W.setCell ⟨g, 2, none⟩ (.int .i64 x)) g f0 f1 x := by
  obtain ⟨A0, c0, hb, hg, hr0⟩ := h
  exact ⟨A0, c0, by simpa using blk_set hb 2 (.int .i64 x), hg, hr0⟩
theorem IsS64.new (w0 W : World) (A0 : Option Addr) (c0 : Nat) (f0 : List (S33)) (f1 : Int) (f2 : Int) (hB : Below w0.heap.size w0 W) (hr0 : Kd.C k33 w0 A0 f0.length f0) : IsS64 w0 (W.alloc (.cells #[.slice A0 f0.length c0, .int .i64 f1, .int .i64 f2] 64)) W.heap.size f0 f1 f2 := ⟨A0, c0, by simpa using heap_alloc_new W _, hB.size, hr0⟩
def zbh.f (k : Nat) (s0_0 : List (S33)) (s0_1 : Int) (s0_2 : Int) (a1 : Int) (a2 : Int) (a3 : Int) (l4 : List (List (S43))) : Option ((List (S43)) × Int × Int) := if s0_2 = 0 then (if 0 ≤ a3 then (if a3 < (s0_0.length : Int) then ((zat.f k a1 a2 ((za6 s0_0 a3).f2) l4).bind fun bt166 => (if bt166.2 = 0 then (some (bt166.1, s0_1, s0_2)) else (some (bt166.1, a3, bt166.2)))) else (none)) else (none)) else (some (([] : List (S43)), s0_1, s0_2))
set_option maxHeartbeats 8000000 in
set_option maxRecDepth 100000 in
theorem zbh.calls (k : Nat) (g : Nat) (s0_0 : List (S33)) (s0_1 : Int) (s0_2 : Int) (a1 : Int) (a2 : Int) (a3 : Int) (A4 : Option Addr) (c4 : Nat) (l4 : List (List (S43))) (r1 : List (S43)) (r2 : Int) (r3 : Int) (w0 w : World) (hI : IsS64 w0 w g s0_0 s0_1 s0_2) (hB : Below w0.heap.size w0 w) (hr4 : ∀ W_, KeepBut w W_ g none → Kd.C (Kd.slice 43 k43) W_ A4 l4.length l4) (hc4 : l4.length ≤ c4) (h : zbh.f k s0_0 s0_1 s0_2 a1 a2 a3 l4 = some (r1, r2, r3)) :
    Calls Tryz.prog 48 #[.pointer (some ⟨g, 0, none⟩), .int .u8 a1, .int .i64 a2, .int .i64 a3, .slice A4 l4.length c4] w fun e w' => ∃ v0_ : Value, e = .returned (v0_) ∧ Kd.R k43 43 w' w.heap.size (fun _ => True) v0_ r1 ∧ IsS64 w0 w' g s0_0 r2 r3 ∧ Below w0.heap.size w0 w' ∧ KeepBut w w' g none := by
  have HR4 := zad.mk hr4
  have HC4 := zad.mk hc4
  clear hr4 hc4
  have HI0 := zad.mk hI
  have HK := zad.mk (KeepBut.refl w g none)
  have HL := zad.mk hB.size
  clear hI
  have HW0 := zad.mk hB.size
  have HB := zad.mk hB
  clear hB
  have H : (if s0_2 = 0 then (if 0 ≤ a3 then (if a3 < (s0_0.length : Int) then ((zat.f k a1 a2 ((za6 s0_0 a3).f2) l4).bind fun bt166 => (if bt166.2 = 0 then (some (bt166.1, s0_1, s0_2)) else (some (bt166.1, a3, bt166.2)))) else (none)) else (none)) else (some (([] : List (S43)), s0_1, s0_2))) = some (r1, r2, r3) := h
  clear h
  by_cases c6 : s0_2 = 0
  · rw [if_pos c6] at H
    have c6b0 : (s0_2 == 0) = true := beq_iff_eq.mpr c6
    have c6b1 : (s0_2 != 0) = false := bne_eq_false_iff_eq.mpr c6
    clear c6
    by_cases c7 : 0 ≤ a3
    · rw [if_pos c7] at H
      have c7b0 : decide (0 ≤ a3) = true := decide_eq_true c7
      clear c7
      by_cases c8 : a3 < (s0_0.length : Int)
      · rw [if_pos c8] at H
        have c8b0 : decide (a3 < (s0_0.length : Int)) = true := decide_eq_true c8
        clear c8
        replace H := Option.bind_eq_some_iff.mp H
        obtain ⟨⟨t166, t167⟩, A90, H⟩ := H
        replace H : (if t167 = 0 then (some (t166, s0_1, s0_2)) else (some (t166, a3, t167))) = some (r1, r2, r3) := H
        have A9 := zad.mk A90
        clear A90
        by_cases c10 : t167 = 0
        · rw [if_pos c10] at H
          have c10b0 : (t167 == 0) = true := beq_iff_eq.mpr c10
          have c10b1 : (t167 != 0) = false := bne_eq_false_iff_eq.mpr c10
          clear c10
          simp only [Option.some.injEq, Prod.mk.injEq] at H
          obtain ⟨rfl, rfl, rfl⟩ := H
          obtain ⟨ASz11_0, cSz11_0, HGz11, hgz11, HSz11_0⟩ := HI0.out
          have hcz11_0 := zcz HGz11
          have hcz11_1 := zcs HGz11
          have hcz11_2 := zct HGz11
          have hfz11_1 := zaj HGz11 1
          have hfz11_2 := zaj HGz11 2
          clear HGz11 hgz11
          have p165 : 0 ≤ (a3 : Int) := of_decide_eq_true (by first | (with_reducible assumption) | assumption)
          have q165 : a3 < (s0_0.length : Int) := of_decide_eq_true (by first | (with_reducible assumption) | assumption)
          obtain ⟨ad165, e165, hx165_0, hx165_1, hx165_2⟩ := zc1 HSz11_0 a3 p165 q165
          cases e165
          replace hx165_0 := zax HB.out hx165_0
          replace hx165_1 := zax HB.out hx165_1
          replace hx165_2 := zax HB.out hx165_2
          replace p165 := eq_true p165
          replace q165 := eq_true q165
          go_enter Tryz.func48, Tryz.ntmps48
          go_wp2_with (first | ((with_reducible refine zan (f := 23) rfl ?_); refine zbd (some 30) rfl rfl Tryz.func23 (by kernel_rfl) rfl #[.int .u8 a1, .int .i64 a2, .int .i64 ((za6 s0_0 a3).f2), .slice A4 l4.length c4] rfl (by (try simp only [List.map_toArray, List.map_cons, List.map_nil]); first | done | rfl | (simp only [List.length_drop, List.length_take]; rfl)) ?_; (with_reducible refine (zat.calls k a1 a2 ((za6 s0_0 a3).f2) _ _ l4 t166 t167 _ ?side1 ?side2 A9.out).mono ?_); (case side1 => exact Kd.C_foot_now HR4.out (by repeat (first | (with_reducible first | exact HK.out | apply KeepBut.set_ | apply zcb | apply zcg | apply zcc) | exact HK.out))); (case side2 => exact HC4.out); rintro e w12 ⟨v168, rfl, ho0, hb⟩; refine ⟨_, rfl, ?_⟩; have n0_ := zad.mk (Kd.zbp ho0 (keep_size (w := w) (g := g) (row := none) (by repeat (first | (with_reducible first | exact HK.out | apply KeepBut.set_ | apply zcb | apply zcg | apply zcc) | exact HK.out)))); have n1_ := zad.mk (IsS64.below (by repeat (first | (with_reducible first | exact HI0.out | apply IsS64.alloc | apply IsS64.drewN | apply IsS64.drew | apply IsS64.set_1 | apply IsS64.set_2) | exact HI0.out)) hb); have n2_ := zad.mk (KeepBut.trans (by repeat (first | (with_reducible first | exact HK.out | apply KeepBut.set_ | apply zcb | apply zcg | apply zcc) | exact HK.out)) (KeepBut.of_below hb g none) (.inl rfl)); have n3_ := zad.mk (zaf (by repeat (first | (with_reducible first | exact HB.out | apply zab | apply zaa | apply zac | refine zaq ?_ (IsS64.ge HI0.out)) | exact HB.out)) hb); clear HI0; clear HK; clear HB; have HO169 := n0_; have HI0 := n1_; have HK := n2_; have HB := n3_; clear n0_ n1_ n2_ n3_; (try clear hb); (try clear hb2); (try clear hk); (try clear hi); (try clear ho0)))
          go_ret
          exact ⟨_, by first | rfl | (simp [zah, zai] <;> rfl) | (simp [*, zah, zai] <;> rfl), by (with_reducible repeat (first | apply Kd.zav | apply Kd.za1 | apply Kd.za9)); exact HO169.out, by repeat (first | (with_reducible first | exact HI0.out | apply IsS64.alloc | apply IsS64.drewN | apply IsS64.drew | apply IsS64.set_1 | apply IsS64.set_2) | exact HI0.out), by repeat (first | (with_reducible first | exact HB.out | apply zab | apply zaa | apply zac | refine zaq ?_ (IsS64.ge HI0.out)) | exact HB.out), by repeat (first | (with_reducible first | exact HK.out | apply KeepBut.set_ | apply zcb | apply zcg | apply zcc) | exact HK.out)⟩
        · rw [if_neg c10] at H
          have c10b0 : (t167 == 0) = false := beq_eq_false_iff_ne.mpr c10
          have c10b1 : (t167 != 0) = true := bne_iff_ne.mpr c10
          simp only [Option.some.injEq, Prod.mk.injEq] at H
          obtain ⟨rfl, rfl, rfl⟩ := H
          obtain ⟨ASz13_0, cSz13_0, HGz13, hgz13, HSz13_0⟩ := HI0.out
          have hcz13_0 := zcz HGz13
          have hcz13_1 := zcs HGz13
          have hcz13_2 := zct HGz13
          have hfz13_1 := zaj HGz13 1
          have hfz13_2 := zaj HGz13 2
          clear HGz13 hgz13
          have p165 : 0 ≤ (a3 : Int) := of_decide_eq_true (by first | (with_reducible assumption) | assumption)
          have q165 : a3 < (s0_0.length : Int) := of_decide_eq_true (by first | (with_reducible assumption) | assumption)
          obtain ⟨ad165, e165, hx165_0, hx165_1, hx165_2⟩ := zc1 HSz13_0 a3 p165 q165
          cases e165
          replace hx165_0 := zax HB.out hx165_0
          replace hx165_1 := zax HB.out hx165_1
          replace hx165_2 := zax HB.out hx165_2
          replace p165 := eq_true p165
          replace q165 := eq_true q165
          go_enter Tryz.func48, Tryz.ntmps48
          go_wp2_with (first | ((with_reducible refine zan (f := 23) rfl ?_); refine zbd (some 30) rfl rfl Tryz.func23 (by kernel_rfl) rfl #[.int .u8 a1, .int .i64 a2, .int .i64 ((za6 s0_0 a3).f2), .slice A4 l4.length c4] rfl (by (try simp only [List.map_toArray, List.map_cons, List.map_nil]); first | done | rfl | (simp only [List.length_drop, List.length_take]; rfl)) ?_; (with_reducible refine (zat.calls k a1 a2 ((za6 s0_0 a3).f2) _ _ l4 t166 t167 _ ?side1 ?side2 A9.out).mono ?_); (case side1 => exact Kd.C_foot_now HR4.out (by repeat (first | (with_reducible first | exact HK.out | apply KeepBut.set_ | apply zcb | apply zcg | apply zcc) | exact HK.out))); (case side2 => exact HC4.out); rintro e w14 ⟨v168, rfl, ho0, hb⟩; refine ⟨_, rfl, ?_⟩; have n0_ := zad.mk (Kd.zbp ho0 (keep_size (w := w) (g := g) (row := none) (by repeat (first | (with_reducible first | exact HK.out | apply KeepBut.set_ | apply zcb | apply zcg | apply zcc) | exact HK.out)))); have n1_ := zad.mk (IsS64.below (by repeat (first | (with_reducible first | exact HI0.out | apply IsS64.alloc | apply IsS64.drewN | apply IsS64.drew | apply IsS64.set_1 | apply IsS64.set_2) | exact HI0.out)) hb); have n2_ := zad.mk (KeepBut.trans (by repeat (first | (with_reducible first | exact HK.out | apply KeepBut.set_ | apply zcb | apply zcg | apply zcc) | exact HK.out)) (KeepBut.of_below hb g none) (.inl rfl)); have n3_ := zad.mk (zaf (by repeat (first | (with_reducible first | exact HB.out | apply zab | apply zaa | apply zac | refine zaq ?_ (IsS64.ge HI0.out)) | exact HB.out)) hb); clear HI0; clear HK; clear HB; have HO169 := n0_; have HI0 := n1_; have HK := n2_; have HB := n3_; clear n0_ n1_ n2_ n3_; (try clear hb); (try clear hb2); (try clear hk); (try clear hi); (try clear ho0); obtain ⟨ASz15_0, cSz15_0, HGz15, hgz15, HSz15_0⟩ := HI0.out; have hcz15_0 := zcz HGz15; have hcz15_1 := zcs HGz15; have hcz15_2 := zct HGz15; have hfz15_1 := zaj HGz15 1; have hfz15_2 := zaj HGz15 2; clear HGz15 hgz15))
          go_ret
          exact ⟨_, by first | rfl | (simp [zah, zai] <;> rfl) | (simp [*, zah, zai] <;> rfl), by (with_reducible repeat (first | apply Kd.zav | apply Kd.za1 | apply Kd.za9)); exact Kd.zb0 (Kd.R_far (p := ⟨g, 2, none⟩) (Kd.R_far (p := ⟨g, 1, none⟩) (IsS64.apart HI0.out HO169.out (by decide)) (fun _ hk => hk.2) (.int .i64 a3)) (fun _ hk => hk.2) (.int .i64 t167)) (fun _ hk => trivial), by repeat (first | (with_reducible first | exact HI0.out | apply IsS64.alloc | apply IsS64.drewN | apply IsS64.drew | apply IsS64.set_1 | apply IsS64.set_2) | exact HI0.out), by repeat (first | (with_reducible first | exact HB.out | apply zab | apply zaa | apply zac | refine zaq ?_ (IsS64.ge HI0.out)) | exact HB.out), by repeat (first | (with_reducible first | exact HK.out | apply KeepBut.set_ | apply zcb | apply zcg | apply zcc) | exact HK.out)⟩
      · rw [if_neg c8] at H
        exact absurd H (by simp)
    · rw [if_neg c7] at H
      exact absurd H (by simp)
  · rw [if_neg c6] at H
    have c6b0 : (s0_2 == 0) = false := beq_eq_false_iff_ne.mpr c6
    have c6b1 : (s0_2 != 0) = true := bne_iff_ne.mpr c6
    simp only [Option.some.injEq, Prod.mk.injEq] at H
    obtain ⟨rfl, rfl, rfl⟩ := H
    obtain ⟨ASz16_0, cSz16_0, HGz16, hgz16, HSz16_0⟩ := HI0.out
    have hcz16_0 := zcz HGz16
    have hcz16_1 := zcs HGz16
    have hcz16_2 := zct HGz16
    have hfz16_1 := zaj HGz16 1
    have hfz16_2 := zaj HGz16 2
    clear HGz16 hgz16
    go_enter Tryz.func48, Tryz.ntmps48
    go_wp2
    go_ret
    exact ⟨_, by first | rfl | (simp [zah, zai] <;> rfl) | (simp [*, zah, zai] <;> rfl), by first | exact Kd.R_nil _ _ _ _ _ | exact Kd.N_nil _ _ _ _ _ | exact Kd.V_nil _ _ _ _ _ | exact Kd.Q_nil _ _ _ _ _ | exact Kd.S_nil _ _ _ _ _, by repeat (first | (with_reducible first | exact HI0.out | apply IsS64.alloc | apply IsS64.drewN | apply IsS64.drew | apply IsS64.set_1 | apply IsS64.set_2) | exact HI0.out), by repeat (first | (with_reducible first | exact HB.out | apply zab | apply zaa | apply zac | refine zaq ?_ (IsS64.ge HI0.out)) | exact HB.out), by repeat (first | (with_reducible first | exact HK.out | apply KeepBut.set_ | apply zcb | apply zcg | apply zcc) | exact HK.out)⟩
def zcj.f (s0_0 : List (S33)) (s0_1 : Int) (s0_2 : Int) (a1 : ByteArray) : Option (Bool × Int × Int) := if s0_1 < (s0_0.length : Int) then (if 0 ≤ s0_1 then (if ((za6 s0_0 s0_1).f0) = 1 then (some (false, s0_1, s0_2)) else (some ((((za6 s0_0 s0_1).f1).toList == a1.toList), s0_1, s0_2))) else (none)) else (some (false, s0_1, s0_2))
set_option maxHeartbeats 8000000 in
set_option maxRecDepth 100000 in
theorem zcj.calls (g : Nat) (s0_0 : List (S33)) (s0_1 : Int) (s0_2 : Int) (a1 : ByteArray) (r1 : Bool) (r2 : Int) (r3 : Int) (w0 w : World) (hI : IsS64 w0 w g s0_0 s0_1 s0_2) (hB : Below w0.heap.size w0 w) (h : zcj.f s0_0 s0_1 s0_2 a1 = some (r1, r2, r3)) :
    Calls Tryz.prog 86 #[.pointer (some ⟨g, 0, none⟩), .string a1] w fun e w' => e = .returned (.bool r1) ∧ IsS64 w0 w' g s0_0 r2 r3 ∧ Below w0.heap.size w0 w' ∧ KeepBut w w' g none := by
  have HI0 := zad.mk hI
  have HK := zad.mk (KeepBut.refl w g none)
  have HL := zad.mk hB.size
  clear hI
  have HW0 := zad.mk hB.size
  have HB := zad.mk hB
  clear hB
  have H : (if s0_1 < (s0_0.length : Int) then (if 0 ≤ s0_1 then (if ((za6 s0_0 s0_1).f0) = 1 then (some (false, s0_1, s0_2)) else (some ((((za6 s0_0 s0_1).f1).toList == a1.toList), s0_1, s0_2))) else (none)) else (some (false, s0_1, s0_2))) = some (r1, r2, r3) := h
  clear h
  by_cases c3 : s0_1 < (s0_0.length : Int)
  · rw [if_pos c3] at H
    have c3b0 : decide (s0_1 < (s0_0.length : Int)) = true := decide_eq_true c3
    clear c3
    by_cases c4 : 0 ≤ s0_1
    · rw [if_pos c4] at H
      have c4b0 : decide (0 ≤ s0_1) = true := decide_eq_true c4
      clear c4
      by_cases c5 : ((za6 s0_0 s0_1).f0) = 1
      · rw [if_pos c5] at H
        have c5b0 : (((za6 s0_0 s0_1).f0) == 1) = true := beq_iff_eq.mpr c5
        have c5b1 : (((za6 s0_0 s0_1).f0) != 1) = false := bne_eq_false_iff_eq.mpr c5
        clear c5
        simp only [Option.some.injEq, Prod.mk.injEq] at H
        obtain ⟨rfl, rfl, rfl⟩ := H
        obtain ⟨ASz6_0, cSz6_0, HGz6, hgz6, HSz6_0⟩ := HI0.out
        have hcz6_0 := zcz HGz6
        have hcz6_1 := zcs HGz6
        have hcz6_2 := zct HGz6
        have hfz6_1 := zaj HGz6 1
        have hfz6_2 := zaj HGz6 2
        clear HGz6 hgz6
        have p170 : 0 ≤ (s0_1 : Int) := of_decide_eq_true (by first | (with_reducible assumption) | assumption)
        have q170 : s0_1 < (s0_0.length : Int) := of_decide_eq_true (by first | (with_reducible assumption) | assumption)
        obtain ⟨ad170, e170, hx170_0, hx170_1, hx170_2⟩ := zc1 HSz6_0 s0_1 p170 q170
        cases e170
        replace hx170_0 := zax HB.out hx170_0
        replace hx170_1 := zax HB.out hx170_1
        replace hx170_2 := zax HB.out hx170_2
        replace p170 := eq_true p170
        replace q170 := eq_true q170
        go_enter Tryz.func86, Tryz.ntmps86
        go_wp2
        repeat (go_quiet (fail); try go_wp2)
        go_ret
        exact ⟨by first | rfl | (simp [zah, zai] <;> rfl) | (simp [*, zah, zai] <;> rfl), by repeat (first | (with_reducible first | exact HI0.out | apply IsS64.alloc | apply IsS64.drewN | apply IsS64.drew | apply IsS64.set_1 | apply IsS64.set_2) | exact HI0.out), by repeat (first | (with_reducible first | exact HB.out | apply zab | apply zaa | apply zac | refine zaq ?_ (IsS64.ge HI0.out)) | exact HB.out), by repeat (first | (with_reducible first | exact HK.out | apply KeepBut.set_ | apply zcb | apply zcg | apply zcc) | exact HK.out)⟩
      · rw [if_neg c5] at H
        have c5b0 : (((za6 s0_0 s0_1).f0) == 1) = false := beq_eq_false_iff_ne.mpr c5
        have c5b1 : (((za6 s0_0 s0_1).f0) != 1) = true := bne_iff_ne.mpr c5
        simp only [Option.some.injEq, Prod.mk.injEq] at H
        obtain ⟨rfl, rfl, rfl⟩ := H
        obtain ⟨ASz7_0, cSz7_0, HGz7, hgz7, HSz7_0⟩ := HI0.out
        have hcz7_0 := zcz HGz7
        have hcz7_1 := zcs HGz7
        have hcz7_2 := zct HGz7
        have hfz7_1 := zaj HGz7 1
        have hfz7_2 := zaj HGz7 2
        clear HGz7 hgz7
        have p170 : 0 ≤ (s0_1 : Int) := of_decide_eq_true (by first | (with_reducible assumption) | assumption)
        have q170 : s0_1 < (s0_0.length : Int) := of_decide_eq_true (by first | (with_reducible assumption) | assumption)
        obtain ⟨ad170, e170, hx170_0, hx170_1, hx170_2⟩ := zc1 HSz7_0 s0_1 p170 q170
        cases e170
        replace hx170_0 := zax HB.out hx170_0
        replace hx170_1 := zax HB.out hx170_1
        replace hx170_2 := zax HB.out hx170_2
        replace p170 := eq_true p170
        replace q170 := eq_true q170
        have p171 : 0 ≤ (s0_1 : Int) := of_decide_eq_true (by first | (with_reducible assumption) | assumption)
        have q171 : s0_1 < (s0_0.length : Int) := of_decide_eq_true (by first | (with_reducible assumption) | assumption)
        obtain ⟨ad171, e171, hx171_0, hx171_1, hx171_2⟩ := zc1 HSz7_0 s0_1 p171 q171
        obtain rfl : ad170 = ad171 := (by injection e171)
        replace hx171_0 := zax HB.out hx171_0
        replace hx171_1 := zax HB.out hx171_1
        replace hx171_2 := zax HB.out hx171_2
        replace p171 := eq_true p171
        replace q171 := eq_true q171
        go_enter Tryz.func86, Tryz.ntmps86
        go_wp2
        repeat (go_quiet (fail); try go_wp2)
        go_ret
        exact ⟨by first | rfl | (simp [zah, zai] <;> rfl) | (simp [*, zah, zai] <;> rfl), by repeat (first | (with_reducible first | exact HI0.out | apply IsS64.alloc | apply IsS64.drewN | apply IsS64.drew | apply IsS64.set_1 | apply IsS64.set_2) | exact HI0.out), by repeat (first | (with_reducible first | exact HB.out | apply zab | apply zaa | apply zac | refine zaq ?_ (IsS64.ge HI0.out)) | exact HB.out), by repeat (first | (with_reducible first | exact HK.out | apply KeepBut.set_ | apply zcb | apply zcg | apply zcc) | exact HK.out)⟩
    · rw [if_neg c4] at H
      exact absurd H (by simp)
  · rw [if_neg c3] at H
    have c3b0 : decide (s0_1 < (s0_0.length : Int)) = false := decide_eq_false c3
    clear c3
    simp only [Option.some.injEq, Prod.mk.injEq] at H
    obtain ⟨rfl, rfl, rfl⟩ := H
    obtain ⟨ASz8_0, cSz8_0, HGz8, hgz8, HSz8_0⟩ := HI0.out
    have hcz8_0 := zcz HGz8
    have hcz8_1 := zcs HGz8
    have hcz8_2 := zct HGz8
    have hfz8_1 := zaj HGz8 1
    have hfz8_2 := zaj HGz8 2
    clear HGz8 hgz8
    go_enter Tryz.func86, Tryz.ntmps86
    go_wp2
    repeat (go_quiet (fail); try go_wp2)
    go_ret
    exact ⟨by first | rfl | (simp [zah, zai] <;> rfl) | (simp [*, zah, zai] <;> rfl), by repeat (first | (with_reducible first | exact HI0.out | apply IsS64.alloc | apply IsS64.drewN | apply IsS64.drew | apply IsS64.set_1 | apply IsS64.set_2) | exact HI0.out), by repeat (first | (with_reducible first | exact HB.out | apply zab | apply zaa | apply zac | refine zaq ?_ (IsS64.ge HI0.out)) | exact HB.out), by repeat (first | (with_reducible first | exact HK.out | apply KeepBut.set_ | apply zcb | apply zcg | apply zcc) | exact HK.out)⟩
def za2.l0 : Nat → List ByteArray → ByteArray → Int → Int → Option (Int)
  | 0, _, _, _, _ => none
  | k + 1, x0, x1, x7, x8 => if x8 < x7 then (if 0 ≤ x8 then (if x8 < (x0.length : Int) then (if x1.toList = (rdOf ByteArray.empty x0 x8).toList then (some x8) else (za2.l0 k x0 x1 x7 (wrap64 (x8 + 1)))) else (none)) else (none)) else (some (-1))
def za2.f (k : Nat) (l0 : List ByteArray) (a1 : ByteArray) : Option (Int) := za2.l0 k l0 a1 (l0.length : Int) 0
set_option maxHeartbeats 8000000 in
set_option maxRecDepth 100000 in
theorem za2.calls (k : Nat) (A0 : Option Addr) (c0 : Nat) (l0 : List ByteArray) (a1 : ByteArray) (r : Int) (w : World) (hr0 : Kd.C Kd.string w A0 l0.length l0) (hc0 : l0.length ≤ c0) (h : za2.f k l0 a1 = some r) :
 Calls Tryz.prog 45 #[.slice A0 l0.length c0, .string a1] w fun e w' => e = .returned (.int .i64 r) ∧ Drawn0 w w' := by
 have HR0 := zad.mk hr0
 have HC0 := zad.mk hc0
 clear hr0 hc0
 have H : (za2.l0 k l0 a1 (l0.length : Int) 0) = some r := h
 clear h
 have H' := zad.mk H
 clear H
 go_enter Tryz.func45, Tryz.ntmps45
 go_wp2
 go_loopg [8] k (fun kq v8 w' => ∃ (x8_1 : Int), v8 = .int .i64 x8_1 ∧ zad (za2.l0 kq l0 a1 (l0.length : Int) x8_1 = some r) ∧ zad (kq ≤ k) ∧ Drawn0 w w')
 case atStart => exact ⟨(0), (by first | rfl | (simp; done) | (simp [*]; done)), H', ⟨Nat.le_refl _⟩, by repeat (first | exact Drawn0.refl _ | apply Drawn0.step)⟩
 case round =>
  clear H'
  try clear p2
  obtain ⟨x8_1, rfl, HA, HK1, ⟨m1, rfl⟩⟩ := hrel
  cases gk with
  | zero => exact absurd HA.out (by simp [za2.l0])
  | succ k1 =>
   have H := HA.out
   clear HA
   simp only [za2.l0] at H
   by_cases c3 : x8_1 < (l0.length : Int)
   ·rw [if_pos c3] at H
    have c3b0 : decide (x8_1 < (l0.length : Int)) = true := decide_eq_true c3
    clear c3
    by_cases c4 : 0 ≤ x8_1
    ·rw [if_pos c4] at H
     have c4b0 : decide (0 ≤ x8_1) = true := decide_eq_true c4
     clear c4
     by_cases c5 : x8_1 < (l0.length : Int)
     ·rw [if_pos c5] at H
      have c5b0 : decide (x8_1 < (l0.length : Int)) = true := decide_eq_true c5
      clear c5
      by_cases c6 : a1.toList = (rdOf ByteArray.empty l0 x8_1).toList
      ·rw [if_pos c6] at H
       have c6b0 : (a1.toList == (rdOf ByteArray.empty l0 x8_1).toList) = true := beq_iff_eq.mpr c6
       have c6b1 : (a1.toList != (rdOf ByteArray.empty l0 x8_1).toList) = false := bne_eq_false_iff_eq.mpr c6
       clear c6
       obtain rfl := Option.some.inj H
       have p172 : 0 ≤ (x8_1 : Int) := of_decide_eq_true (by first | (with_reducible assumption) | assumption)
       have q172 : x8_1 < (l0.length : Int) := of_decide_eq_true (by first | (with_reducible assumption) | assumption)
       obtain ⟨ad172, e172, hx172_0⟩ := Kd.zcd HR0.out x8_1 p172 q172
       cases e172
       replace p172 := eq_true p172
       replace q172 := eq_true q172
       go_wp2
       go_ret
       exact ⟨by first | rfl | (simp; done) | (simp [*]; done), by repeat (first | exact Drawn0.refl _ | apply Drawn0.step)⟩
      ·rw [if_neg c6] at H
       have c6b0 : (a1.toList == (rdOf ByteArray.empty l0 x8_1).toList) = false := beq_eq_false_iff_ne.mpr c6
       have c6b1 : (a1.toList != (rdOf ByteArray.empty l0 x8_1).toList) = true := bne_iff_ne.mpr c6
       have H' := zad.mk H
       clear H
       have p172 : 0 ≤ (x8_1 : Int) := of_decide_eq_true (by first | (with_reducible assumption) | assumption)
       have q172 : x8_1 < (l0.length : Int) := of_decide_eq_true (by first | (with_reducible assumption) | assumption)
       obtain ⟨ad172, e172, hx172_0⟩ := Kd.zcd HR0.out x8_1 p172 q172
       cases e172
       replace p172 := eq_true p172
       replace q172 := eq_true q172
       go_wp2
       go_roundg k1
       case measure => have := HK1.out; omega
       case rel => exact ⟨(wrap64 (x8_1 + 1)), (by first | rfl | (simp; done) | (simp [*]; done)), H', ⟨by have := HK1.out; omega⟩, by repeat (first | exact Drawn0.refl _ | apply Drawn0.step)⟩
     ·rw [if_neg c5] at H
      exact absurd H (by simp)
    ·rw [if_neg c4] at H
     exact absurd H (by simp)
   ·rw [if_neg c3] at H
    have c3b0 : decide (x8_1 < (l0.length : Int)) = false := decide_eq_false c3
    clear c3
    obtain rfl := Option.some.inj H
    go_wp2
    go_ret
    exact ⟨by first | rfl | (simp; done) | (simp [*]; done), by repeat (first | exact Drawn0.refl _ | apply Drawn0.step)⟩
def zck.f (a0 : Int) : Option (Int) := if a0 = 7 then (some 6) else (if a0 ≤ 9 then (some 5) else (if a0 ≤ 11 then (some 4) else (if a0 ≤ 17 then (some 3) else (if a0 = 18 then (some 2) else (some 1)))))
set_option maxHeartbeats 8000000 in
set_option maxRecDepth 100000 in
theorem zck.calls (a0 : Int) (r : Int) (w : World) (h : zck.f a0 = some r) :
    Calls Tryz.prog 47 #[.int .u8 a0] w fun e w' => e = .returned (.int .i64 r) ∧ Drawn0 w w' := by
  have H : (if a0 = 7 then (some 6) else (if a0 ≤ 9 then (some 5) else (if a0 ≤ 11 then (some 4) else (if a0 ≤ 17 then (some 3) else (if a0 = 18 then (some 2) else (some 1)))))) = some r := h
  clear h
  by_cases c2 : a0 = 7
  · rw [if_pos c2] at H
    have c2b0 : (a0 == 7) = true := beq_iff_eq.mpr c2
    have c2b1 : (a0 != 7) = false := bne_eq_false_iff_eq.mpr c2
    clear c2
    obtain rfl := Option.some.inj H
    go_enter Tryz.func47, Tryz.ntmps47
    go_wp2
    go_ret
    exact ⟨by first | rfl | (simp; done) | (simp [*]; done), by repeat (first | exact Drawn0.refl _ | apply Drawn0.step)⟩
  · rw [if_neg c2] at H
    have c2b0 : (a0 == 7) = false := beq_eq_false_iff_ne.mpr c2
    have c2b1 : (a0 != 7) = true := bne_iff_ne.mpr c2
    by_cases c3 : a0 ≤ 9
    · rw [if_pos c3] at H
      have c3b0 : decide (a0 ≤ 9) = true := decide_eq_true c3
      clear c3
      obtain rfl := Option.some.inj H
      go_enter Tryz.func47, Tryz.ntmps47
      go_wp2
      go_ret
      exact ⟨by first | rfl | (simp; done) | (simp [*]; done), by repeat (first | exact Drawn0.refl _ | apply Drawn0.step)⟩
    · rw [if_neg c3] at H
      have c3b0 : decide (a0 ≤ 9) = false := decide_eq_false c3
      clear c3
      by_cases c4 : a0 ≤ 11
      · rw [if_pos c4] at H
        have c4b0 : decide (a0 ≤ 11) = true := decide_eq_true c4
        clear c4
        obtain rfl := Option.some.inj H
        go_enter Tryz.func47, Tryz.ntmps47
        go_wp2
        go_ret
        exact ⟨by first | rfl | (simp; done) | (simp [*]; done), by repeat (first | exact Drawn0.refl _ | apply Drawn0.step)⟩
      · rw [if_neg c4] at H
        have c4b0 : decide (a0 ≤ 11) = false := decide_eq_false c4
        clear c4
        by_cases c5 : a0 ≤ 17
        · rw [if_pos c5] at H
          have c5b0 : decide (a0 ≤ 17) = true := decide_eq_true c5
          clear c5
          obtain rfl := Option.some.inj H
          go_enter Tryz.func47, Tryz.ntmps47
          go_wp2
          go_ret
          exact ⟨by first | rfl | (simp; done) | (simp [*]; done), by repeat (first | exact Drawn0.refl _ | apply Drawn0.step)⟩
        · rw [if_neg c5] at H
          have c5b0 : decide (a0 ≤ 17) = false := decide_eq_false c5
          clear c5
          by_cases c6 : a0 = 18
          · rw [if_pos c6] at H
            have c6b0 : (a0 == 18) = true := beq_iff_eq.mpr c6
            have c6b1 : (a0 != 18) = false := bne_eq_false_iff_eq.mpr c6
            clear c6
            obtain rfl := Option.some.inj H
            go_enter Tryz.func47, Tryz.ntmps47
            go_wp2
            go_ret
            exact ⟨by first | rfl | (simp; done) | (simp [*]; done), by repeat (first | exact Drawn0.refl _ | apply Drawn0.step)⟩
          · rw [if_neg c6] at H
            have c6b0 : (a0 == 18) = false := beq_eq_false_iff_ne.mpr c6
            have c6b1 : (a0 != 18) = true := bne_iff_ne.mpr c6
            obtain rfl := Option.some.inj H
            go_enter Tryz.func47, Tryz.ntmps47
            go_wp2
            go_ret
            exact ⟨by first | rfl | (simp; done) | (simp [*]; done), by repeat (first | exact Drawn0.refl _ | apply Drawn0.step)⟩
end Go.Proofs.YtgmmngipnjmkfaaGreatDoor.Q
end
section
namespace Go.Proofs.YtgmmngipnjmkfaaGreatDoor
open Go.Shelf
def Tryz.laysM173_ren : Go.Shelf.Ren := ⟨fun | 173 => 65 | 246 => 88 | 283 => 103 | 284 => 104 | 285 => 105 | 286 => 106 | 129 => 117 | 317 => 116 | 318 => 118 | 319 => 119 | 320 => 120 | 337 => 125 | 338 => 126 | n => n, fun | 2 => 2 | 3 => 3 | 9 => 9 | 4 => 4 | 171 => 154 | 0 => 0 | 53 => 139 | 37 => 109 | 5 => 5 | 173 => 157 | 212 => 180 | 51 => 146 | 20 => 20 | 213 => 181 | 46 => 142 | 232 => 191 | 233 => 192 | n => n, fun | 17 => 7 | 18 => 8 | 19 => 9 | n => n⟩
theorem Tryz.laysM173 : Go.Proofs.LaysM.n173 Tryz.prog Tryz.laysM173_ren := {
  mixed := by kernel_rfl
  f129 := Tryz.func117.trans (congrArg some (by kernel_rfl))
  f173 := Tryz.func65.trans (congrArg some (by kernel_rfl))
  f246 := Tryz.func88.trans (congrArg some (by kernel_rfl))
  f283 := Tryz.func103.trans (congrArg some (by kernel_rfl))
  f284 := Tryz.func104.trans (congrArg some (by kernel_rfl))
  f285 := Tryz.func105.trans (congrArg some (by kernel_rfl))
  f286 := Tryz.func106.trans (congrArg some (by kernel_rfl))
  f317 := Tryz.func116.trans (congrArg some (by kernel_rfl))
  f318 := Tryz.func118.trans (congrArg some (by kernel_rfl))
  f319 := Tryz.func119.trans (congrArg some (by kernel_rfl))
  f320 := Tryz.func120.trans (congrArg some (by kernel_rfl))
  f337 := Tryz.func125.trans (congrArg some (by kernel_rfl))
  f338 := Tryz.func126.trans (congrArg some (by kernel_rfl))
  t0 := Tryz.underlying0
  a0 := Tryz.isAgg0
  z0 := Tryz.sizeOf0
  v0 := Tryz.zeroValue0
  t2 := Tryz.underlying2
  a2 := Tryz.isAgg2
  z2 := Tryz.sizeOf2
  v2 := Tryz.zeroValue2
  t3 := Tryz.underlying3
  a3 := Tryz.isAgg3
  z3 := Tryz.sizeOf3
  v3 := Tryz.zeroValue3
  t4 := Tryz.underlying4
  a4 := Tryz.isAgg4
  z4 := Tryz.sizeOf4
  v4 := Tryz.zeroValue4
  t5 := Tryz.underlying5
  a5 := Tryz.isAgg5
  z5 := Tryz.sizeOf5
  v5 := Tryz.zeroValue5
  t9 := Tryz.underlying9
  a9 := Tryz.isAgg9
  z9 := Tryz.sizeOf9
  v9 := Tryz.zeroValue9
  t20 := Tryz.underlying20
  a20 := Tryz.isAgg20
  z20 := Tryz.sizeOf20
  v20 := Tryz.zeroValue20
  t37 := Tryz.underlying109
  a37 := Tryz.isAgg109
  z37 := Tryz.sizeOf109
  v37 := Tryz.zeroValue109
  t46 := Tryz.underlying142
  a46 := Tryz.isAgg142
  z46 := Tryz.sizeOf142
  v46 := Tryz.zeroValue142
  t51 := Tryz.underlying146
  a51 := Tryz.isAgg146
  z51 := Tryz.sizeOf146
  v51 := Tryz.zeroValue146
  t53 := Tryz.underlying139
  a53 := Tryz.isAgg139
  z53 := Tryz.sizeOf139
  v53 := Tryz.zeroValue139
  t171 := Tryz.underlying154
  a171 := Tryz.isAgg154
  z171 := Tryz.sizeOf154
  v171 := Tryz.zeroValue154
  t173 := Tryz.underlying157
  a173 := Tryz.isAgg157
  z173 := Tryz.sizeOf157
  v173 := Tryz.zeroValue157
  t212 := Tryz.underlying180
  a212 := Tryz.isAgg180
  z212 := Tryz.sizeOf180
  v212 := Tryz.zeroValue180
  t213 := Tryz.underlying181
  a213 := Tryz.isAgg181
  z213 := Tryz.sizeOf181
  t232 := Tryz.underlying191
  a232 := Tryz.isAgg191
  z232 := Tryz.sizeOf191
  v232 := Tryz.zeroValue191
  t233 := Tryz.underlying192
  a233 := Tryz.isAgg192
  z233 := Tryz.sizeOf192
  v233 := Tryz.zeroValue192
  g17 := by kernel_rfl
  g18 := by kernel_rfl
  g19 := by kernel_rfl
  i0 := by kernel_rfl
  i2 := by kernel_rfl
  i3 := by kernel_rfl
  i4 := by kernel_rfl
  i5 := by kernel_rfl
  i9 := by kernel_rfl
  i20 := by kernel_rfl
  i37 := by kernel_rfl
  i46 := by kernel_rfl
  i51 := by kernel_rfl
  i53 := by kernel_rfl
  i171 := by kernel_rfl
  i173 := by kernel_rfl
  i212 := by kernel_rfl
  i232 := by kernel_rfl
  i233 := by kernel_rfl
  m17 := by kernel_rfl
  m18 := by kernel_rfl
  m19 := by kernel_rfl }
open Go.RowKit Go.Sort Go.Lib in
theorem Tryz.strconv_FormatInt_10 (n : Int) (h0 : -9223372036854775808 ≤ n) (h1 : n ≤ 9223372036854775807) (w : World) (htab : Lib.TabIs Tryz.prog w "internal/strconv.uint64pow10" .u64 Lib.pow10Tab) :
    Calls Tryz.prog 65 #[.int .i64 n, .int .i64 10] w fun e w' => e = .returned (.string ⟨(Lib.itoa n).toArray⟩) ∧ ∃ k os, w' = grow (w.drewN k) os := Any.strconv_FormatInt_10 Tryz.laysM173 n h0 h1 w htab
end Go.Proofs.YtgmmngipnjmkfaaGreatDoor
end
section
namespace Go.Proofs.YtgmmngipnjmkfaaGreatDoor.Hand
open Go.RowKit Go.Sort Go.Lib
def fmtI (n : Int) : ByteArray := ⟨(Lib.itoa n).toArray⟩
theorem grow_below (w : World) (k : Nat) (os : Array Obj) : Below w.heap.size w (grow (w.drewN k) os) :=
  ⟨rfl, rfl, rfl, by simp [grow], fun i hi => by
    show (w.heap ++ os)[i]? = w.heap[i]?
    rw [Array.getElem?_append_left hi]⟩
theorem format_any (n : Int) (h0 : -9223372036854775808 ≤ n) (h1 : n ≤ 9223372036854775807) (w : World) (hT : Tabs w) :
    Calls Tryz.prog 65 #[.int .i64 n, .int .i64 10] w fun e w' => e = .returned (.string (fmtI n)) ∧ Below w.heap.size w w' :=
  (Tryz.strconv_FormatInt_10 n h0 h1 w hT.pow).mono fun _ _ ⟨he, k, os, hw⟩ => ⟨he, by rw [hw]; exact grow_below w k os⟩
end Go.Proofs.YtgmmngipnjmkfaaGreatDoor.Hand
end
