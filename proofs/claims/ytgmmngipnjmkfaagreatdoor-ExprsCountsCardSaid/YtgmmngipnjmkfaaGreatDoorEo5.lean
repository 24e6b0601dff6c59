/- Lemmas of the proof (cut to what it uses, by wip/trim.py). -/
import Derived.Test.YtgmmngipnjmkfaaGreatDoorEo4
section
namespace Go.Proofs.YtgmmngipnjmkfaaGreatDoor.Hand
open Go.RowKit Go.Proofs.YtgmmngipnjmkfaaGreatDoorW.PrintWords Go.Proofs.YtgmmngipnjmkfaaGreatDoorW.PrintLast Go.Proofs.YtgmmngipnjmkfaaGreatDoorW.PrintMore Go.Proofs.YtgmmngipnjmkfaaGreatDoor.Q Go.Proofs.YtgmmngipnjmkfaaGreatDoor.Pure
theorem max2_int' (k k' : IntKind) (x y : Int) : Builtin.max2 (.int k x) (.int k' y) = pure (.int k (max2 x y)) := by simp only [Builtin.max2, gt_iff_lt, max2]
theorem min2_int' (k k' : IntKind) (x y : Int) : Builtin.min2 (.int k x) (.int k' y) = pure (.int k (min2 x y)) := by simp only [Builtin.min2, min2]
attribute [local go_sem] max2_int' min2_int' zdm zdn
structure StInv (k : Nat) (st : List Tp) : Prop where
  sum : (st.map (·.f1)).sum ≤ (k : Int)
  each : ∀ p ∈ st, 0 ≤ p.f0 ∧ p.f0 ≤ k ∧ 1 ≤ p.f1 ∧ 1 ≤ p.f2 ∧ p.f2 ≤ k
theorem sum_pos : ∀ (st : List Tp), (∀ p ∈ st, 1 ≤ p.f1) → (st.length : Int) ≤ (st.map (·.f1)).sum
  | [], _ => by simp
  | p :: r, h => by
    have h1 := h p (by simp)
    have h2 := sum_pos r (fun q hq => h q (by simp [hq]))
    simp only [List.map_cons, List.sum_cons, List.length_cons]; omega
theorem StInv.len {k : Nat} {st : List Tp} (h : StInv k st) : st.length ≤ k := by
  have := sum_pos st (fun p hp => (h.each p hp).2.2.1)
  have := h.sum
  omega
theorem StInv.part {k : Nat} {st : List Tp} (h : StInv k st) : ∀ p ∈ st, p.f1 ≤ k := by
  obtain ⟨hs, he⟩ := h
  intro p hp
  obtain ⟨a, b, rfl⟩ := List.append_of_mem hp
  have h1 := sum_pos a (fun q hq => (he q (by simp [hq])).2.2.1)
  have h2 := sum_pos b (fun q hq => (he q (by simp [hq])).2.2.1)
  simp only [List.map_append, List.sum_append, List.map_cons, List.sum_cons] at hs
  omega
theorem StInv.zero : StInv 0 [] := ⟨by simp, by simp⟩
theorem StInv.push0 {k : Nat} {st : List Tp} (h : StInv k st) : StInv (k + 1) (st ++ [topOf (k : Int) []]) := by
  refine ⟨?_, fun p hp => ?_⟩
  · have := h.sum
    simp only [List.map_append, List.sum_append, topOf, List.foldl, List.map_cons, List.map_nil, List.sum_cons, List.sum_nil]; omega
  · rcases List.mem_append.1 hp with hp | hp
    · have := h.each p hp; omega
    · rw [List.mem_singleton.1 hp]; simp only [topOf, List.foldl]; omega
theorem StInv.push1 {k : Nat} {st : List Tp} {p : Tp} (h : StInv k (st ++ [p])) : StInv (k + 1) (st ++ [topOf (k : Int) [p]]) := by
  obtain ⟨hs, he⟩ := h
  have hp := he p (by simp)
  simp only [List.map_append, List.sum_append, List.map_cons, List.map_nil, List.sum_cons, List.sum_nil] at hs
  refine ⟨?_, fun q hq => ?_⟩
  · simp only [List.map_append, List.sum_append, topOf, List.foldl, addP, List.map_cons, List.map_nil, List.sum_cons, List.sum_nil]; omega
  · rcases List.mem_append.1 hq with hq | hq
    · have := he q (by simp [hq]); omega
    · have h0 := sum_pos st (fun q hq => (he q (by simp [hq])).2.2.1)
      rw [List.mem_singleton.1 hq]; simp only [topOf, List.foldl, addP, max2_eq]; omega
theorem StInv.push2 {k : Nat} {st : List Tp} {p q : Tp} (h : StInv k (st ++ [p] ++ [q])) : StInv (k + 1) (st ++ [topOf (k : Int) [p, q]]) := by
  obtain ⟨hs, he⟩ := h
  have hp := he p (by simp)
  have hq := he q (by simp)
  simp only [List.map_append, List.sum_append, List.map_cons, List.map_nil, List.sum_cons, List.sum_nil] at hs
  refine ⟨?_, fun r hr => ?_⟩
  · simp only [List.map_append, List.sum_append, topOf, List.foldl, addP, List.map_cons, List.map_nil, List.sum_cons, List.sum_nil]; omega
  · rcases List.mem_append.1 hr with hr | hr
    · have := he r (by simp [hr]); omega
    · have h0 := sum_pos st (fun q hq => (he q (by simp [hq])).2.2.1)
      rw [List.mem_singleton.1 hr]; simp only [topOf, List.foldl, addP, max2_eq]; omega
theorem zco {wr W : World} {e : Nat} {ok : Nat → Prop} {u : Value} {ys : List Tp} {base : Nat} (h : Kd.R k94 e wr base ok u ys) (hs : wr.heap.size ≤ W.heap.size) : ∀ k, W.heap.size ≤ k → True ∧ some k ≠ u.ownBlock :=
  fun k hk => ⟨trivial, fun he => by have := Kd.R_lt h k he.symm; omega⟩
theorem new_at {W : World} {o : Obj} {g : Nat} (h : W.heap.size = g) : (W.alloc o).heap[g]? = some o := by subst h; exact heap_alloc_new W o
theorem eqA_nd (d : Nat) (w : World) (x0 y0 : Int) (x1 y1 : Int) (x2 y2 : Int) (x3 y3 : Int) (x4 y4 : Int) :
    (Op.equalIn (d + 2) 43 (.agg #[.int .u8 x0, .int .i64 x1, .int .i64 x2, .int .i64 x3, .int .i64 x4]) (.agg #[.int .u8 y0, .int .i64 y1, .int .i64 y2, .int .i64 y3, .int .i64 y4])).run Tryz.prog w = .ok (x0 == y0 && (x1 == y1 && (x2 == y2 && (x3 == y3 && (x4 == y4))))) w := by
  refine eqA_of Tryz.underlying43 (by kernel_rfl) ?_
  refine zdu (by rfl) (by go_simp; rfl) (by go_simp; rfl) (by go_simp) ?_
  refine zdu (by rfl) (by go_simp; rfl) (by go_simp; rfl) (by go_simp) ?_
  refine zdu (by rfl) (by go_simp; rfl) (by go_simp; rfl) (by go_simp) ?_
  refine zdu (by rfl) (by go_simp; rfl) (by go_simp; rfl) (by go_simp) ?_
  exact eqf_last (by rfl) (by go_simp; rfl) (by go_simp; rfl) (by go_simp)
theorem neq_any (x : Nd) (n a b p : Int) (W : World) (r : Bool) (h : (x.f0 == x.f0 && (n == x.f1 && (a == x.f2 && (b == x.f3 && (p == x.f4))))) = !r) :
    (binOp .neq 43 (.agg #[.int .u8 x.f0, .int .i64 n, .int .i64 a, .int .i64 b, .int .i64 p]) (.agg #[.int .u8 x.f0, .int .i64 x.f1, .int .i64 x.f2, .int .i64 x.f3, .int .i64 x.f4])).run Tryz.prog W = .ok (.bool r) W := by
  have he := eqA_nd 9998 W x.f0 x.f0 n x.f1 a x.f2 b x.f3 p x.f4
  rw [h] at he
  simp only [binOp]
  simp only [Op.equal, Op.maxDepth]
  simp [he]
theorem neq_nd' (x : Nd) (n a b p : Int) (W : World) (r : Bool) (h : ¬ (x.f1 = n ∧ x.f2 = a ∧ x.f3 = b ∧ x.f4 = p)) (hr : r = true) :
    (binOp .neq 43 (.agg #[.int .u8 x.f0, .int .i64 n, .int .i64 a, .int .i64 b, .int .i64 p]) (.agg #[.int .u8 x.f0, .int .i64 x.f1, .int .i64 x.f2, .int .i64 x.f3, .int .i64 x.f4])).run Tryz.prog W = .ok (.bool r) W := by
  subst hr
  refine neq_any x n a b p W true ?_
  rw [Bool.not_true, Bool.eq_false_iff]
  intro h2
  simp only [Bool.and_eq_true, beq_iff_eq, true_and] at h2
  exact h ⟨h2.1.symm, h2.2.1.symm, h2.2.2.1.symm, h2.2.2.2.symm⟩
theorem neq_nd (x : Nd) (n a b p : Int) (W : World) (r : Bool) (h : x.f1 = n ∧ x.f2 = a ∧ x.f3 = b ∧ x.f4 = p) (hr : r = false) :
    (binOp .neq 43 (.agg #[.int .u8 x.f0, .int .i64 n, .int .i64 a, .int .i64 b, .int .i64 p]) (.agg #[.int .u8 x.f0, .int .i64 x.f1, .int .i64 x.f2, .int .i64 x.f3, .int .i64 x.f4])).run Tryz.prog W = .ok (.bool r) W := by
  subst hr
  refine neq_any x n a b p W false ?_
  rw [h.1, h.2.1, h.2.2.1, h.2.2.2]; simp
def topsPost (l0 : List Nd) (w : World) (e : Ending) (w' : World) : Prop :=
  ∃ v0_ : Value, e = .returned (.tuple #[v0_, .bool (tloop l0 0 [] []).2]) ∧ Kd.R k94 94 w' w.heap.size (fun _ => True) v0_ (tloop l0 0 [] []).1 ∧ Below w.heap.size w w'
set_option maxRecDepth 100000 in
set_option maxHeartbeats 8000000 in
theorem tops_any (A0 : Option Addr) (c0 : Nat) (l0 : List Nd) (w : World) (hr0 : Kd.C k43 w A0 l0.length l0) (hl : l0.length ≤ 1000000) :
    Calls Tryz.prog 53 #[.slice A0 l0.length c0] w (topsPost l0 w) := by
  have HR := zad.mk hr0
  have HL := zad.mk hl
  clear hr0 hl
  go_enter Tryz.func53, Tryz.ntmps53
  go_wp2
  go_loopw [4, 5, 17] (fun va vs vi wr => ∃ (k : Nat) (st all : List Tp), vi = .int .i64 (k : Int) ∧ zad (k ≤ l0.length) ∧ zad (tloop (l0.drop k) k st all = tloop l0 0 [] []) ∧ zad (StInv k st) ∧ zad (all.length = k) ∧
      zad (Kd.R k94 94 wr w.heap.size (fun b => True ∧ some b ≠ va.ownBlock) vs st) ∧ zad (Kd.R k94 94 wr w.heap.size (fun b => True ∧ some b ≠ vs.ownBlock) va all) ∧ zad (Below w.heap.size w wr))
    (fun _ _ vi _ => l0.length - (intOf vi).toNat)
  case atStart => exact ⟨0, [], [], rfl, ⟨Nat.zero_le _⟩, ⟨by rw [List.drop_zero]; rfl⟩, ⟨StInv.zero⟩, ⟨rfl⟩, ⟨Kd.R_nil _ _ _ _ _⟩, ⟨Kd.R_nil _ _ _ _ _⟩, ⟨Below.refl _ _⟩⟩
  case round =>
    obtain ⟨k, st, all, rfl, HK, HT, HI, HA, HS, HQ, HB⟩ := hrel
    by_cases hlt : k < l0.length
    · obtain ⟨ad, ead, hx0, hx1, hx2, hx3, hx4⟩ := at_T43 HR.out (k : Int) (by omega) (by omega)
      cases ead
      have hlti : decide ((k : Int) < (l0.length : Int)) = true := decide_eq_true (by omega)
      simp only [Int.toNat_natCast] at hx0 hx1 hx2 hx3 hx4
      replace hx0 := (HB.out.cell (World.block_lt_of_cell? w _ hx0)).trans hx0
      replace hx1 := (HB.out.cell (World.block_lt_of_cell? w _ hx1)).trans hx1
      replace hx2 := (HB.out.cell (World.block_lt_of_cell? w _ hx2)).trans hx2
      replace hx3 := (HB.out.cell (World.block_lt_of_cell? w _ hx3)).trans hx3
      replace hx4 := (HB.out.cell (World.block_lt_of_cell? w _ hx4)).trans hx4
      obtain ⟨x, hx⟩ : ∃ x : Nd, x = zbf l0 (k : Int) := ⟨_, rfl⟩
      rw [← hx] at hx0 hx1 hx2 hx3 hx4
      have HX := zad.mk hx
      clear hx
      have HC : zad (l0.drop k = x :: l0.drop (k + 1)) := ⟨by
        rw [List.drop_eq_getElem_cons hlt, HX.out]
        congr 1
        unfold zbf
        rw [Int.toNat_natCast, List.getD_eq_getElem?_getD, List.getElem?_eq_getElem hlt, Option.getD_some]⟩
      have HT2 : zad (tloop (x :: l0.drop (k + 1)) k st all = tloop l0 0 [] []) := ⟨by rw [← HC.out]; exact HT.out⟩
      have HK2 : zad (k + 1 ≤ l0.length) := ⟨hlt⟩
      have hkb : (k : Int) ≤ 1000000 := by have := HL.out; omega
      have hk0 : (0 : Int) ≤ (k : Int) := by omega
      clear HT HC HX
      by_cases hk : kdOk x.f0
      · obtain ⟨A5, c5, e5⟩ := Kd.zbk HS.out
        subst e5
        obtain ⟨hk1, hk2⟩ := hk
        have HSR := zad.mk (Kd.zbg HS.out)
        have hl5 : st.length ≤ 1000000 := by have := HI.out.len; have := HL.out; omega
        rcases (show x.f0 ≤ 4 ∨ (5 ≤ x.f0 ∧ x.f0 ≤ 6) ∨ 7 ≤ x.f0 by omega) with hq | hq | hq
        · have hpop : ∀ W, ∃ B, Calls Tryz.prog 68 #[.slice A5 st.length c5, .int .i64 0] W (popPost A5 B st.length 0 c5 (c5 - st.length) W) := fun W => ⟨_, pop_any A5 st.length c5 0 W (Nat.zero_le _) HSR.out.2.1 hl5⟩
          obtain ⟨B, hB⟩ : ∃ B, B = (if c5 = st.length - 0 then A5 else A5.map (·.add ((st.length - 0) * 3))) := ⟨_, rfl⟩
          clear hpop
          have HP := zad.mk (fun W => hB ▸ pop_any A5 st.length c5 0 W (Nat.zero_le _) HSR.out.2.1 hl5 : ∀ W, Calls Tryz.prog 68 #[.slice A5 st.length c5, .int .i64 0] W (popPost A5 B st.length 0 c5 (c5 - st.length) W))
          clear hB
          have hge0 : decide ((0 : Int) > (st.length : Int)) = false := decide_eq_false (by omega)
          have hge1 : decide ((st.length : Int) < 0) = false := decide_eq_false (by omega)
          obtain ⟨ps, hps⟩ : ∃ ps : List Tp, ps = [] := ⟨_, rfl⟩
          have HPS := zad.mk hps
          obtain ⟨st2, hst2⟩ : ∃ st2 : List Tp, st2 = st := ⟨_, rfl⟩
          obtain ⟨tnew, htn⟩ : ∃ t : Tp, t = topOf (k : Int) [] := ⟨_, rfl⟩
          have HI2 : zad (StInv (k + 1) (st2 ++ [tnew])) := ⟨by rw [hst2, htn]; exact HI.out.push0⟩
          have HTS : zad (tloop (x :: l0.drop (k + 1)) k st all = if ownB x ps = true then tloop (l0.drop (k + 1)) (k + 1) (st2 ++ [tnew]) (all ++ [tnew]) else (all, false)) := ⟨by simp only [tloop]; rw [if_pos ⟨⟨hk1, hk2⟩, by rw [cnt_leaf hq]; omega⟩, cnt_leaf hq, Nat.sub_zero, List.drop_length, List.take_length, hst2, htn, hps]⟩
          have HS2' : zad (Kd.R k94 94 wr w.heap.size (fun b => True ∧ some b ≠ u4.ownBlock) (.slice A5 st.length c5) st2) := ⟨by rw [hst2]; exact HS.out⟩
          have HL2 : zad (st2.length ≤ 1000000) := ⟨by rw [hst2]; exact hl5⟩
          have HN := zad.mk (htn.trans (show topOf (k : Int) [] = (⟨(k : Int), 1, 1⟩ : Tp) from rfl))
          clear hps hst2 htn HS
          have HS0 := HS2'
          clear HS2'
          by_cases hf1 : x.f0 = 1
          · have hb1 : (x.f0 == 1) = true := beq_iff_eq.2 hf1
            have HF1 := zad.mk hf1
            clear hf1
            by_cases ho : ownB x ps = true
            · have hneq : ∀ W, (binOp .neq 43 (.agg #[.int .u8 x.f0, .int .i64 (max2 x.f1 0), .int .i64 0, .int .i64 0, .int .i64 (min2 (max2 x.f4 0) 400)]) (.agg #[.int .u8 x.f0, .int .i64 x.f1, .int .i64 x.f2, .int .i64 x.f3, .int .i64 x.f4])).run Tryz.prog W = .ok (.bool false) W := fun W => neq_nd x _ _ _ _ W false (by have := (zcy x ps).1 ho; rw [HPS.out] at this; simpa [atP, HF1.out] using this) rfl
              have HT5 : zad (tloop (x :: l0.drop (k + 1)) k st all = tloop (l0.drop (k + 1)) ((k + 1 : Nat) : Int) (st2 ++ [tnew]) (all ++ [tnew])) := ⟨by rw [HTS.out, if_pos ho]; rfl⟩
              clear ho HTS HPS HF1
              go_wp2_with (first
                | (go_at_call 36; (with_reducible refine (parts_0 _ _ hk1 hq).mono ?_); rintro e w' ⟨rfl, rfl⟩)
                | (go_at_call 68; (with_reducible refine (HP.out _).mono ?_); rintro e w' ⟨rfl, kk, rfl⟩)
                | (refine wp_loop_once ?_)
                | ((with_reducible refine zbe (b := .append) (xs := #[.tmp 92, .tmp 94]) rfl ?_); at_builtin; refine Kd.zb2 k94 (w0 := w) w.heap.size rfl (.tmp 92) (.tmp 94) 67 94 (.agg #[(.int .i64 0), (.int .i64 0), (.int .i64 0)]) 24 rfl Tryz.underlying67 infoTp rfl (by decide) (by omega) (.slice A5 st.length c5) st2 ((⟨(k : Int), 1, 1⟩ : Tp)) [.int .i64 (k : Int), .int .i64 1, .int .i64 1] (fun b => True ∧ some b ≠ u4.ownBlock) (fun _ => False) rfl (Eq.trans (b := Value.slice (some ⟨wr.heap.size + 1 + 1 + 1, 0, none⟩) 1 1) rfl (by simp)) ?aP (fun _ hk => hk.elim) ?aF ?aO ?aB ?aS ?aL ?_; (case aP => exact zcn _ _ _ ((⟨(k : Int), 1, 1⟩ : Tp))); (case aB => exact (by repeat (first | (with_reducible first | exact HB.out | apply zab | apply zaa | apply zac) | exact HB.out))); (case aF => exact zco HQ.out (by simp <;> omega)); (case aO => (with_reducible repeat (first | apply Kd.zav | apply Kd.za1 | apply Kd.za9)); exact HS0.out); (case aS => exact zao (by repeat (first | (with_reducible first | exact HB.out | apply zab | apply zaa | apply zac) | exact HB.out))); (case aL => have := HL2.out; omega); intro v1 w1 ho hb hg hat; have HQ1 := zad.mk (Kd.zch (by (with_reducible repeat (first | apply Kd.zav | apply Kd.za1 | apply Kd.za9)); exact HQ.out) hg hat); have HG := zad.mk (zb9 (g := wr.heap.size + 1 + 1) (o := .cells #[.int .i64 (k : Int), .int .i64 1, .int .i64 1] 94 (0, 0)) (new_at (by simp)) hg (fun e => by have := Kd.R_lt HS0.out _ e.symm; omega)); clear HQ HB; have HS1 := zad.mk ho; have HB := zad.mk hb; clear ho hb hg hat; have hT0 : w1.cell? ⟨wr.heap.size + 1 + 1, 0, none⟩ = some (.int .i64 (k : Int)) := (zal HG.out 0).trans rfl; have hT1 : w1.cell? ⟨wr.heap.size + 1 + 1, 1, none⟩ = some (.int .i64 1) := (zal HG.out 1).trans rfl; have hT2 : w1.cell? ⟨wr.heap.size + 1 + 1, 2, none⟩ = some (.int .i64 1) := (zal HG.out 2).trans rfl)
                | ((with_reducible refine zbe (b := .append) (xs := #[.tmp 96, .tmp 98]) rfl ?_); at_builtin; refine Kd.zb2 k94 (w0 := w) w.heap.size rfl (.tmp 96) (.tmp 98) 67 94 (.agg #[(.int .i64 0), (.int .i64 0), (.int .i64 0)]) 24 rfl Tryz.underlying67 infoTp rfl (by decide) (by omega) u4 all ((⟨(k : Int), 1, 1⟩ : Tp)) [.int .i64 (k : Int), .int .i64 1, .int .i64 1] (fun b => True ∧ some b ≠ v1.ownBlock) (fun _ => False) rfl rfl ?aP (fun _ hk => hk.elim) ?aF ?aO ?aB ?aS ?aL ?_; (case aP => exact zcn _ _ _ ((⟨(k : Int), 1, 1⟩ : Tp))); (case aB => exact (by repeat (first | (with_reducible first | exact HB.out | apply zab | apply zaa | apply zac) | exact HB.out))); (case aF => exact zco HS1.out (Nat.le_refl _)); (case aO => exact HQ1.out); (case aS => exact zao (by repeat (first | (with_reducible first | exact HB.out | apply zab | apply zaa | apply zac) | exact HB.out))); (case aL => have := HA.out; have := HL.out; omega); intro v2 w2 ho hb hg hat; have HS2 := zad.mk (Kd.zch HS1.out hg hat); clear HB; have HQ2 := zad.mk ho; have HB := zad.mk hb; clear ho hb hg hat))
              go_roundw
              case rel => exact ⟨k + 1, st2 ++ [tnew], all ++ [tnew], by go_num, HK2, ⟨by rw [← HT2.out]; exact HT5.out.symm⟩, HI2, ⟨by rw [List.length_append, HA.out]; rfl⟩, ⟨by rw [HN.out]; exact HS2.out⟩, ⟨by rw [HN.out]; exact HQ2.out⟩, ⟨HB.out⟩⟩
              case measure => have := HK2.out; simp [intOf]; omega
            · have hneq : ∀ W, (binOp .neq 43 (.agg #[.int .u8 x.f0, .int .i64 (max2 x.f1 0), .int .i64 0, .int .i64 0, .int .i64 (min2 (max2 x.f4 0) 400)]) (.agg #[.int .u8 x.f0, .int .i64 x.f1, .int .i64 x.f2, .int .i64 x.f3, .int .i64 x.f4])).run Tryz.prog W = .ok (.bool true) W := fun W => neq_nd' x _ _ _ _ W true (fun h => ho ((zcy x ps).2 (by rw [HPS.out]; simpa [atP, HF1.out] using h))) rfl
              have HT3 : zad (tloop l0 0 [] [] = (all, false)) := ⟨by rw [← HT2.out, HTS.out, if_neg ho]⟩
              clear ho HTS HPS HF1
              go_wp2_with (first
                | (go_at_call 36; (with_reducible refine (parts_0 _ _ hk1 hq).mono ?_); rintro e w' ⟨rfl, rfl⟩)
                | (go_at_call 68; (with_reducible refine (HP.out _).mono ?_); rintro e w' ⟨rfl, kk, rfl⟩)
                | (refine wp_loop_once ?_)
                | ((with_reducible refine zbe (b := .append) (xs := #[.tmp 92, .tmp 94]) rfl ?_); at_builtin; refine Kd.zb2 k94 (w0 := w) w.heap.size rfl (.tmp 92) (.tmp 94) 67 94 (.agg #[(.int .i64 0), (.int .i64 0), (.int .i64 0)]) 24 rfl Tryz.underlying67 infoTp rfl (by decide) (by omega) (.slice A5 st.length c5) st2 ((⟨(k : Int), 1, 1⟩ : Tp)) [.int .i64 (k : Int), .int .i64 1, .int .i64 1] (fun b => True ∧ some b ≠ u4.ownBlock) (fun _ => False) rfl (Eq.trans (b := Value.slice (some ⟨wr.heap.size + 1 + 1 + 1, 0, none⟩) 1 1) rfl (by simp)) ?aP (fun _ hk => hk.elim) ?aF ?aO ?aB ?aS ?aL ?_; (case aP => exact zcn _ _ _ ((⟨(k : Int), 1, 1⟩ : Tp))); (case aB => exact (by repeat (first | (with_reducible first | exact HB.out | apply zab | apply zaa | apply zac) | exact HB.out))); (case aF => exact zco HQ.out (by simp <;> omega)); (case aO => (with_reducible repeat (first | apply Kd.zav | apply Kd.za1 | apply Kd.za9)); exact HS0.out); (case aS => exact zao (by repeat (first | (with_reducible first | exact HB.out | apply zab | apply zaa | apply zac) | exact HB.out))); (case aL => have := HL2.out; omega); intro v1 w1 ho hb hg hat; have HQ1 := zad.mk (Kd.zch (by (with_reducible repeat (first | apply Kd.zav | apply Kd.za1 | apply Kd.za9)); exact HQ.out) hg hat); have HG := zad.mk (zb9 (g := wr.heap.size + 1 + 1) (o := .cells #[.int .i64 (k : Int), .int .i64 1, .int .i64 1] 94 (0, 0)) (new_at (by simp)) hg (fun e => by have := Kd.R_lt HS0.out _ e.symm; omega)); clear HQ HB; have HS1 := zad.mk ho; have HB := zad.mk hb; clear ho hb hg hat; have hT0 : w1.cell? ⟨wr.heap.size + 1 + 1, 0, none⟩ = some (.int .i64 (k : Int)) := (zal HG.out 0).trans rfl; have hT1 : w1.cell? ⟨wr.heap.size + 1 + 1, 1, none⟩ = some (.int .i64 1) := (zal HG.out 1).trans rfl; have hT2 : w1.cell? ⟨wr.heap.size + 1 + 1, 2, none⟩ = some (.int .i64 1) := (zal HG.out 2).trans rfl)
                | ((with_reducible refine zbe (b := .append) (xs := #[.tmp 96, .tmp 98]) rfl ?_); at_builtin; refine Kd.zb2 k94 (w0 := w) w.heap.size rfl (.tmp 96) (.tmp 98) 67 94 (.agg #[(.int .i64 0), (.int .i64 0), (.int .i64 0)]) 24 rfl Tryz.underlying67 infoTp rfl (by decide) (by omega) u4 all ((⟨(k : Int), 1, 1⟩ : Tp)) [.int .i64 (k : Int), .int .i64 1, .int .i64 1] (fun b => True ∧ some b ≠ v1.ownBlock) (fun _ => False) rfl rfl ?aP (fun _ hk => hk.elim) ?aF ?aO ?aB ?aS ?aL ?_; (case aP => exact zcn _ _ _ ((⟨(k : Int), 1, 1⟩ : Tp))); (case aB => exact (by repeat (first | (with_reducible first | exact HB.out | apply zab | apply zaa | apply zac) | exact HB.out))); (case aF => exact zco HS1.out (Nat.le_refl _)); (case aO => exact HQ1.out); (case aS => exact zao (by repeat (first | (with_reducible first | exact HB.out | apply zab | apply zaa | apply zac) | exact HB.out))); (case aL => have := HA.out; have := HL.out; omega); intro v2 w2 ho hb hg hat; have HS2 := zad.mk (Kd.zch HS1.out hg hat); clear HB; have HQ2 := zad.mk ho; have HB := zad.mk hb; clear ho hb hg hat))
              go_ret2
              exact ⟨_, by rw [HT3.out]; rfl, by rw [HT3.out]; exact Kd.zb0 (by (with_reducible repeat (first | apply Kd.zav | apply Kd.za1 | apply Kd.za9)); exact HQ.out) (fun _ _ => trivial), by repeat (first | (with_reducible first | exact HB.out | apply zab | apply zaa | apply zac) | exact HB.out)⟩
          · have hb1 : (x.f0 == 1) = false := beq_eq_false_iff_ne.2 hf1
            have HF1 := zad.mk (eq_false hf1)
            clear hf1
            by_cases ho : ownB x ps = true
            · have hneq : ∀ W, (binOp .neq 43 (.agg #[.int .u8 x.f0, .int .i64 0, .int .i64 0, .int .i64 0, .int .i64 (min2 (max2 x.f4 0) 400)]) (.agg #[.int .u8 x.f0, .int .i64 x.f1, .int .i64 x.f2, .int .i64 x.f3, .int .i64 x.f4])).run Tryz.prog W = .ok (.bool false) W := fun W => neq_nd x _ _ _ _ W false (by have := (zcy x ps).1 ho; rw [HPS.out] at this; simpa [atP, HF1.out] using this) rfl
              have HT5 : zad (tloop (x :: l0.drop (k + 1)) k st all = tloop (l0.drop (k + 1)) ((k + 1 : Nat) : Int) (st2 ++ [tnew]) (all ++ [tnew])) := ⟨by rw [HTS.out, if_pos ho]; rfl⟩
              clear ho HTS HPS HF1
              go_wp2_with (first
                | (go_at_call 36; (with_reducible refine (parts_0 _ _ hk1 hq).mono ?_); rintro e w' ⟨rfl, rfl⟩)
                | (go_at_call 68; (with_reducible refine (HP.out _).mono ?_); rintro e w' ⟨rfl, kk, rfl⟩)
                | (refine wp_loop_once ?_)
                | ((with_reducible refine zbe (b := .append) (xs := #[.tmp 92, .tmp 94]) rfl ?_); at_builtin; refine Kd.zb2 k94 (w0 := w) w.heap.size rfl (.tmp 92) (.tmp 94) 67 94 (.agg #[(.int .i64 0), (.int .i64 0), (.int .i64 0)]) 24 rfl Tryz.underlying67 infoTp rfl (by decide) (by omega) (.slice A5 st.length c5) st2 ((⟨(k : Int), 1, 1⟩ : Tp)) [.int .i64 (k : Int), .int .i64 1, .int .i64 1] (fun b => True ∧ some b ≠ u4.ownBlock) (fun _ => False) rfl (Eq.trans (b := Value.slice (some ⟨wr.heap.size + 1 + 1 + 1, 0, none⟩) 1 1) rfl (by simp)) ?aP (fun _ hk => hk.elim) ?aF ?aO ?aB ?aS ?aL ?_; (case aP => exact zcn _ _ _ ((⟨(k : Int), 1, 1⟩ : Tp))); (case aB => exact (by repeat (first | (with_reducible first | exact HB.out | apply zab | apply zaa | apply zac) | exact HB.out))); (case aF => exact zco HQ.out (by simp <;> omega)); (case aO => (with_reducible repeat (first | apply Kd.zav | apply Kd.za1 | apply Kd.za9)); exact HS0.out); (case aS => exact zao (by repeat (first | (with_reducible first | exact HB.out | apply zab | apply zaa | apply zac) | exact HB.out))); (case aL => have := HL2.out; omega); intro v1 w1 ho hb hg hat; have HQ1 := zad.mk (Kd.zch (by (with_reducible repeat (first | apply Kd.zav | apply Kd.za1 | apply Kd.za9)); exact HQ.out) hg hat); have HG := zad.mk (zb9 (g := wr.heap.size + 1 + 1) (o := .cells #[.int .i64 (k : Int), .int .i64 1, .int .i64 1] 94 (0, 0)) (new_at (by simp)) hg (fun e => by have := Kd.R_lt HS0.out _ e.symm; omega)); clear HQ HB; have HS1 := zad.mk ho; have HB := zad.mk hb; clear ho hb hg hat; have hT0 : w1.cell? ⟨wr.heap.size + 1 + 1, 0, none⟩ = some (.int .i64 (k : Int)) := (zal HG.out 0).trans rfl; have hT1 : w1.cell? ⟨wr.heap.size + 1 + 1, 1, none⟩ = some (.int .i64 1) := (zal HG.out 1).trans rfl; have hT2 : w1.cell? ⟨wr.heap.size + 1 + 1, 2, none⟩ = some (.int .i64 1) := (zal HG.out 2).trans rfl)
                | ((with_reducible refine zbe (b := .append) (xs := #[.tmp 96, .tmp 98]) rfl ?_); at_builtin; refine Kd.zb2 k94 (w0 := w) w.heap.size rfl (.tmp 96) (.tmp 98) 67 94 (.agg #[(.int .i64 0), (.int .i64 0), (.int .i64 0)]) 24 rfl Tryz.underlying67 infoTp rfl (by decide) (by omega) u4 all ((⟨(k : Int), 1, 1⟩ : Tp)) [.int .i64 (k : Int), .int .i64 1, .int .i64 1] (fun b => True ∧ some b ≠ v1.ownBlock) (fun _ => False) rfl rfl ?aP (fun _ hk => hk.elim) ?aF ?aO ?aB ?aS ?aL ?_; (case aP => exact zcn _ _ _ ((⟨(k : Int), 1, 1⟩ : Tp))); (case aB => exact (by repeat (first | (with_reducible first | exact HB.out | apply zab | apply zaa | apply zac) | exact HB.out))); (case aF => exact zco HS1.out (Nat.le_refl _)); (case aO => exact HQ1.out); (case aS => exact zao (by repeat (first | (with_reducible first | exact HB.out | apply zab | apply zaa | apply zac) | exact HB.out))); (case aL => have := HA.out; have := HL.out; omega); intro v2 w2 ho hb hg hat; have HS2 := zad.mk (Kd.zch HS1.out hg hat); clear HB; have HQ2 := zad.mk ho; have HB := zad.mk hb; clear ho hb hg hat))
              go_roundw
              case rel => exact ⟨k + 1, st2 ++ [tnew], all ++ [tnew], by go_num, HK2, ⟨by rw [← HT2.out]; exact HT5.out.symm⟩, HI2, ⟨by rw [List.length_append, HA.out]; rfl⟩, ⟨by rw [HN.out]; exact HS2.out⟩, ⟨by rw [HN.out]; exact HQ2.out⟩, ⟨HB.out⟩⟩
              case measure => have := HK2.out; simp [intOf]; omega
            · have hneq : ∀ W, (binOp .neq 43 (.agg #[.int .u8 x.f0, .int .i64 0, .int .i64 0, .int .i64 0, .int .i64 (min2 (max2 x.f4 0) 400)]) (.agg #[.int .u8 x.f0, .int .i64 x.f1, .int .i64 x.f2, .int .i64 x.f3, .int .i64 x.f4])).run Tryz.prog W = .ok (.bool true) W := fun W => neq_nd' x _ _ _ _ W true (fun h => ho ((zcy x ps).2 (by rw [HPS.out]; simpa [atP, HF1.out] using h))) rfl
              have HT3 : zad (tloop l0 0 [] [] = (all, false)) := ⟨by rw [← HT2.out, HTS.out, if_neg ho]⟩
              clear ho HTS HPS HF1
              go_wp2_with (first
                | (go_at_call 36; (with_reducible refine (parts_0 _ _ hk1 hq).mono ?_); rintro e w' ⟨rfl, rfl⟩)
                | (go_at_call 68; (with_reducible refine (HP.out _).mono ?_); rintro e w' ⟨rfl, kk, rfl⟩)
                | (refine wp_loop_once ?_)
                | ((with_reducible refine zbe (b := .append) (xs := #[.tmp 92, .tmp 94]) rfl ?_); at_builtin; refine Kd.zb2 k94 (w0 := w) w.heap.size rfl (.tmp 92) (.tmp 94) 67 94 (.agg #[(.int .i64 0), (.int .i64 0), (.int .i64 0)]) 24 rfl Tryz.underlying67 infoTp rfl (by decide) (by omega) (.slice A5 st.length c5) st2 ((⟨(k : Int), 1, 1⟩ : Tp)) [.int .i64 (k : Int), .int .i64 1, .int .i64 1] (fun b => True ∧ some b ≠ u4.ownBlock) (fun _ => False) rfl (Eq.trans (b := Value.slice (some ⟨wr.heap.size + 1 + 1 + 1, 0, none⟩) 1 1) rfl (by simp)) ?aP (fun _ hk => hk.elim) ?aF ?aO ?aB ?aS ?aL ?_; (case aP => exact zcn _ _ _ ((⟨(k : Int), 1, 1⟩ : Tp))); (case aB => exact (by repeat (first | (with_reducible first | exact HB.out | apply zab | apply zaa | apply zac) | exact HB.out))); (case aF => exact zco HQ.out (by simp <;> omega)); (case aO => (with_reducible repeat (first | apply Kd.zav | apply Kd.za1 | apply Kd.za9)); exact HS0.out); (case aS => exact zao (by repeat (first | (with_reducible first | exact HB.out | apply zab | apply zaa | apply zac) | exact HB.out))); (case aL => have := HL2.out; omega); intro v1 w1 ho hb hg hat; have HQ1 := zad.mk (Kd.zch (by (with_reducible repeat (first | apply Kd.zav | apply Kd.za1 | apply Kd.za9)); exact HQ.out) hg hat); have HG := zad.mk (zb9 (g := wr.heap.size + 1 + 1) (o := .cells #[.int .i64 (k : Int), .int .i64 1, .int .i64 1] 94 (0, 0)) (new_at (by simp)) hg (fun e => by have := Kd.R_lt HS0.out _ e.symm; omega)); clear HQ HB; have HS1 := zad.mk ho; have HB := zad.mk hb; clear ho hb hg hat; have hT0 : w1.cell? ⟨wr.heap.size + 1 + 1, 0, none⟩ = some (.int .i64 (k : Int)) := (zal HG.out 0).trans rfl; have hT1 : w1.cell? ⟨wr.heap.size + 1 + 1, 1, none⟩ = some (.int .i64 1) := (zal HG.out 1).trans rfl; have hT2 : w1.cell? ⟨wr.heap.size + 1 + 1, 2, none⟩ = some (.int .i64 1) := (zal HG.out 2).trans rfl)
                | ((with_reducible refine zbe (b := .append) (xs := #[.tmp 96, .tmp 98]) rfl ?_); at_builtin; refine Kd.zb2 k94 (w0 := w) w.heap.size rfl (.tmp 96) (.tmp 98) 67 94 (.agg #[(.int .i64 0), (.int .i64 0), (.int .i64 0)]) 24 rfl Tryz.underlying67 infoTp rfl (by decide) (by omega) u4 all ((⟨(k : Int), 1, 1⟩ : Tp)) [.int .i64 (k : Int), .int .i64 1, .int .i64 1] (fun b => True ∧ some b ≠ v1.ownBlock) (fun _ => False) rfl rfl ?aP (fun _ hk => hk.elim) ?aF ?aO ?aB ?aS ?aL ?_; (case aP => exact zcn _ _ _ ((⟨(k : Int), 1, 1⟩ : Tp))); (case aB => exact (by repeat (first | (with_reducible first | exact HB.out | apply zab | apply zaa | apply zac) | exact HB.out))); (case aF => exact zco HS1.out (Nat.le_refl _)); (case aO => exact HQ1.out); (case aS => exact zao (by repeat (first | (with_reducible first | exact HB.out | apply zab | apply zaa | apply zac) | exact HB.out))); (case aL => have := HA.out; have := HL.out; omega); intro v2 w2 ho hb hg hat; have HS2 := zad.mk (Kd.zch HS1.out hg hat); clear HB; have HQ2 := zad.mk ho; have HB := zad.mk hb; clear ho hb hg hat))
              go_ret2
              exact ⟨_, by rw [HT3.out]; rfl, by rw [HT3.out]; exact Kd.zb0 (by (with_reducible repeat (first | apply Kd.zav | apply Kd.za1 | apply Kd.za9)); exact HQ.out) (fun _ _ => trivial), by repeat (first | (with_reducible first | exact HB.out | apply zab | apply zaa | apply zac) | exact HB.out)⟩
        · have hf1 : ¬ x.f0 = 1 := by omega
          have hb1 : (x.f0 == 1) = false := beq_eq_false_iff_ne.2 hf1
          have HF1 := zad.mk (eq_false hf1)
          clear hf1
          by_cases hlen : st.length < 1
          · have hge0 : decide ((1 : Int) > (st.length : Int)) = true := decide_eq_true (by omega)
            have hge1 : decide ((st.length : Int) < 1) = true := decide_eq_true (by omega)
            have HT3 : zad (tloop l0 0 [] [] = (all, false)) := ⟨by rw [← HT2.out]; simp only [tloop]; rw [if_neg (fun h => absurd h.2 (by rw [cnt_un (k := x.f0) (by omega)]; omega))]⟩
            clear hlen HT2
            go_wp2_with (first | (go_at_call 36; (with_reducible refine (parts_1 _ _ (by omega)).mono ?_); rintro e w' ⟨rfl, rfl⟩))
            go_ret2
            exact ⟨_, by rw [HT3.out]; rfl, by rw [HT3.out]; exact Kd.zb0 (Kd.zav HQ.out _) (fun _ _ => trivial), zaf HB.out (zab (Below.refl _ _) _)⟩
          · obtain ⟨st2, p, rfl⟩ := zc5 st (by omega)
            obtain ⟨g, cap, he, hg0, hg, _⟩ := Kd.R_form HS.out (by omega)
            injection he with he1 he2 he3
            subst he1; subst he3; clear he2
            have hll : (st2 ++ [p]).length = st2.length + 1 := by simp
            have hcap := HSR.out.2.1
            have hCs := HSR.out.2.2
            rw [hll] at hcap hl5 hCs
            obtain ⟨ad0, ea0, hp0, hp1, hp2⟩ := at_T94 hCs ((st2.length + 0 : Nat) : Int) (by omega) (by omega)
            cases ea0
            have hrp : zcx (st2 ++ [p]) ((st2.length + 0 : Nat) : Int) = p := by unfold zcx; rw [Int.toNat_natCast]; simp [List.getD_eq_getElem?_getD]
            rw [hrp, Int.toNat_natCast, add_plain] at hp0 hp1 hp2
            clear hrp
            have hip := HI.out.each p (by simp)
            have hjp := HI.out.part p (by simp)
            have HP : zad (∀ W, Calls Tryz.prog 68 #[.slice (some ⟨g, 0, none⟩) (st2.length + 1) c5, .int .i64 1] W (popPost (some ⟨g, 0, none⟩) (some ⟨g, st2.length * 3, none⟩) st2.length 1  c5 (c5 - st2.length) W)) := ⟨fun W => by
              have h := pop_any (some ⟨g, 0, none⟩) (st2.length + 1) c5 1 W (by omega) hcap hl5
              rw [show st2.length + 1 - 1 = st2.length by omega, if_neg (by omega), Option.map_some, add_plain] at h
              exact h⟩
            have hge0 : decide ((1 : Int) > ((st2.length + 1 : Nat) : Int)) = false := decide_eq_false (by omega)
            have hge1 : decide (((st2.length + 1 : Nat) : Int) < 1) = false := decide_eq_false (by omega)
            have hge2 : decide ((st2.length : Int) + 1 < 1) = false := decide_eq_false (by omega)
            obtain ⟨ps, hps⟩ : ∃ ps : List Tp, ps = [p] := ⟨_, rfl⟩
            have HPS := zad.mk hps
            obtain ⟨tnew, htn⟩ : ∃ t : Tp, t = topOf (k : Int) [p] := ⟨_, rfl⟩
            have HI2 : zad (StInv (k + 1) (st2 ++ [tnew])) := ⟨by rw [htn]; exact HI.out.push1⟩
            have HTS : zad (tloop (x :: l0.drop (k + 1)) k (st2 ++ [p]) all = if ownB x ps = true then tloop (l0.drop (k + 1)) (k + 1) (st2 ++ [tnew]) (all ++ [tnew]) else (all, false)) := ⟨by
              obtain ⟨e1, e2⟩ := drop_snoc1 st2 p
              simp only [tloop]; rw [if_pos ⟨⟨hk1, hk2⟩, by rw [cnt_un (k := x.f0) (by omega)]; omega⟩, cnt_un (k := x.f0) (by omega), e1, e2, htn, hps]⟩
            have HS0 : zad (Kd.R k94 94 wr w.heap.size (fun b => True ∧ some b ≠ u4.ownBlock) (.slice (some ⟨g, 0, none⟩) st2.length c5) st2) := ⟨by
              have h := Kd.R_take (m := st2.length) HS.out (by omega)
              rwa [ List.take_left] at h⟩
            have HL2 : zad (st2.length ≤ 1000000) := ⟨by omega⟩
            have HN := zad.mk (htn.trans (show topOf (k : Int) [p] = (⟨(k : Int), 1 + p.f1, max2 1 (p.f2 + 1)⟩ : Tp) from rfl))
            have HQ' := HQ
            clear hps htn HS
            obtain ⟨bp0, bp1, bp2, bp3, bp4⟩ := hip
            have HCs := zad.mk hCs
            clear hCs HSR hlen
            have hbp : p.f1 ≤ 1000000 := by omega
            have hdp : p.f2 ≤ 1000000 := by omega
            have gp0 : ∀ (o1 o2 o3 : Obj) (kk : Nat), ((((wr.alloc o1).drewN kk).alloc o2).alloc o3).cell? ⟨g, st2.length * 3, none⟩ = some (.int .i64 p.f0) := fun o1 o2 o3 kk => zax (zab (zab (zaa (zab (Below.refl _ _) _) _) _) _) (by simpa [Nat.add_mul] using hp0)
            have gp1 : ∀ (o1 o2 o3 : Obj) (kk : Nat), ((((wr.alloc o1).drewN kk).alloc o2).alloc o3).cell? ⟨g, st2.length * 3 + 1, none⟩ = some (.int .i64 p.f1) := fun o1 o2 o3 kk => zax (zab (zab (zaa (zab (Below.refl _ _) _) _) _) _) (by simpa [Nat.add_mul] using hp1)
            have gp2 : ∀ (o1 o2 o3 : Obj) (kk : Nat), ((((wr.alloc o1).drewN kk).alloc o2).alloc o3).cell? ⟨g, st2.length * 3 + 2, none⟩ = some (.int .i64 p.f2) := fun o1 o2 o3 kk => zax (zab (zab (zaa (zab (Below.refl _ _) _) _) _) _) (by simpa [Nat.add_mul] using hp2)
            clear hp0 hp1 hp2
            rw [hll]
            clear hll HQ'
            by_cases ho : ownB x ps = true
            · have hneq : ∀ W, (binOp .neq 43 (.agg #[.int .u8 x.f0, .int .i64 0, .int .i64 p.f0, .int .i64 0, .int .i64 (min2 (max2 x.f4 0) 400)]) (.agg #[.int .u8 x.f0, .int .i64 x.f1, .int .i64 x.f2, .int .i64 x.f3, .int .i64 x.f4])).run Tryz.prog W = .ok (.bool false) W := fun W => neq_nd x _ _ _ _ W false (by have := (zcy x ps).1 ho; rw [HPS.out] at this; simpa [atP, HF1.out] using this) rfl
              have HT5 : zad (tloop (x :: l0.drop (k + 1)) k (st2 ++ [p]) all = tloop (l0.drop (k + 1)) ((k + 1 : Nat) : Int) (st2 ++ [tnew]) (all ++ [tnew])) := ⟨by rw [HTS.out, if_pos ho]; rfl⟩
              clear ho HTS HPS HF1
              go_wp2_with (first
                | (go_at_call 36; (with_reducible refine (parts_1 _ _ (by omega)).mono ?_); rintro e w' ⟨rfl, rfl⟩)
                | (go_at_call 68; (with_reducible refine (HP.out _).mono ?_); rintro e w' ⟨rfl, kk, rfl⟩)
                | (refine wp_loop_two ?_; intro _ _)
                | ((with_reducible refine zbe (b := .append) (xs := #[.tmp 92, .tmp 94]) rfl ?_); at_builtin; refine Kd.zb2 k94 (w0 := w) w.heap.size rfl (.tmp 92) (.tmp 94) 67 94 (.agg #[(.int .i64 0), (.int .i64 0), (.int .i64 0)]) 24 rfl Tryz.underlying67 infoTp rfl (by decide) (by omega) (.slice (some ⟨g, 0, none⟩) st2.length c5) st2 ((⟨(k : Int), 1 + p.f1, max2 1 (p.f2 + 1)⟩ : Tp)) [.int .i64 (k : Int), .int .i64 (1 + p.f1), .int .i64 (max2 1 (p.f2 + 1))] (fun b => True ∧ some b ≠ u4.ownBlock) (fun _ => False) rfl (Eq.trans (b := Value.slice (some ⟨wr.heap.size + 1 + 1 + 1 + 1, 0, none⟩) 1 1) rfl (by simp)) ?aP (fun _ hk => hk.elim) ?aF ?aO ?aB ?aS ?aL ?_; (case aP => exact zcn _ _ _ ((⟨(k : Int), 1 + p.f1, max2 1 (p.f2 + 1)⟩ : Tp))); (case aB => exact (by repeat (first | (with_reducible first | exact HB.out | apply zab | apply zaa | apply zac) | exact HB.out))); (case aF => exact zco HQ.out (by simp <;> omega)); (case aO => (with_reducible repeat (first | apply Kd.zav | apply Kd.za1 | apply Kd.za9)); exact HS0.out); (case aS => exact zao (by repeat (first | (with_reducible first | exact HB.out | apply zab | apply zaa | apply zac) | exact HB.out))); (case aL => have := HL2.out; omega); intro v1 w1 ho hb hg hat; have HQ1 := zad.mk (Kd.zch (by (with_reducible repeat (first | apply Kd.zav | apply Kd.za1 | apply Kd.za9)); exact HQ.out) hg hat); have HG := zad.mk (zb9 (g := wr.heap.size + 1 + 1) (o := .cells #[.int .i64 (k : Int), .int .i64 (1 + p.f1), .int .i64 (max2 1 (p.f2 + 1))] 94 (0, 0)) (zar (new_at (by simp)) _) hg (fun e => by have := Kd.R_lt HS0.out _ e.symm; omega)); clear HQ HB; have HS1 := zad.mk ho; have HB := zad.mk hb; clear ho hb hg hat; have hT0 : w1.cell? ⟨wr.heap.size + 1 + 1, 0, none⟩ = some (.int .i64 (k : Int)) := (zal HG.out 0).trans rfl; have hT1 : w1.cell? ⟨wr.heap.size + 1 + 1, 1, none⟩ = some (.int .i64 (1 + p.f1)) := (zal HG.out 1).trans rfl; have hT2 : w1.cell? ⟨wr.heap.size + 1 + 1, 2, none⟩ = some (.int .i64 (max2 1 (p.f2 + 1))) := (zal HG.out 2).trans rfl)
                | ((with_reducible refine zbe (b := .append) (xs := #[.tmp 96, .tmp 98]) rfl ?_); at_builtin; refine Kd.zb2 k94 (w0 := w) w.heap.size rfl (.tmp 96) (.tmp 98) 67 94 (.agg #[(.int .i64 0), (.int .i64 0), (.int .i64 0)]) 24 rfl Tryz.underlying67 infoTp rfl (by decide) (by omega) u4 all ((⟨(k : Int), 1 + p.f1, max2 1 (p.f2 + 1)⟩ : Tp)) [.int .i64 (k : Int), .int .i64 (1 + p.f1), .int .i64 (max2 1 (p.f2 + 1))] (fun b => True ∧ some b ≠ v1.ownBlock) (fun _ => False) rfl rfl ?aP (fun _ hk => hk.elim) ?aF ?aO ?aB ?aS ?aL ?_; (case aP => exact zcn _ _ _ ((⟨(k : Int), 1 + p.f1, max2 1 (p.f2 + 1)⟩ : Tp))); (case aB => exact (by repeat (first | (with_reducible first | exact HB.out | apply zab | apply zaa | apply zac) | exact HB.out))); (case aF => exact zco HS1.out (Nat.le_refl _)); (case aO => exact HQ1.out); (case aS => exact zao (by repeat (first | (with_reducible first | exact HB.out | apply zab | apply zaa | apply zac) | exact HB.out))); (case aL => have := HA.out; have := HL.out; omega); intro v2 w2 ho hb hg hat; have HS2 := zad.mk (Kd.zch HS1.out hg hat); clear HB; have HQ2 := zad.mk ho; have HB := zad.mk hb; clear ho hb hg hat))
              go_roundw
              case rel => exact ⟨k + 1, st2 ++ [tnew], all ++ [tnew], by go_num, HK2, ⟨by rw [← HT2.out]; exact HT5.out.symm⟩, HI2, ⟨by rw [List.length_append, HA.out]; rfl⟩, ⟨by rw [HN.out]; exact HS2.out⟩, ⟨by rw [HN.out]; exact HQ2.out⟩, ⟨HB.out⟩⟩
              case measure => have := HK2.out; simp [intOf]; omega
            · have hneq : ∀ W, (binOp .neq 43 (.agg #[.int .u8 x.f0, .int .i64 0, .int .i64 p.f0, .int .i64 0, .int .i64 (min2 (max2 x.f4 0) 400)]) (.agg #[.int .u8 x.f0, .int .i64 x.f1, .int .i64 x.f2, .int .i64 x.f3, .int .i64 x.f4])).run Tryz.prog W = .ok (.bool true) W := fun W => neq_nd' x _ _ _ _ W true (fun h => ho ((zcy x ps).2 (by rw [HPS.out]; simpa [atP, HF1.out] using h))) rfl
              have HT3 : zad (tloop l0 0 [] [] = (all, false)) := ⟨by rw [← HT2.out, HTS.out, if_neg ho]⟩
              clear ho HTS HPS HF1
              go_wp2_with (first
                | (go_at_call 36; (with_reducible refine (parts_1 _ _ (by omega)).mono ?_); rintro e w' ⟨rfl, rfl⟩)
                | (go_at_call 68; (with_reducible refine (HP.out _).mono ?_); rintro e w' ⟨rfl, kk, rfl⟩)
                | (refine wp_loop_two ?_; intro _ _)
                | ((with_reducible refine zbe (b := .append) (xs := #[.tmp 92, .tmp 94]) rfl ?_); at_builtin; refine Kd.zb2 k94 (w0 := w) w.heap.size rfl (.tmp 92) (.tmp 94) 67 94 (.agg #[(.int .i64 0), (.int .i64 0), (.int .i64 0)]) 24 rfl Tryz.underlying67 infoTp rfl (by decide) (by omega) (.slice (some ⟨g, 0, none⟩) st2.length c5) st2 ((⟨(k : Int), 1 + p.f1, max2 1 (p.f2 + 1)⟩ : Tp)) [.int .i64 (k : Int), .int .i64 (1 + p.f1), .int .i64 (max2 1 (p.f2 + 1))] (fun b => True ∧ some b ≠ u4.ownBlock) (fun _ => False) rfl (Eq.trans (b := Value.slice (some ⟨wr.heap.size + 1 + 1 + 1 + 1, 0, none⟩) 1 1) rfl (by simp)) ?aP (fun _ hk => hk.elim) ?aF ?aO ?aB ?aS ?aL ?_; (case aP => exact zcn _ _ _ ((⟨(k : Int), 1 + p.f1, max2 1 (p.f2 + 1)⟩ : Tp))); (case aB => exact (by repeat (first | (with_reducible first | exact HB.out | apply zab | apply zaa | apply zac) | exact HB.out))); (case aF => exact zco HQ.out (by simp <;> omega)); (case aO => (with_reducible repeat (first | apply Kd.zav | apply Kd.za1 | apply Kd.za9)); exact HS0.out); (case aS => exact zao (by repeat (first | (with_reducible first | exact HB.out | apply zab | apply zaa | apply zac) | exact HB.out))); (case aL => have := HL2.out; omega); intro v1 w1 ho hb hg hat; have HQ1 := zad.mk (Kd.zch (by (with_reducible repeat (first | apply Kd.zav | apply Kd.za1 | apply Kd.za9)); exact HQ.out) hg hat); have HG := zad.mk (zb9 (g := wr.heap.size + 1 + 1) (o := .cells #[.int .i64 (k : Int), .int .i64 (1 + p.f1), .int .i64 (max2 1 (p.f2 + 1))] 94 (0, 0)) (zar (new_at (by simp)) _) hg (fun e => by have := Kd.R_lt HS0.out _ e.symm; omega)); clear HQ HB; have HS1 := zad.mk ho; have HB := zad.mk hb; clear ho hb hg hat; have hT0 : w1.cell? ⟨wr.heap.size + 1 + 1, 0, none⟩ = some (.int .i64 (k : Int)) := (zal HG.out 0).trans rfl; have hT1 : w1.cell? ⟨wr.heap.size + 1 + 1, 1, none⟩ = some (.int .i64 (1 + p.f1)) := (zal HG.out 1).trans rfl; have hT2 : w1.cell? ⟨wr.heap.size + 1 + 1, 2, none⟩ = some (.int .i64 (max2 1 (p.f2 + 1))) := (zal HG.out 2).trans rfl)
                | ((with_reducible refine zbe (b := .append) (xs := #[.tmp 96, .tmp 98]) rfl ?_); at_builtin; refine Kd.zb2 k94 (w0 := w) w.heap.size rfl (.tmp 96) (.tmp 98) 67 94 (.agg #[(.int .i64 0), (.int .i64 0), (.int .i64 0)]) 24 rfl Tryz.underlying67 infoTp rfl (by decide) (by omega) u4 all ((⟨(k : Int), 1 + p.f1, max2 1 (p.f2 + 1)⟩ : Tp)) [.int .i64 (k : Int), .int .i64 (1 + p.f1), .int .i64 (max2 1 (p.f2 + 1))] (fun b => True ∧ some b ≠ v1.ownBlock) (fun _ => False) rfl rfl ?aP (fun _ hk => hk.elim) ?aF ?aO ?aB ?aS ?aL ?_; (case aP => exact zcn _ _ _ ((⟨(k : Int), 1 + p.f1, max2 1 (p.f2 + 1)⟩ : Tp))); (case aB => exact (by repeat (first | (with_reducible first | exact HB.out | apply zab | apply zaa | apply zac) | exact HB.out))); (case aF => exact zco HS1.out (Nat.le_refl _)); (case aO => exact HQ1.out); (case aS => exact zao (by repeat (first | (with_reducible first | exact HB.out | apply zab | apply zaa | apply zac) | exact HB.out))); (case aL => have := HA.out; have := HL.out; omega); intro v2 w2 ho hb hg hat; have HS2 := zad.mk (Kd.zch HS1.out hg hat); clear HB; have HQ2 := zad.mk ho; have HB := zad.mk hb; clear ho hb hg hat))
              go_ret2
              exact ⟨_, by rw [HT3.out]; rfl, by rw [HT3.out]; exact Kd.zb0 (by (with_reducible repeat (first | apply Kd.zav | apply Kd.za1 | apply Kd.za9)); exact HQ.out) (fun _ _ => trivial), by repeat (first | (with_reducible first | exact HB.out | apply zab | apply zaa | apply zac) | exact HB.out)⟩
        · have hf1 : ¬ x.f0 = 1 := by omega
          have hb1 : (x.f0 == 1) = false := beq_eq_false_iff_ne.2 hf1
          have HF1 := zad.mk (eq_false hf1)
          clear hf1
          by_cases hlen : st.length < 2
          · have hge0 : decide ((2 : Int) > (st.length : Int)) = true := decide_eq_true (by omega)
            have hge1 : decide ((st.length : Int) < 2) = true := decide_eq_true (by omega)
            have HT3 : zad (tloop l0 0 [] [] = (all, false)) := ⟨by rw [← HT2.out]; simp only [tloop]; rw [if_neg (fun h => absurd h.2 (by rw [cnt_bin hq]; omega))]⟩
            clear hlen HT2
            go_wp2_with (first | (go_at_call 36; (with_reducible refine (parts_2 _ _ hq hk2).mono ?_); rintro e w' ⟨rfl, rfl⟩))
            go_ret2
            exact ⟨_, by rw [HT3.out]; rfl, by rw [HT3.out]; exact Kd.zb0 (Kd.zav HQ.out _) (fun _ _ => trivial), zaf HB.out (zab (Below.refl _ _) _)⟩
          · obtain ⟨st1, q, rfl⟩ := zc5 st (by omega)
            obtain ⟨st2, p, rfl⟩ := zc5 st1 (by simp at hlen; omega)
            obtain ⟨g, cap, he, hg0, hg, _⟩ := Kd.R_form HS.out (by omega)
            injection he with he1 he2 he3
            subst he1; subst he3; clear he2
            have hll : (st2 ++ [p] ++ [q]).length = st2.length + 2 := by simp
            have hcap := HSR.out.2.1
            have hCs := HSR.out.2.2
            rw [hll] at hcap hl5 hCs
            obtain ⟨ad0, ea0, hp0, hp1, hp2⟩ := at_T94 hCs ((st2.length + 0 : Nat) : Int) (by omega) (by omega)
            cases ea0
            have hrp : zcx (st2 ++ [p] ++ [q]) ((st2.length + 0 : Nat) : Int) = p := by unfold zcx; rw [Int.toNat_natCast]; simp [List.getD_eq_getElem?_getD]
            rw [hrp, Int.toNat_natCast, add_plain] at hp0 hp1 hp2
            clear hrp
            have hip := HI.out.each p (by simp)
            have hjp := HI.out.part p (by simp)
            obtain ⟨ad1, ea1, hq0, hq1, hq2⟩ := at_T94 hCs ((st2.length + 1 : Nat) : Int) (by omega) (by omega)
            cases ea1
            have hrq : zcx (st2 ++ [p] ++ [q]) ((st2.length + 1 : Nat) : Int) = q := by unfold zcx; rw [Int.toNat_natCast]; simp [List.getD_eq_getElem?_getD]
            rw [hrq, Int.toNat_natCast, add_plain] at hq0 hq1 hq2
            clear hrq
            have hiq := HI.out.each q (by simp)
            have hjq := HI.out.part q (by simp)
            have HP : zad (∀ W, Calls Tryz.prog 68 #[.slice (some ⟨g, 0, none⟩) (st2.length + 2) c5, .int .i64 2] W (popPost (some ⟨g, 0, none⟩) (some ⟨g, st2.length * 3, none⟩) st2.length 2  c5 (c5 - st2.length) W)) := ⟨fun W => by
              have h := pop_any (some ⟨g, 0, none⟩) (st2.length + 2) c5 2 W (by omega) hcap hl5
              rw [show st2.length + 2 - 2 = st2.length by omega, if_neg (by omega), Option.map_some, add_plain] at h
              exact h⟩
            have hge0 : decide ((2 : Int) > ((st2.length + 2 : Nat) : Int)) = false := decide_eq_false (by omega)
            have hge1 : decide (((st2.length + 2 : Nat) : Int) < 2) = false := decide_eq_false (by omega)
            have hge2 : decide ((st2.length : Int) + 2 < 2) = false := decide_eq_false (by omega)
            obtain ⟨ps, hps⟩ : ∃ ps : List Tp, ps = [p, q] := ⟨_, rfl⟩
            have HPS := zad.mk hps
            obtain ⟨tnew, htn⟩ : ∃ t : Tp, t = topOf (k : Int) [p, q] := ⟨_, rfl⟩
            have HI2 : zad (StInv (k + 1) (st2 ++ [tnew])) := ⟨by rw [htn]; exact HI.out.push2⟩
            have HTS : zad (tloop (x :: l0.drop (k + 1)) k (st2 ++ [p] ++ [q]) all = if ownB x ps = true then tloop (l0.drop (k + 1)) (k + 1) (st2 ++ [tnew]) (all ++ [tnew]) else (all, false)) := ⟨by
              obtain ⟨e1, e2⟩ := drop_snoc2 st2 p q
              simp only [tloop]; rw [if_pos ⟨⟨hk1, hk2⟩, by rw [cnt_bin hq]; omega⟩, cnt_bin hq, e1, e2, htn, hps]⟩
            have HS0 : zad (Kd.R k94 94 wr w.heap.size (fun b => True ∧ some b ≠ u4.ownBlock) (.slice (some ⟨g, 0, none⟩) st2.length c5) st2) := ⟨by
              have h := Kd.R_take (m := st2.length) HS.out (by omega)
              rwa [List.append_assoc, List.take_left] at h⟩
            have HL2 : zad (st2.length ≤ 1000000) := ⟨by omega⟩
            have HN := zad.mk (htn.trans (show topOf (k : Int) [p, q] = (⟨(k : Int), 1 + p.f1 + q.f1, max2 (max2 1 (p.f2 + 1)) (q.f2 + 1)⟩ : Tp) from rfl))
            have HQ' := HQ
            clear hps htn HS
            obtain ⟨bp0, bp1, bp2, bp3, bp4⟩ := hip
            obtain ⟨bq0, bq1, bq2, bq3, bq4⟩ := hiq
            have HCs := zad.mk hCs
            clear hCs HSR hlen
            have hbp : p.f1 ≤ 1000000 := by omega
            have hbq : q.f1 ≤ 1000000 := by omega
            have hdp : p.f2 ≤ 1000000 := by omega
            have hdq : q.f2 ≤ 1000000 := by omega
            have gp0 : ∀ (o1 o2 o3 : Obj) (kk : Nat), ((((wr.alloc o1).drewN kk).alloc o2).alloc o3).cell? ⟨g, st2.length * 3, none⟩ = some (.int .i64 p.f0) := fun o1 o2 o3 kk => zax (zab (zab (zaa (zab (Below.refl _ _) _) _) _) _) (by simpa [Nat.add_mul] using hp0)
            have gp1 : ∀ (o1 o2 o3 : Obj) (kk : Nat), ((((wr.alloc o1).drewN kk).alloc o2).alloc o3).cell? ⟨g, st2.length * 3 + 1, none⟩ = some (.int .i64 p.f1) := fun o1 o2 o3 kk => zax (zab (zab (zaa (zab (Below.refl _ _) _) _) _) _) (by simpa [Nat.add_mul] using hp1)
            have gp2 : ∀ (o1 o2 o3 : Obj) (kk : Nat), ((((wr.alloc o1).drewN kk).alloc o2).alloc o3).cell? ⟨g, st2.length * 3 + 2, none⟩ = some (.int .i64 p.f2) := fun o1 o2 o3 kk => zax (zab (zab (zaa (zab (Below.refl _ _) _) _) _) _) (by simpa [Nat.add_mul] using hp2)
            clear hp0 hp1 hp2
            have gq0 : ∀ (o1 o2 o3 o4 : Obj) (kk : Nat), (((((wr.alloc o1).drewN kk).alloc o2).alloc o3).alloc o4).cell? ⟨g, st2.length * 3 + 3, none⟩ = some (.int .i64 q.f0) := fun o1 o2 o3 o4 kk => zax (zab (zab (zab (zaa (zab (Below.refl _ _) _) _) _) _) _) (by simpa [Nat.add_mul] using hq0)
            have gq1 : ∀ (o1 o2 o3 o4 : Obj) (kk : Nat), (((((wr.alloc o1).drewN kk).alloc o2).alloc o3).alloc o4).cell? ⟨g, st2.length * 3 + 3 + 1, none⟩ = some (.int .i64 q.f1) := fun o1 o2 o3 o4 kk => zax (zab (zab (zab (zaa (zab (Below.refl _ _) _) _) _) _) _) (by simpa [Nat.add_mul] using hq1)
            have gq2 : ∀ (o1 o2 o3 o4 : Obj) (kk : Nat), (((((wr.alloc o1).drewN kk).alloc o2).alloc o3).alloc o4).cell? ⟨g, st2.length * 3 + 3 + 2, none⟩ = some (.int .i64 q.f2) := fun o1 o2 o3 o4 kk => zax (zab (zab (zab (zaa (zab (Below.refl _ _) _) _) _) _) _) (by simpa [Nat.add_mul] using hq2)
            clear hq0 hq1 hq2
            rw [hll]
            clear hll HQ'
            by_cases ho : ownB x ps = true
            · have hneq : ∀ W, (binOp .neq 43 (.agg #[.int .u8 x.f0, .int .i64 0, .int .i64 p.f0, .int .i64 q.f0, .int .i64 (min2 (max2 x.f4 0) 400)]) (.agg #[.int .u8 x.f0, .int .i64 x.f1, .int .i64 x.f2, .int .i64 x.f3, .int .i64 x.f4])).run Tryz.prog W = .ok (.bool false) W := fun W => neq_nd x _ _ _ _ W false (by have := (zcy x ps).1 ho; rw [HPS.out] at this; simpa [atP, HF1.out] using this) rfl
              have HT5 : zad (tloop (x :: l0.drop (k + 1)) k (st2 ++ [p] ++ [q]) all = tloop (l0.drop (k + 1)) ((k + 1 : Nat) : Int) (st2 ++ [tnew]) (all ++ [tnew])) := ⟨by rw [HTS.out, if_pos ho]; rfl⟩
              clear ho HTS HPS HF1
              go_wp2_with (first
                | (go_at_call 36; (with_reducible refine (parts_2 _ _ hq hk2).mono ?_); rintro e w' ⟨rfl, rfl⟩)
                | (go_at_call 68; (with_reducible refine (HP.out _).mono ?_); rintro e w' ⟨rfl, kk, rfl⟩)
                | (refine wp_loop_three ?_; intro _ _ _ _)
                | ((with_reducible refine zbe (b := .append) (xs := #[.tmp 92, .tmp 94]) rfl ?_); at_builtin; refine Kd.zb2 k94 (w0 := w) w.heap.size rfl (.tmp 92) (.tmp 94) 67 94 (.agg #[(.int .i64 0), (.int .i64 0), (.int .i64 0)]) 24 rfl Tryz.underlying67 infoTp rfl (by decide) (by omega) (.slice (some ⟨g, 0, none⟩) st2.length c5) st2 ((⟨(k : Int), 1 + p.f1 + q.f1, max2 (max2 1 (p.f2 + 1)) (q.f2 + 1)⟩ : Tp)) [.int .i64 (k : Int), .int .i64 (1 + p.f1 + q.f1), .int .i64 (max2 (max2 1 (p.f2 + 1)) (q.f2 + 1))] (fun b => True ∧ some b ≠ u4.ownBlock) (fun _ => False) rfl (Eq.trans (b := Value.slice (some ⟨wr.heap.size + 1 + 1 + 1 + 1 + 1, 0, none⟩) 1 1) rfl (by simp)) ?aP (fun _ hk => hk.elim) ?aF ?aO ?aB ?aS ?aL ?_; (case aP => exact zcn _ _ _ ((⟨(k : Int), 1 + p.f1 + q.f1, max2 (max2 1 (p.f2 + 1)) (q.f2 + 1)⟩ : Tp))); (case aB => exact (by repeat (first | (with_reducible first | exact HB.out | apply zab | apply zaa | apply zac) | exact HB.out))); (case aF => exact zco HQ.out (by simp <;> omega)); (case aO => (with_reducible repeat (first | apply Kd.zav | apply Kd.za1 | apply Kd.za9)); exact HS0.out); (case aS => exact zao (by repeat (first | (with_reducible first | exact HB.out | apply zab | apply zaa | apply zac) | exact HB.out))); (case aL => have := HL2.out; omega); intro v1 w1 ho hb hg hat; have HQ1 := zad.mk (Kd.zch (by (with_reducible repeat (first | apply Kd.zav | apply Kd.za1 | apply Kd.za9)); exact HQ.out) hg hat); have HG := zad.mk (zb9 (g := wr.heap.size + 1 + 1) (o := .cells #[.int .i64 (k : Int), .int .i64 (1 + p.f1 + q.f1), .int .i64 (max2 (max2 1 (p.f2 + 1)) (q.f2 + 1))] 94 (0, 0)) (zar (zar (new_at (by simp)) _) _) hg (fun e => by have := Kd.R_lt HS0.out _ e.symm; omega)); clear HQ HB; have HS1 := zad.mk ho; have HB := zad.mk hb; clear ho hb hg hat; have hT0 : w1.cell? ⟨wr.heap.size + 1 + 1, 0, none⟩ = some (.int .i64 (k : Int)) := (zal HG.out 0).trans rfl; have hT1 : w1.cell? ⟨wr.heap.size + 1 + 1, 1, none⟩ = some (.int .i64 (1 + p.f1 + q.f1)) := (zal HG.out 1).trans rfl; have hT2 : w1.cell? ⟨wr.heap.size + 1 + 1, 2, none⟩ = some (.int .i64 (max2 (max2 1 (p.f2 + 1)) (q.f2 + 1))) := (zal HG.out 2).trans rfl)
                | ((with_reducible refine zbe (b := .append) (xs := #[.tmp 96, .tmp 98]) rfl ?_); at_builtin; refine Kd.zb2 k94 (w0 := w) w.heap.size rfl (.tmp 96) (.tmp 98) 67 94 (.agg #[(.int .i64 0), (.int .i64 0), (.int .i64 0)]) 24 rfl Tryz.underlying67 infoTp rfl (by decide) (by omega) u4 all ((⟨(k : Int), 1 + p.f1 + q.f1, max2 (max2 1 (p.f2 + 1)) (q.f2 + 1)⟩ : Tp)) [.int .i64 (k : Int), .int .i64 (1 + p.f1 + q.f1), .int .i64 (max2 (max2 1 (p.f2 + 1)) (q.f2 + 1))] (fun b => True ∧ some b ≠ v1.ownBlock) (fun _ => False) rfl rfl ?aP (fun _ hk => hk.elim) ?aF ?aO ?aB ?aS ?aL ?_; (case aP => exact zcn _ _ _ ((⟨(k : Int), 1 + p.f1 + q.f1, max2 (max2 1 (p.f2 + 1)) (q.f2 + 1)⟩ : Tp))); (case aB => exact (by repeat (first | (with_reducible first | exact HB.out | apply zab | apply zaa | apply zac) | exact HB.out))); (case aF => exact zco HS1.out (Nat.le_refl _)); (case aO => exact HQ1.out); (case aS => exact zao (by repeat (first | (with_reducible first | exact HB.out | apply zab | apply zaa | apply zac) | exact HB.out))); (case aL => have := HA.out; have := HL.out; omega); intro v2 w2 ho hb hg hat; have HS2 := zad.mk (Kd.zch HS1.out hg hat); clear HB; have HQ2 := zad.mk ho; have HB := zad.mk hb; clear ho hb hg hat))
              go_roundw
              case rel => exact ⟨k + 1, st2 ++ [tnew], all ++ [tnew], by go_num, HK2, ⟨by rw [← HT2.out]; exact HT5.out.symm⟩, HI2, ⟨by rw [List.length_append, HA.out]; rfl⟩, ⟨by rw [HN.out]; exact HS2.out⟩, ⟨by rw [HN.out]; exact HQ2.out⟩, ⟨HB.out⟩⟩
              case measure => have := HK2.out; simp [intOf]; omega
            · have hneq : ∀ W, (binOp .neq 43 (.agg #[.int .u8 x.f0, .int .i64 0, .int .i64 p.f0, .int .i64 q.f0, .int .i64 (min2 (max2 x.f4 0) 400)]) (.agg #[.int .u8 x.f0, .int .i64 x.f1, .int .i64 x.f2, .int .i64 x.f3, .int .i64 x.f4])).run Tryz.prog W = .ok (.bool true) W := fun W => neq_nd' x _ _ _ _ W true (fun h => ho ((zcy x ps).2 (by rw [HPS.out]; simpa [atP, HF1.out] using h))) rfl
              have HT3 : zad (tloop l0 0 [] [] = (all, false)) := ⟨by rw [← HT2.out, HTS.out, if_neg ho]⟩
              clear ho HTS HPS HF1
              go_wp2_with (first
                | (go_at_call 36; (with_reducible refine (parts_2 _ _ hq hk2).mono ?_); rintro e w' ⟨rfl, rfl⟩)
                | (go_at_call 68; (with_reducible refine (HP.out _).mono ?_); rintro e w' ⟨rfl, kk, rfl⟩)
                | (refine wp_loop_three ?_; intro _ _ _ _)
                | ((with_reducible refine zbe (b := .append) (xs := #[.tmp 92, .tmp 94]) rfl ?_); at_builtin; refine Kd.zb2 k94 (w0 := w) w.heap.size rfl (.tmp 92) (.tmp 94) 67 94 (.agg #[(.int .i64 0), (.int .i64 0), (.int .i64 0)]) 24 rfl Tryz.underlying67 infoTp rfl (by decide) (by omega) (.slice (some ⟨g, 0, none⟩) st2.length c5) st2 ((⟨(k : Int), 1 + p.f1 + q.f1, max2 (max2 1 (p.f2 + 1)) (q.f2 + 1)⟩ : Tp)) [.int .i64 (k : Int), .int .i64 (1 + p.f1 + q.f1), .int .i64 (max2 (max2 1 (p.f2 + 1)) (q.f2 + 1))] (fun b => True ∧ some b ≠ u4.ownBlock) (fun _ => False) rfl (Eq.trans (b := Value.slice (some ⟨wr.heap.size + 1 + 1 + 1 + 1 + 1, 0, none⟩) 1 1) rfl (by simp)) ?aP (fun _ hk => hk.elim) ?aF ?aO ?aB ?aS ?aL ?_; (case aP => exact zcn _ _ _ ((⟨(k : Int), 1 + p.f1 + q.f1, max2 (max2 1 (p.f2 + 1)) (q.f2 + 1)⟩ : Tp))); (case aB => exact (by repeat (first | (with_reducible first | exact HB.out | apply zab | apply zaa | apply zac) | exact HB.out))); (case aF => exact zco HQ.out (by simp <;> omega)); (case aO => (with_reducible repeat (first | apply Kd.zav | apply Kd.za1 | apply Kd.za9)); exact HS0.out); (case aS => exact zao (by repeat (first | (with_reducible first | exact HB.out | apply zab | apply zaa | apply zac) | exact HB.out))); (case aL => have := HL2.out; omega); intro v1 w1 ho hb hg hat; have HQ1 := zad.mk (Kd.zch (by (with_reducible repeat (first | apply Kd.zav | apply Kd.za1 | apply Kd.za9)); exact HQ.out) hg hat); have HG := zad.mk (zb9 (g := wr.heap.size + 1 + 1) (o := .cells #[.int .i64 (k : Int), .int .i64 (1 + p.f1 + q.f1), .int .i64 (max2 (max2 1 (p.f2 + 1)) (q.f2 + 1))] 94 (0, 0)) (zar (zar (new_at (by simp)) _) _) hg (fun e => by have := Kd.R_lt HS0.out _ e.symm; omega)); clear HQ HB; have HS1 := zad.mk ho; have HB := zad.mk hb; clear ho hb hg hat; have hT0 : w1.cell? ⟨wr.heap.size + 1 + 1, 0, none⟩ = some (.int .i64 (k : Int)) := (zal HG.out 0).trans rfl; have hT1 : w1.cell? ⟨wr.heap.size + 1 + 1, 1, none⟩ = some (.int .i64 (1 + p.f1 + q.f1)) := (zal HG.out 1).trans rfl; have hT2 : w1.cell? ⟨wr.heap.size + 1 + 1, 2, none⟩ = some (.int .i64 (max2 (max2 1 (p.f2 + 1)) (q.f2 + 1))) := (zal HG.out 2).trans rfl)
                | ((with_reducible refine zbe (b := .append) (xs := #[.tmp 96, .tmp 98]) rfl ?_); at_builtin; refine Kd.zb2 k94 (w0 := w) w.heap.size rfl (.tmp 96) (.tmp 98) 67 94 (.agg #[(.int .i64 0), (.int .i64 0), (.int .i64 0)]) 24 rfl Tryz.underlying67 infoTp rfl (by decide) (by omega) u4 all ((⟨(k : Int), 1 + p.f1 + q.f1, max2 (max2 1 (p.f2 + 1)) (q.f2 + 1)⟩ : Tp)) [.int .i64 (k : Int), .int .i64 (1 + p.f1 + q.f1), .int .i64 (max2 (max2 1 (p.f2 + 1)) (q.f2 + 1))] (fun b => True ∧ some b ≠ v1.ownBlock) (fun _ => False) rfl rfl ?aP (fun _ hk => hk.elim) ?aF ?aO ?aB ?aS ?aL ?_; (case aP => exact zcn _ _ _ ((⟨(k : Int), 1 + p.f1 + q.f1, max2 (max2 1 (p.f2 + 1)) (q.f2 + 1)⟩ : Tp))); (case aB => exact (by repeat (first | (with_reducible first | exact HB.out | apply zab | apply zaa | apply zac) | exact HB.out))); (case aF => exact zco HS1.out (Nat.le_refl _)); (case aO => exact HQ1.out); (case aS => exact zao (by repeat (first | (with_reducible first | exact HB.out | apply zab | apply zaa | apply zac) | exact HB.out))); (case aL => have := HA.out; have := HL.out; omega); intro v2 w2 ho hb hg hat; have HS2 := zad.mk (Kd.zch HS1.out hg hat); clear HB; have HQ2 := zad.mk ho; have HB := zad.mk hb; clear ho hb hg hat))
              go_ret2
              exact ⟨_, by rw [HT3.out]; rfl, by rw [HT3.out]; exact Kd.zb0 (by (with_reducible repeat (first | apply Kd.zav | apply Kd.za1 | apply Kd.za9)); exact HQ.out) (fun _ _ => trivial), by repeat (first | (with_reducible first | exact HB.out | apply zab | apply zaa | apply zac) | exact HB.out)⟩
      · have hk' : x.f0 < 1 ∨ 19 < x.f0 := by unfold kdOk at hk; omega
        have HT3 : zad (tloop l0 0 [] [] = (all, false)) := ⟨by rw [← HT2.out]; simp only [tloop]; rw [if_neg (fun h => hk h.1)]⟩
        clear hk HT2
        go_wp2_with (first | (go_at_call 36; (with_reducible refine (parts_no _ _ hk').mono ?_); rintro e w' ⟨rfl, rfl⟩))
        go_ret2
        exact ⟨_, by rw [HT3.out]; rfl, by rw [HT3.out]; exact Kd.zb0 (Kd.zav HQ.out _) (fun _ _ => trivial), zaf HB.out (zab (Below.refl _ _) _)⟩
    · obtain rfl : k = l0.length := by have := HK.out; omega
      have HT3 : zad (tloop l0 0 [] [] = (all, decide (st.length = 1))) := ⟨by rw [← HT.out, List.drop_length]; rfl⟩
      have hlti : decide ((l0.length : Int) < (l0.length : Int)) = false := decide_eq_false (by omega)
      clear HT
      obtain ⟨A5, c5, e5⟩ := Kd.zbk HS.out
      subst e5
      go_wp2
      go_ret2
      have hb : ((st.length : Int) == 1) = decide (st.length = 1) := by
        by_cases h : st.length = 1
        · rw [h]; rfl
        · rw [decide_eq_false h]; exact beq_eq_false_iff_ne.2 (by omega)
      refine ⟨u4, ?_, by rw [HT3.out]; exact Kd.zb0 HQ.out (fun _ _ => trivial), HB.out⟩
      rw [HT3.out, ← hb]; rfl
end Go.Proofs.YtgmmngipnjmkfaaGreatDoor.Hand
end
