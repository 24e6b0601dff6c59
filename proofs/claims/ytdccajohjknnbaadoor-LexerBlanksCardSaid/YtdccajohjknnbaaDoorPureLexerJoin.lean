/- LexerJoin: blanks do not matter: tokens joined are read as these, with other places (valid tokens that are not great); the plain law over the functions that the program computes, and the walk. -/
import Derived.Test.YtdccajohjknnbaaDoorPureF
import Derived.Test.YtdccajohjknnbaaDoorPureG
import Derived.Test.YtdccajohjknnbaaDoorQx9
namespace Go.Proofs.YtdccajohjknnbaaDoor.Pure
open Go.RowKit Go.Proofs.YtdccajohjknnbaaDoor.Hand Go.Proofs.YtdccajohjknnbaaDoor.Q Go.Proofs.YtdccajohjknnbaaDoorW.PrintWords Go.Proofs.YtdccajohjknnbaaDoorW.PrintLast Go.Proofs.YtdccajohjknnbaaDoorW.PrintMore
set_option linter.unusedVariables false
theorem digB_kd (b : UInt8) : digB b = (kd b == 2) := by
  have h : ∀ n : Fin 256, digB (UInt8.ofNat n.val) = (kd (UInt8.ofNat n.val) == 2) := by decide +kernel
  have := h ⟨b.toNat, b.toNat_lt⟩
  simpa using this
theorem word_letters (t : List UInt8) (h : isWord (ba t) = true) : t.all (fun b => kd b == 3) = true := by
  have hall : wordList.all (fun w => w.data.toList.all fun b => kd b == 3) = true := by kernel_rfl
  have := List.all_eq_true.1 hall _ (isWord_iff.1 h)
  exact this
theorem run_all (q : Int) (t : List UInt8) (h : t.all (fun b => kd b == q) = true) : run q t = t := by
  unfold run
  induction t with
  | nil => rfl
  | cons c r ih =>
    rw [List.all_cons, Bool.and_eq_true] at h
    rw [List.takeWhile_cons_of_pos (p := fun b => kd b == q) h.1, ih h.2]
/-- a valid token's text, read alone, is this token -/
theorem tok_valid (q : Int) (t : List UInt8) (h : chk q t = 0) : tok t = (q, t) := by
  have hne := chk_pos h
  cases t with
  | nil => exact absurd rfl hne
  | cons c r =>
    unfold chk at h
    by_cases h1 : q = 1
    · rw [if_pos h1] at h
      have hd : (c :: r).all digB = true := by
        unfold readL at h
        rw [if_neg (by simp)] at h
        by_cases hd : (c :: r).all digB = true
        · exact hd
        · rw [if_neg hd] at h; exact absurd h (by decide)
      have hk : (c :: r).all (fun b => kd b == 2) = true := by
        rw [List.all_eq_true] at hd ⊢
        intro b hb; rw [← digB_kd]; exact hd b hb
      have hc : kd c = 2 := by have := List.all_eq_true.1 hk c (List.mem_cons_self ..); simpa using this
      simp only [tok, if_pos hc]
      rw [run_all 2 _ hk, h1]
    rw [if_neg h1] at h
    by_cases h2 : q = 2
    · rw [if_pos h2] at h
      have hw : isWord (ba (c :: r)) = true := by
        cases hw : isWord (ba (c :: r)) with
        | true => rfl
        | false => rw [hw] at h; exact absurd h (by decide)
      have hk := word_letters _ hw
      have hc : kd c = 3 := by have := List.all_eq_true.1 hk c (List.mem_cons_self ..); simpa using this
      simp only [tok, if_neg (show ¬ kd c = 2 by rw [hc]; decide), if_pos hc]
      rw [run_all 3 _ hk, h2]
    rw [if_neg h2] at h
    by_cases h3 : q = 3
    · rw [if_pos h3] at h
      have hs : symL (c :: r) > 0 ∧ symL (c :: r) = ((c :: r).length : Int) := by
        by_cases hs : symL (c :: r) > 0 ∧ symL (c :: r) = ((c :: r).length : Int)
        · exact hs
        · rw [if_neg hs] at h; exact absurd h (by decide)
      have hc : kd c = 4 := by
        rcases symL_cases c r with hx | hx | ⟨b, l, _, _, hx, _⟩
        · rw [hx.1] at hs; exact absurd hs.1 (by decide)
        · exact hx.2.1
        · exact hx
      simp only [tok, if_neg (show ¬ kd c = 2 by rw [hc]; decide), if_neg (show ¬ kd c = 3 by rw [hc]; decide)]
      rw [hs.2, Int.toNat_natCast, List.take_length, h3]
    · rw [if_neg h3] at h; exact absurd h (by decide)
theorem kd_sp : kd 32 = 1 := by decide
theorem chk_head (q : Int) (c : UInt8) (r : List UInt8) (h : chk q (c :: r) = 0) : kd c ≠ 1 := by
  intro hk
  have ht := tok_valid q _ h
  simp only [tok, if_neg (show ¬ kd c = 2 by rw [hk]; decide), if_neg (show ¬ kd c = 3 by rw [hk]; decide)] at ht
  have h2 := (Prod.mk.inj ht).2
  rcases symL_cases c r with hx | hx | ⟨b, l, _, _, hx, _⟩
  · rw [hx.1] at h2; cases h2
  · have := hx.2.1; unfold kd at hk; rw [hk] at this; cases this
  · unfold kd at hk; rw [hk] at hx; cases hx
/-- tokens with the same kinds and texts -/
def Sim (l m : List S30) : Prop := l.map (fun t => (t.f0, t.f1)) = m.map (fun t => (t.f0, t.f1))
/-- what a row of tokens is read as, with a blank in front of each -/
theorem scan_tail (l : List S30) : ∀ (a n : Nat), (∀ t ∈ l, chkT t = 0) → n + l.length ≤ 200 → ∃ ts m, Scan a n (Lib.joinTail [32] (l.map fun t => t.f1.data.toList)) ts m 0 ∧ Sim l ts := by
  induction l with
  | nil => intro a n _ _; exact ⟨[], a, .done a n, rfl⟩
  | cons t l ih =>
    intro a n hv hn
    have hc : chk t.f0 t.f1.data.toList = 0 := hv t (List.mem_cons_self ..)
    rw [List.length_cons] at hn
    obtain ⟨ts, m, hs, hsim⟩ := ih (a + 1 + t.f1.data.toList.length) (n + 1) (fun x hx => hv x (List.mem_cons_of_mem _ hx)) (by omega)
    have ht := tok_valid _ _ hc
    cases hT : t.f1.data.toList with
    | nil => exact absurd hT (chk_pos hc)
    | cons c r =>
      rw [hT] at hc ht hs
      generalize hX : Lib.joinTail [32] (l.map fun t => t.f1.data.toList) = X at hs
      have hXb : ∀ x X', X = x :: X' → kd x = 1 := fun x X' e => by
        rw [← hX] at e
        cases l with
        | nil => cases e
        | cons t2 l2 =>
          simp only [Lib.joinTail, List.map_cons, List.flatten_cons, List.cons_append] at e
          injection e with e1 _
          rw [← e1]; exact kd_sp
      have hcut := tok_cut [] X hXb c r (by rw [List.append_nil, ht]; exact Nat.le_refl _)
      rw [List.append_nil, ht] at hcut
      have hin : Lib.joinTail [32] ((t :: l).map fun t => t.f1.data.toList) = 32 :: ((c :: r) ++ X) := by
        rw [← hX]; simp only [Lib.joinTail, List.map_cons, List.flatten_cons, hT]; rfl
      rw [hin]
      refine ⟨_ :: ts, m, .blank kd_sp (Scan.tok (chk_head _ _ _ hc) (by omega) ?_ ?_), ?_⟩
      · show chk (tok (c :: r ++ X)).1 (tok (c :: r ++ X)).2 = 0
        rw [hcut]; exact hc
      · show Scan (a + 1 + (tok (c :: r ++ X)).2.length) (n + 1) ((c :: r ++ X).drop (tok (c :: r ++ X)).2.length) ts m 0
        rw [hcut, List.drop_left' rfl]; exact hs
      · show (t.f0, t.f1) :: l.map _ = ((tok (c :: r ++ X)).1, ba (tok (c :: r ++ X)).2) :: ts.map _
        rw [hcut, show l.map (fun t => (t.f0, t.f1)) = ts.map (fun t => (t.f0, t.f1)) from hsim, ba_of hT]
theorem scan_join (l : List S30) (hv : ∀ t ∈ l, chkT t = 0) (hn : l.length ≤ 200) : ∃ ts m, Scan 0 0 (joinB (l.map S30.f1) sp).data.toList ts m 0 ∧ Sim l ts := by
  cases l with
  | nil => exact ⟨[], 0, .done 0 0, rfl⟩
  | cons t l =>
    rw [List.length_cons] at hn
    have hc : chk t.f0 t.f1.data.toList = 0 := hv t (List.mem_cons_self ..)
    have ht := tok_valid _ _ hc
    cases hT : t.f1.data.toList with
    | nil => exact absurd hT (chk_pos hc)
    | cons c r =>
      obtain ⟨ts, m, hs, hsim⟩ := scan_tail l (0 + (c :: r).length) 1 (fun x hx => hv x (List.mem_cons_of_mem _ hx)) (by omega)
      rw [hT] at hc ht
      have hin : (joinB ((t :: l).map S30.f1) sp).data.toList = (c :: r) ++ Lib.joinTail [32] (l.map fun t => t.f1.data.toList) := by
        show Lib.join (((t :: l).map S30.f1).map (·.data.toList)) [32] = _
        rw [List.map_map, List.map_cons, Lib.join_cons]
        show t.f1.data.toList ++ _ = _
        rw [hT]; rfl
      rw [hin]
      generalize hX : Lib.joinTail [32] (l.map fun t => t.f1.data.toList) = X at hs
      have hXb : ∀ x X', X = x :: X' → kd x = 1 := fun x X' e => by
        rw [← hX] at e
        cases l with
        | nil => cases e
        | cons t2 l2 =>
          simp only [Lib.joinTail, List.map_cons, List.flatten_cons, List.cons_append] at e
          injection e with e1 _
          rw [← e1]; exact kd_sp
      have hcut := tok_cut [] X hXb c r (by rw [List.append_nil, ht]; exact Nat.le_refl _)
      rw [List.append_nil, ht] at hcut
      refine ⟨_ :: ts, m, Scan.tok (chk_head _ _ _ hc) (by decide) ?_ ?_, ?_⟩
      · show chk (tok (c :: r ++ X)).1 (tok (c :: r ++ X)).2 = 0
        rw [hcut]; exact hc
      · show Scan (0 + (tok (c :: r ++ X)).2.length) (0 + 1) ((c :: r ++ X).drop (tok (c :: r ++ X)).2.length) ts m 0
        rw [hcut, List.drop_left' rfl]; exact hs
      · show (t.f0, t.f1) :: l.map _ = ((tok (c :: r ++ X)).1, ba (tok (c :: r ++ X)).2) :: ts.map _
        rw [hcut, show l.map (fun t => (t.f0, t.f1)) = ts.map (fun t => (t.f0, t.f1)) from hsim, ba_of hT]
theorem sim_get {l m : List S30} (h : Sim l m) (i : Nat) (h1 : i < l.length) (h2 : i < m.length) : l[i].f0 = m[i].f0 ∧ l[i].f1 = m[i].f1 := by
  have := congrArg (fun x => x[i]?) h
  simp only [List.getElem?_map, List.getElem?_eq_getElem h1, List.getElem?_eq_getElem h2, Option.map_some] at this
  exact Prod.mk.inj (Option.some.inj this)
theorem sim_len {l m : List S30} (h : Sim l m) : l.length = m.length := by
  have := congrArg List.length h
  rwa [List.length_map, List.length_map] at this
theorem alike_l0 (l m : List S30) (hl : l.length ≤ 1000000) (h : Sim l m) (d : Nat) : ∀ (k i : Nat), l.length - i = d → i ≤ l.length → d < k → tailwaterref03_Alike.l0 k l m (i : Int) = some true := by
  have hlm := sim_len h
  induction d with
  | zero =>
    intro k i hd hi hk
    obtain ⟨k, rfl⟩ : ∃ m, k = m + 1 := ⟨k - 1, by omega⟩
    simp only [tailwaterref03_Alike.l0]; rw [if_neg (by omega)]
  | succ d ih =>
    intro k i hd hi hk
    obtain ⟨k, rfl⟩ : ∃ m, k = m + 1 := ⟨k - 1, by omega⟩
    have hih := ih k (i + 1) (by omega) (by omega) (by omega)
    have hw : wrap64 ((i : Int) + 1) = ((i + 1 : Nat) : Int) := by clear ih hih; unfold wrap64; omega
    obtain ⟨e0, e1⟩ := sim_get h i (by omega) (by omega)
    simp only [tailwaterref03_Alike.l0]
    rw [if_pos (by omega), if_pos (by omega), if_pos (by omega), rd_get l i (by omega), rd_get m i (by omega), if_pos e0, if_pos (by rw [e1]), hw]
    exact hih
theorem alike_f (l m : List S30) (hl : l.length ≤ 1000000) (h : Sim l m) (k : Nat) (hk : l.length < k) : tailwaterref03_Alike.f k l m = some true := by
  unfold tailwaterref03_Alike.f
  rw [if_pos (by rw [sim_len h])]
  exact alike_l0 l m hl h l.length k 0 (by omega) (by omega) hk
theorem sim_jn {l m : List S30} (h : Sim l m) : jn l = jn m := by
  have h1 : l.map S30.f1 = m.map S30.f1 := by
    have := congrArg (List.map Prod.snd) h
    rw [List.map_map, List.map_map] at this
    exact this
  have h2 : l.all (fun t => chkT t == 0) = m.all (fun t => chkT t == 0) := by
    have hx : ∀ x : List S30, x.all (fun t => chkT t == 0) = (x.map (fun t => (t.f0, t.f1))).all (fun p => chk p.1 p.2.data.toList == 0) := fun x => by rw [List.all_map]; rfl
    rw [hx l, hx m, show l.map (fun t => (t.f0, t.f1)) = m.map (fun t => (t.f0, t.f1)) from h]
  unfold jn
  rw [h1, h2, sim_len h]
theorem valids_l0 (l : List S30) (hl : l.length ≤ 220) (hz : ∀ t ∈ l, t.f1.size ≤ 500) (d : Nat) : ∀ (k i : Nat), l.length - i = d → i ≤ l.length → d + 3000 < k →
    tailwaterlaw03_LexerJoin.l0 k l (i : Int) = some true ∨ (∀ t ∈ l.drop i, chkT t = 0) ∧ ∃ k', 3000 < k' ∧ tailwaterlaw03_LexerJoin.l0 k l (i : Int) = tailwaterlaw03_LexerJoin.l0 k' l (l.length : Int) := by
  induction d with
  | zero =>
    intro k i hd hi hk
    obtain rfl : i = l.length := by omega
    exact .inr ⟨(fun t ht => by rw [List.drop_of_length_le (Nat.le_refl _)] at ht; cases ht), k, by omega, rfl⟩
  | succ d ih =>
    intro k i hd hi hk
    obtain ⟨k, rfl⟩ : ∃ m, k = m + 1 := ⟨k - 1, by omega⟩
    have hli : i < l.length := by omega
    have hv := valid_f k (by omega) l[i].f0 l[i].f1 l[i].f2 (by have := hz l[i] (List.getElem_mem hli); omega)
    have hih := ih k (i + 1) (by omega) (by omega) (by omega)
    have hal := alive_any k (by omega)
    have hw : wrap64 ((i : Int) + 1) = ((i + 1 : Nat) : Int) := by clear ih hih; unfold wrap64; omega
    have hstep : tailwaterlaw03_LexerJoin.l0 (k + 1) l (i : Int) = if chk l[i].f0 l[i].f1.data.toList = 0 then tailwaterlaw03_LexerJoin.l0 k l ((i + 1 : Nat) : Int) else some true := by
      rw [tailwaterlaw03_LexerJoin.l0]
      rw [if_pos (by omega), if_pos (by omega), rd_get l i hli, hv, Option.bind_some, hw]
      by_cases c : chk l[i].f0 l[i].f1.data.toList = 0
      · rw [if_pos (decide_eq_true c), if_pos c]
      · rw [if_neg (by rw [decide_eq_false c]; decide), if_neg c, hal]; rfl
    rw [hstep]
    by_cases c : chk l[i].f0 l[i].f1.data.toList = 0
    · rw [if_pos c]
      rcases hih with h | ⟨h, k', hk', he⟩
      · exact .inl h
      · refine .inr ⟨fun t ht => ?_, k', hk', he⟩
        rw [List.drop_eq_getElem_cons hli] at ht
        rcases List.mem_cons.1 ht with rfl | ht
        · exact c
        · exact h t ht
    · rw [if_neg c]; exact .inl rfl
theorem LexerJoin (l : List S30) : tailwaterlaw03_LexerJoin.f 4000 l = some true := by
  unfold tailwaterlaw03_LexerJoin.f
  obtain ⟨b, hb, hf⟩ := great_f l 4000 (by omega)
  rw [hb, Option.bind_some]
  cases b with
  | true => rw [if_pos rfl, alive_any 4000 (by omega)]; rfl
  | false =>
    obtain ⟨hl, hz⟩ := hf rfl
    rw [if_neg (by decide)]
    rcases valids_l0 l hl hz l.length 4000 0 (by omega) (by omega) (by omega) with h | ⟨hv, k, hk, he⟩
    · exact h
    · refine (show tailwaterlaw03_LexerJoin.l0 4000 l 0 = _ from he).trans ?_
      rw [List.drop_zero] at hv
      obtain ⟨k, rfl⟩ : ∃ m, k = m + 1 := ⟨k - 1, by omega⟩
      obtain ⟨k, rfl⟩ : ∃ m, k = m + 1 := ⟨k - 1, by omega⟩
      have hj := join_f l (fun t ht => by have := hz t ht; omega) (k + 1) (by omega)
      rw [tailwaterlaw03_LexerJoin.l0]
      rw [if_neg (by omega), hj, Option.bind_some, alive_any (k + 1) (by omega)]
      unfold jn
      by_cases h200 : l.length > 200
      · rw [if_pos h200, if_neg (by decide), if_pos rfl]
        show (if em.toList = [] then _ else _) = _
        rw [if_pos (by rw [ByteArray.toList_eq]; rfl)]; rfl
      · rw [if_neg h200, if_pos (List.all_eq_true.2 fun t ht => beq_t (hv t ht))]
        by_cases h400 : (joinB (l.map S30.f1) sp).size > 400
        · rw [if_pos h400, if_neg (by decide), if_neg (by decide), if_pos rfl]
          show (if em.toList = [] then _ else _) = _
          rw [if_pos (by rw [ByteArray.toList_eq]; rfl)]; rfl
        · rw [if_neg h400, if_pos rfl]
          obtain ⟨ts, m, hs, hsim⟩ := scan_join l hv (by omega)
          have hm := (scan_end hs).2.1 rfl
          rw [Nat.zero_add, data_length] at hm
          rw [all_f (joinB (l.map S30.f1) sp) (by omega) hs (k + 1) (by omega), Option.bind_some]
          unfold res
          rw [if_pos rfl, if_pos rfl, if_pos (by rw [hm]), alike_f l ts (by omega) hsim (k + 1) (by omega), Option.bind_some]
          rw [tailwaterlaw03_LexerJoin.j1, if_neg (by decide)]
          have hts : ∀ t ∈ ts, t.f1.size ≤ 1000000 := fun t ht => by have := scan_size hs t ht; rw [data_length] at this; omega
          rw [join_f ts hts k (by omega), ← sim_jn hsim, Option.bind_some, alive_any k (by omega)]
          unfold jn
          rw [if_neg h200, if_pos (List.all_eq_true.2 fun t ht => beq_t (hv t ht)), if_neg h400, if_pos rfl, if_pos rfl]; rfl
theorem LexerJoin_walk (A0 : Option Addr) (c0 : Nat) (l0 : List S30) (w : World) (hc0 : l0.length ≤ c0) (hr0 : Kd.C k30 w A0 l0.length l0) (hT : Tabs w) :
    Calls Tryd.prog 5 #[.slice A0 l0.length c0] w fun e w' => e = .returned (.bool true) ∧ Below w.heap.size w w' :=
  tailwaterlaw03_LexerJoin.calls 4000 A0 c0 l0 true w hr0 hc0 hT (LexerJoin l0)
end Go.Proofs.YtdccajohjknnbaaDoor.Pure
