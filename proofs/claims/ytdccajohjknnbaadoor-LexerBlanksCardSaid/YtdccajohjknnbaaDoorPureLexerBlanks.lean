/- LexerBlanks: a text with blanks in front, behind, or in front of one of its tokens, has the same tokens (a text of at most 300 bytes, at most 20 blanks, the index of a token); the plain law over the functions that the program computes, and the walk. -/
import Derived.Test.YtdccajohjknnbaaDoorPureLexerJoin
import Derived.Test.YtdccajohjknnbaaDoorQx10
namespace Go.Proofs.YtdccajohjknnbaaDoor.Pure
open Go.RowKit Go.Proofs.YtdccajohjknnbaaDoor.Hand Go.Proofs.YtdccajohjknnbaaDoor.Q Go.Proofs.YtdccajohjknnbaaDoorW.PrintWords Go.Proofs.YtdccajohjknnbaaDoorW.PrintLast Go.Proofs.YtdccajohjknnbaaDoorW.PrintMore
set_option linter.unusedVariables false
theorem blanks_pre {n : Nat} {L : List UInt8} {ts : List S30} {m : Nat} {e : Int} (G : List UInt8) : ∀ (a : Nat), (∀ b ∈ G, kd b = 1) → Scan (a + G.length) n L ts m e → Scan a n (G ++ L) ts m e := by
  induction G with
  | nil => intro a _ h; exact h
  | cons g G ih =>
    intro a hG h
    refine .blank (hG g (List.mem_cons_self ..)) (ih (a + 1) (fun b hb => hG b (List.mem_cons_of_mem _ hb)) ?_)
    rw [show a + 1 + G.length = a + (g :: G).length by rw [List.length_cons]; omega]; exact h
theorem scan_shift (G : List UInt8) (hG : ∀ b ∈ G, kd b = 1) (g : Nat) {a n : Nat} {L : List UInt8} {ts : List S30} {m : Nat} {e : Int} (h : Scan a n L ts m e) :
    ∃ ts' m', Scan (a + g) n (L ++ G) ts' m' e ∧ Sim ts ts' ∧ (e ≠ 0 → m' = m + g) := by
  have hX : ∀ x X', G = x :: X' → kd x = 1 := fun x X' e => hG x (by rw [e]; exact List.mem_cons_self ..)
  have hcut : ∀ c r, tok (c :: r ++ G) = tok (c :: r) := fun c r => by
    have := tok_cut [] G hX c r (by rw [List.append_nil]; exact tok_len _)
    rwa [List.append_nil] at this
  induction h with
  | done a n =>
    refine ⟨[], a + g + G.length, ?_, rfl, fun h => absurd rfl h⟩
    have := blanks_pre (L := []) G (a + g) hG (.done (a + g + G.length) n)
    rwa [List.append_nil] at this
  | @blank a n c r ts m e hb _ ih =>
    obtain ⟨ts', m', hs, hsim, hm⟩ := ih
    rw [show a + 1 + g = a + g + 1 by omega] at hs
    exact ⟨ts', m', .blank hb hs, hsim, hm⟩
  | @many a c r hb => exact ⟨[], a + g, .many hb, rfl, fun _ => rfl⟩
  | @bad a n c r e hb hn hck he => exact ⟨[], a + g, .bad hb hn (by show chk (tok (c :: r ++ G)).1 (tok (c :: r ++ G)).2 = e; rw [hcut]; exact hck) he, rfl, fun _ => rfl⟩
  | @tok a n c r ts m e hb hn hck _ ih =>
    obtain ⟨ts', m', hs, hsim, hm⟩ := ih
    have hl := tok_len (c :: r)
    rw [show a + (tok (c :: r)).2.length + g = a + g + (tok (c :: r)).2.length by omega] at hs
    refine ⟨_ :: ts', m', .tok hb hn ?_ ?_, ?_, hm⟩
    · show chk (tok (c :: r ++ G)).1 (tok (c :: r ++ G)).2 = 0
      rw [hcut]; exact hck
    · show Scan (a + g + (tok (c :: r ++ G)).2.length) (n + 1) ((c :: r ++ G).drop (tok (c :: r ++ G)).2.length) ts' m' e
      rw [hcut, List.drop_append_of_le_length hl]; exact hs
    · show (_, _) :: ts.map _ = ((tok (c :: r ++ G)).1, ba (tok (c :: r ++ G)).2) :: ts'.map _
      rw [hcut, show ts.map (fun t => (t.f0, t.f1)) = ts'.map (fun t => (t.f0, t.f1)) from hsim]
theorem scan_insert (g0 : UInt8) (G0 : List UInt8) (hG : ∀ b ∈ g0 :: G0, kd b = 1) {a n : Nat} {L : List UInt8} {ts : List S30} {m : Nat} {e : Int} (h : Scan a n L ts m e) : e = 0 → ∀ t ∈ ts,
    ∃ (P Q : List UInt8), L = P ++ Q ∧ t.f2 = ((a + P.length : Nat) : Int) ∧ ∃ ts' m', Scan a n (P ++ (g0 :: G0) ++ Q) ts' m' 0 ∧ Sim ts ts' := by
  induction h with
  | done a n => intro _ t ht; cases ht
  | @blank a n c r ts m e hb _ ih =>
    intro he t ht
    obtain ⟨P, Q, hL, h2, ts', m', hs, hsim⟩ := ih he t ht
    exact ⟨c :: P, Q, by rw [hL]; rfl, by rw [h2, List.length_cons, show a + 1 + P.length = a + (P.length + 1) by omega], ts', m', .blank hb hs, hsim⟩
  | many _ => intro he; exact absurd he (by decide)
  | bad _ _ _ he => intro h; exact absurd h he
  | @tok a n c0 r0 ts m e hb hn hck hs0 ih =>
    intro he t ht
    subst he
    rcases List.mem_cons.1 ht with rfl | ht
    · obtain ⟨ts', m', hs, hsim, _⟩ := scan_shift [] (fun b hb => by cases hb) (g0 :: G0).length (Scan.tok hb hn hck hs0)
      rw [List.append_nil] at hs
      exact ⟨[], c0 :: r0, rfl, rfl, ts', m', blanks_pre (g0 :: G0) a hG hs, hsim⟩
    · obtain ⟨P, Q, hL, h2, ts', m', hs, hsim⟩ := ih rfl t ht
      have hT := tok_take (c0 :: r0)
      have hp := tok_pos hck
      cases hT2 : (tok (c0 :: r0)).2 with
      | nil => rw [hT2] at hp; cases hp
      | cons x T =>
        have hsplit : c0 :: r0 = (x :: T) ++ (P ++ Q) := by
          rw [← hL, ← hT2]
          conv => lhs; rw [← List.take_append_drop (tok (c0 :: r0)).2.length (c0 :: r0)]
          rw [← hT]
        have hx : x = c0 := by rw [List.cons_append] at hsplit; injection hsplit with h1 _; exact h1.symm
        subst hx
        have hcut : tok (x :: T ++ (P ++ (g0 :: G0) ++ Q)) = tok (x :: r0) := by
          have h1 := tok_cut Q ((g0 :: G0) ++ Q) (fun y Y e => by rw [List.cons_append] at e; injection e with e1 _; rw [← e1]; exact hG g0 (List.mem_cons_self ..)) x (T ++ P)
          have h2 : x :: (T ++ P) ++ Q = x :: r0 := by rw [hsplit]; simp
          have h3 : x :: T ++ (P ++ (g0 :: G0) ++ Q) = x :: (T ++ P) ++ ((g0 :: G0) ++ Q) := by simp
          rw [h2] at h1
          rw [h3]
          exact h1 (by rw [hT2, List.length_cons, List.length_cons, List.length_append]; omega)
        refine ⟨(x :: T) ++ P, Q, by rw [hsplit, List.append_assoc], by rw [h2, hT2, List.length_append, show a + (x :: T).length + P.length = a + ((x :: T).length + P.length) by omega], ⟨(tok (x :: T ++ (P ++ (g0 :: G0) ++ Q))).1, ba (tok (x :: T ++ (P ++ (g0 :: G0) ++ Q))).2, (a : Int)⟩ :: ts', m', ?_, ?_⟩
        · rw [show (x :: T) ++ P ++ (g0 :: G0) ++ Q = x :: T ++ (P ++ (g0 :: G0) ++ Q) by simp]
          refine Scan.tok hb hn ?_ ?_
          · show chk (tok (x :: T ++ (P ++ (g0 :: G0) ++ Q))).1 (tok (x :: T ++ (P ++ (g0 :: G0) ++ Q))).2 = 0
            rw [hcut]; exact hck
          · show Scan (a + (tok (x :: T ++ (P ++ (g0 :: G0) ++ Q))).2.length) (n + 1) ((x :: T ++ (P ++ (g0 :: G0) ++ Q)).drop (tok (x :: T ++ (P ++ (g0 :: G0) ++ Q))).2.length) ts' m' 0
            rw [hcut, hT2, List.drop_left' rfl]
            rw [hT2] at hs; exact hs
        · show (_, _) :: ts.map _ = ((tok (x :: T ++ (P ++ (g0 :: G0) ++ Q))).1, ba (tok (x :: T ++ (P ++ (g0 :: G0) ++ Q))).2) :: ts'.map _
          rw [hcut, hT2, show ts.map (fun t => (t.f0, t.f1)) = ts'.map (fun t => (t.f0, t.f1)) from hsim]
theorem scan_insert' (G : List UInt8) (hG : ∀ b ∈ G, kd b = 1) {L : List UInt8} {ts : List S30} {m : Nat} (h : Scan 0 0 L ts m 0) (t : S30) (ht : t ∈ ts) :
    ∃ (p : Nat), p ≤ L.length ∧ t.f2 = (p : Int) ∧ ∃ ts' m', Scan 0 0 (L.take p ++ G ++ L.drop p) ts' m' 0 ∧ Sim ts ts' := by
  cases G with
  | nil =>
    obtain ⟨P, Q, hL, h2, _⟩ := scan_insert 32 [] (fun b hb => by rcases List.mem_cons.1 hb with rfl | hb; exact kd_sp; cases hb) h rfl t ht
    refine ⟨P.length, by rw [hL, List.length_append]; omega, by rw [h2, Nat.zero_add], ts, m, ?_, rfl⟩
    rw [List.append_nil, List.take_append_drop]; exact h
  | cons g0 G0 =>
    obtain ⟨P, Q, hL, h2, ts', m', hs, hsim⟩ := scan_insert g0 G0 hG h rfl t ht
    refine ⟨P.length, by rw [hL, List.length_append]; omega, by rw [h2, Nat.zero_add], ts', m', ?_, hsim⟩
    rw [hL, List.take_left' rfl, List.drop_left' rfl]; exact hs
def gapL (bl : List Bool) : List UInt8 := bl.map fun b => if b = true then 32 else 10
theorem gap_kd (bl : List Bool) : ∀ b ∈ gapL bl, kd b = 1 := by
  intro b hb
  obtain ⟨x, _, rfl⟩ := List.mem_map.1 hb
  cases x
  · exact (by decide : kd 10 = 1)
  · exact kd_sp
theorem gap_l0 (s : ByteArray) (bl : List Bool) (hbl : bl.length ≤ 20) (x2 n e : Int) (l : List S30) (d : Nat) : ∀ (k i : Nat), bl.length - i = d → i ≤ bl.length →
    tailwaterlaw03_LexerBlanks.l0 (k + d) s bl x2 l n e (ba (gapL (bl.take i))) (i : Int) = tailwaterlaw03_LexerBlanks.l0 k s bl x2 l n e (ba (gapL bl)) (bl.length : Int) := by
  induction d with
  | zero =>
    intro k i hd hi
    obtain rfl : i = bl.length := by omega
    rw [List.take_length]; rfl
  | succ d ih =>
    intro k i hd hi
    have hli : i < bl.length := by omega
    have hih := ih k (i + 1) (by omega) (by omega)
    have hw : wrap64 ((i : Int) + 1) = ((i + 1 : Nat) : Int) := by clear ih hih; unfold wrap64; omega
    have hr : rdOf false bl (i : Int) = bl[i] := by simp [rdOf, hli]
    have hsz : (ba (gapL (bl.take i))).size + 1 ≤ 9223372036854775807 := by rw [ba_size]; unfold gapL; rw [List.length_map, List.length_take]; omega
    have hst : gapL (bl.take (i + 1)) = gapL (bl.take i) ++ [if bl[i] = true then 32 else 10] := by
      rw [List.take_succ_eq_append_getElem hli]; unfold gapL; rw [List.map_append]; rfl
    rw [hst] at hih
    rw [← hih, ← Nat.add_assoc]
    generalize k + d = q
    rw [tailwaterlaw03_LexerBlanks.l0]
    rw [if_pos (by omega), if_pos (by omega), hr, hw]
    cases hb : bl[i] with
    | true =>
      rw [if_pos rfl, if_pos hsz, if_pos rfl]
      rw [app_ba _ _ (gapL (bl.take i)) [32] rfl rfl]
    | false =>
      rw [if_neg (by decide), if_pos hsz, if_neg (by decide)]
      rw [app_ba _ _ (gapL (bl.take i)) [10] rfl rfl]
theorem LexerBlanks (s : ByteArray) (bl : List Bool) (at_ : Int) (hat : (Lit.int .i64 at_).wf = true) : tailwaterlaw03_LexerBlanks.f 4000 s bl at_ = some true := by
  have htrue : tailwaterlaw03_LexerBlanks.j0 4000 s bl at_ true = some true := by
    rw [tailwaterlaw03_LexerBlanks.j0, if_pos rfl, alive_any 3999 (by omega)]; rfl
  unfold tailwaterlaw03_LexerBlanks.f
  by_cases c1 : (s.size : Int) > 300
  · rw [if_pos c1]; exact htrue
  rw [if_neg c1]
  by_cases c2 : (bl.length : Int) > 20
  · rw [if_pos c2]; exact htrue
  rw [if_neg c2]
  by_cases c3 : at_ < 0
  · rw [decide_eq_true c3]; exact htrue
  rw [decide_eq_false c3]
  have hG := gap_kd bl
  have hgl : (gapL bl).length = bl.length := by unfold gapL; rw [List.length_map]
  generalize hGd : gapL bl = G at hG hgl
  obtain ⟨ts, m, e, hs⟩ := scan_total _ s.data.toList 0 0 (Nat.le_refl _)
  have hE := scan_end hs
  rw [Nat.zero_add, data_length] at hE
  obtain ⟨ts', m', hs', hsim, hm'⟩ := scan_shift G hG G.length hs
  have hs2 := blanks_pre G 0 hG (by rw [Nat.zero_add]; rw [Nat.zero_add] at hs'; exact hs')
  have hlen := sim_len hsim
  rw [tailwaterlaw03_LexerBlanks.j0, if_neg (by decide), all_f s (by omega) hs 3999 (by omega), Option.bind_some]
  have hl0 := gap_l0 s bl (by omega) at_ (res ts m e).2.1 (res ts m e).2.2 (res ts m e).1 bl.length (3999 - bl.length) 0 (by omega) (by omega)
  rw [show 3999 - bl.length + bl.length = 3999 by omega] at hl0
  refine (show tailwaterlaw03_LexerBlanks.l0 3999 s bl at_ (res ts m e).1 (res ts m e).2.1 (res ts m e).2.2 (⟨#[]⟩ : ByteArray) 0 = _ from hl0).trans ?_
  obtain ⟨k, hk⟩ : ∃ q, 3999 - bl.length = q + 1 + 1 + 1 := ⟨3999 - bl.length - 3, by omega⟩
  rw [hk, hGd]
  have e1 : ba G ++ s = ba (G ++ s.data.toList) := app_ba _ _ _ _ rfl rfl
  have e2 : ba (G ++ s.data.toList) ++ ba G = ba (G ++ (s.data.toList ++ G)) := (app_ba _ _ _ _ rfl rfl).trans (by rw [ba_data, ba_data, List.append_assoc])
  have hsz : (ba (G ++ (s.data.toList ++ G))).size = bl.length + (s.size + bl.length) := by rw [ba_size, List.length_append, List.length_append, data_length, hgl]
  rw [tailwaterlaw03_LexerBlanks.l0]
  rw [if_neg (by omega), if_pos (by rw [ba_size, hgl]; omega), e1, if_pos (by rw [ba_size, ba_size, List.length_append, data_length, hgl]; omega), e2]
  rw [all_f (ba (G ++ (s.data.toList ++ G))) (by omega) hs2 (k + 1 + 1) (by omega), Option.bind_some]
  have hsimR : Sim (res ts m e).1 (res ts' m' e).1 := by
    unfold res
    by_cases he : e = 0
    · rw [if_pos he, if_pos he]; exact hsim
    · rw [if_neg he, if_neg he]; rfl
  have hlenR : (res ts m e).1.length ≤ 300 := by
    unfold res
    by_cases he : e = 0
    · rw [if_pos he]; show ts.length ≤ 300; omega
    · rw [if_neg he]; exact Nat.zero_le _
  have heR : ∀ ts m, (res ts m e).2.2 = e := fun ts m => by
    unfold res
    by_cases he : e = 0
    · rw [if_pos he]; exact he.symm
    · rw [if_neg he]
  rw [heR, heR, if_pos rfl, alike_f _ _ (by omega) hsimR (k + 1 + 1) (by omega), Option.bind_some]
  rw [tailwaterlaw03_LexerBlanks.j2, if_neg (by decide)]
  by_cases he : e = 0
  · subst he
    have hr1 : res ts m 0 = (ts, (m : Int), 0) := if_pos rfl
    rw [if_pos rfl, hr1]
    dsimp only
    by_cases h0 : (ts.length : Int) = 0
    · rw [if_pos h0, alive_any (k + 1) (by omega)]; rfl
    · rw [if_neg h0]
      obtain ⟨A, rfl⟩ := Int.eq_ofNat_of_zero_le (show 0 ≤ at_ by omega)
      have htm : Int.tmod (A : Int) (ts.length : Int) = ((A % ts.length : Nat) : Int) := Int.ofNat_tmod A ts.length |>.symm
      have hjl : A % ts.length < ts.length := Nat.mod_lt _ (by omega)
      generalize A % ts.length = j at htm hjl
      rw [htm, if_pos (by omega), if_pos (by omega), rd_get ts j hjl]
      obtain ⟨p, hp, h2, tsx, mx, hsx, hsimx⟩ := scan_insert' G hG hs ts[j] (List.getElem_mem hjl)
      rw [data_length] at hp
      rw [h2, if_neg (by omega), show decide ((p : Int) > (s.size : Int)) = false from decide_eq_false (by omega)]
      have x1 : s.extract 0 ((p : Int)).toNat = ba (s.data.toList.take p) := by rw [Int.toNat_natCast, ext_ba, List.drop_zero, Nat.sub_zero]
      have x2 : s.extract ((p : Int)).toNat s.size = ba (s.data.toList.drop p) := by rw [Int.toNat_natCast, ext_ba, List.take_of_length_le (by rw [List.length_drop, data_length]; exact Nat.le_refl _)]
      have x3 : ba (s.data.toList.take p) ++ ba G = ba (s.data.toList.take p ++ G) := app_ba _ _ _ _ rfl rfl
      have x4 : ba (s.data.toList.take p ++ G) ++ ba (s.data.toList.drop p) = ba (s.data.toList.take p ++ G ++ s.data.toList.drop p) := app_ba _ _ _ _ rfl rfl
      have hz : (ba (s.data.toList.take p ++ G ++ s.data.toList.drop p)).size = s.size + bl.length := by
        rw [ba_size, List.length_append, List.length_append, List.length_take, List.length_drop, data_length, hgl]; omega
      rw [tailwaterlaw03_LexerBlanks.j3, if_neg (by decide), if_pos (by omega), if_pos (by omega), x1, x2]
      rw [if_pos (by rw [ba_size, ba_size, List.length_take, data_length, hgl]; omega), x3, if_pos (by rw [ba_size, ba_size, List.length_append, List.length_take, List.length_drop, data_length, hgl]; omega), x4]
      rw [all_f _ (by omega) hsx k (by omega), Option.bind_some]
      have hr2 : res tsx mx 0 = (tsx, (mx : Int), 0) := if_pos rfl
      rw [hr2, if_pos rfl, alike_f ts tsx (by omega) hsimx k (by omega), Option.bind_some, if_pos rfl, alive_any k (by omega)]; rfl
  · have hr1 : res ts m e = ([], (m : Int), e) := if_neg he
    have hr2 : res ts' m' e = ([], (m' : Int), e) := if_neg he
    have hm := hE.2.2.1 he
    have hmm := hm' he
    have hal := alive_any (k + 1) (by omega)
    have hw : wrap64 ((m : Int) + (((ba G).size : Nat) : Int)) = (m' : Int) := by rw [ba_size]; unfold wrap64; omega
    rw [if_neg he, hr1, hr2, if_pos hw.symm, if_pos (by rfl), hal]; rfl
theorem LexerBlanks_walk (a0 : ByteArray) (A1 : Option Addr) (c1 : Nat) (l1 : List Bool) (a2 : Int) (w : World) (w0 : a0.size ≤ 140737488351232) (hc1 : l1.length ≤ c1) (hr1 : Kd.C Kd.bool w A1 l1.length l1) (w2 : (Lit.int .i64 a2).wf = true) (hT : Tabs w) :
    Calls Tryd.prog 6 #[.string a0, .slice A1 l1.length c1, .int .i64 a2] w fun e w' => e = .returned (.bool true) ∧ Below w.heap.size w w' :=
  tailwaterlaw03_LexerBlanks.calls 4000 a0 A1 c1 l1 a2 true w hr1 hc1 hT (LexerBlanks a0 l1 a2 w2)
end Go.Proofs.YtdccajohjknnbaaDoor.Pure
