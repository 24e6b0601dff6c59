/- The card of the statement, from the lemmas of the texts that this one imports (this text and those were cut to what the proof uses, by wip/trim.py). -/
import Derived.Below
import Derived.Carry
import Derived.WalkKit
import Derived.OpenShut
import Derived.ProofKit
import Derived.ChangeOld
import Derived.SizedLaws
import Derived.ChangeSame
import Derived.Deep.Grids
import Derived.ShutString
import Derived.WideShapes
import Derived.Deep.Fields
import Derived.Deep.Slices
import Derived.Lib.LaidTab
import Derived.Deep.DeepHandedRow
import Derived.Deep.DeepWitnessRowRef
import Derived.Test.YtgmmngipnjmkfaaGreatDoorTie
import Derived.Test.YtgmmngipnjmkfaaGreatDoorCards
import Derived.Test.YtgmmngipnjmkfaaGreatDoorEb3
import Derived.Test.YtgmmngipnjmkfaaGreatDoorEb4
import Derived.Test.YtgmmngipnjmkfaaGreatDoorEb6
import Derived.Test.YtgmmngipnjmkfaaGreatDoorEb10
import Derived.Test.YtgmmngipnjmkfaaGreatDoorEb11
section
namespace Go.Proofs.YtgmmngipnjmkfaaGreatDoor.Pure
open Go.RowKit Go.Proofs.YtgmmngipnjmkfaaGreatDoorW.PrintWords Go.Proofs.YtgmmngipnjmkfaaGreatDoorW.PrintLast Go.Proofs.YtgmmngipnjmkfaaGreatDoorW.PrintMore Go.Proofs.YtgmmngipnjmkfaaGreatDoor.Q Go.Proofs.YtgmmngipnjmkfaaGreatDoor.Hand
structure Pre (l : List Nd) (ts : List Tr) : Prop where
  wf : ∀ t ∈ ts, t.WF
  seg : ∀ j (h : j < ts.length), ts[j].size ≤ j + 1 ∧ (l.take (j + 1)).drop (j + 1 - ts[j].size) = ts[j].flat (j + 1 - ts[j].size)
def szs (ts : List Tr) : List Int := ts.map fun t => (t.size : Int)
def dps (ts : List Tr) : List Int := ts.map fun t => (t.depth : Int)
theorem szs_len (ts : List Tr) : (szs ts).length = ts.length := by unfold szs; simp
theorem dps_len (ts : List Tr) : (dps ts).length = ts.length := by unfold dps; simp
theorem rd_szs (ts : List Tr) (j : Nat) (h : j < ts.length) : rd (szs ts) (j : Int) = (ts[j].size : Int) := by
  unfold rd szs; rw [Int.toNat_natCast, List.getD_eq_getElem?_getD, List.getElem?_map, List.getElem?_eq_getElem h]; rfl
theorem rd_dps (ts : List Tr) (j : Nat) (h : j < ts.length) : rd (dps ts) (j : Int) = (ts[j].depth : Int) := by
  unfold rd dps; rw [Int.toNat_natCast, List.getD_eq_getElem?_getD, List.getElem?_map, List.getElem?_eq_getElem h]; rfl
theorem depth_size (t : Tr) : t.depth ≤ t.size := by
  induction t with
  | leaf => exact Nat.le_refl _
  | un k p a ih => simp only [Tr.depth, Tr.size]; omega
  | bin k p a b iha ihb => simp only [Tr.depth, Tr.size]; omega
theorem Pre.push {l : List Nd} {ts : List Tr} {t : Tr} (h : Pre l ts) (hw : t.WF) (hs : t.size ≤ ts.length + 1) (hf : (l.take (ts.length + 1)).drop (ts.length + 1 - t.size) = t.flat (ts.length + 1 - t.size)) : Pre l (ts ++ [t]) := by
  refine ⟨fun u hu => ?_, fun j hj => ?_⟩
  · rcases List.mem_append.1 hu with hu | hu
    · exact h.wf u hu
    · rw [List.mem_singleton.1 hu]; exact hw
  · rcases Nat.lt_or_ge j ts.length with hlt | hge
    · rw [List.getElem_append_left hlt]; exact h.seg j hlt
    · have hj' : j = ts.length := by rw [List.length_append] at hj; simp at hj; omega
      subst hj'
      have e : (ts ++ [t])[ts.length]'hj = t := by simp
      rw [e]; exact ⟨hs, hf⟩
theorem take_succ_drop {l : List Nd} {n : Nat} (h : n < l.length) (m : Nat) (hm : m ≤ n) : (l.take (n + 1)).drop m = (l.take n).drop m ++ [l[n]] := by
  rw [List.take_add_one, List.drop_append_of_le_length (by rw [List.length_take]; omega), List.getElem?_eq_getElem h]; rfl
theorem right_iff (x : Nd) (a b : Int) : tailwaterref04_right.f x.f0 x.f1 x.f2 x.f3 x.f4 a b = some (decide (1 ≤ x.f0 ∧ x.f0 ≤ 19 ∧ 0 ≤ x.f1 ∧ (x.f1 = 0 ∨ x.f0 = 1) ∧ 0 ≤ x.f4 ∧ x.f4 ≤ 400 ∧ x.f2 = a ∧ x.f3 = b)) := by
  unfold tailwaterref04_right.f
  repeat' split
  all_goals first
    | (rw [decide_eq_false]; rintro ⟨h1, h2, h3, h4, h5, h6, h7, h8⟩; omega)
    | (congr 1; by_cases hb : x.f3 = b
       · rw [decide_eq_true (by refine ⟨?_, ?_, ?_, ?_, ?_, ?_, ?_, hb⟩ <;> first | omega | assumption)]; exact beq_iff_eq.2 hb
       · rw [decide_eq_false (by rintro ⟨_, _, _, _, _, _, _, h8⟩; exact hb h8)]; exact beq_eq_false_iff_ne.2 hb)
def okN (x : Nd) (a b : Int) : Prop := 1 ≤ x.f0 ∧ x.f0 ≤ 19 ∧ 0 ≤ x.f1 ∧ (x.f1 = 0 ∨ x.f0 = 1) ∧ 0 ≤ x.f4 ∧ x.f4 ≤ 400 ∧ x.f2 = a ∧ x.f3 = b
instance (x : Nd) (a b : Int) : Decidable (okN x a b) := by unfold okN; infer_instance
theorem right_ok (x : Nd) (a b : Int) : tailwaterref04_right.f x.f0 x.f1 x.f2 x.f3 x.f4 a b = some (decide (okN x a b)) := by
  refine (right_iff x a b).trans (congrArg some ?_)
  by_cases h : okN x a b
  · rw [decide_eq_true h]; exact decide_eq_true h
  · rw [decide_eq_false h]; exact decide_eq_false h
theorem rdT_nat (l : List Nd) (n : Nat) (h : n < l.length) : rd_T43 l (n : Int) = l[n] := by
  unfold rd_T43; rw [Int.toNat_natCast, List.getD_eq_getElem?_getD, List.getElem?_eq_getElem h]; rfl
theorem w64 {x : Int} (h0 : -1000000 ≤ x) (h1 : x ≤ 1000000) : wrap64 x = x := by apply IntWalk.wrap64_in; omega
theorem sizes_j1 (l : List Nd) (hl : l.length ≤ 60) (ts : List Tr) (k : Nat) (a b sz dp : Int) (hn : ts.length < l.length) :
    tailwaterref04_Sizes.j1 (k + 1) l (szs ts) (dps ts) (ts.length : Int) a b sz dp = if okN l[ts.length] a b then tailwaterref04_Sizes.l0 k l (szs ts ++ [sz]) (dps ts ++ [dp]) ((ts.length + 1 : Nat) : Int) else some ([], [], false) := by
  simp only [tailwaterref04_Sizes.j1]
  rw [if_pos (by omega), if_pos (by omega), rdT_nat l ts.length hn, right_ok]
  simp only [Option.bind_some]
  rw [szs_len, dps_len]
  by_cases h : okN l[ts.length] a b
  · rw [if_pos h, if_pos (decide_eq_true h), if_pos (by omega), if_pos (by omega), w64 (by omega) (by omega)]; rfl
  · rw [if_neg h, if_neg (by rw [decide_eq_false h]; decide)]
def EndsAs (l : List Nd) (r : Option (List Int × List Int × Bool)) : Prop := ∃ a b c, r = some (a, b, c) ∧ (c = true → ∃ ts, Pre l ts ∧ ts.length = l.length ∧ a = szs ts ∧ b = dps ts ∧ ∃ h : 0 < ts.length, ts[ts.length - 1].size = l.length)
theorem ends_no (l : List Nd) : EndsAs l (some ([], [], false)) := ⟨_, _, _, rfl, fun h => by cases h⟩
theorem sizes_l0 (l : List Nd) (hl : l.length ≤ 60) (hf : ∀ x ∈ l, fits64 x) : ∀ (d : Nat) (ts : List Tr) (k : Nat), l.length - ts.length = d → ts.length ≤ l.length → Pre l ts → 2 * d + 2 ≤ k → EndsAs l (tailwaterref04_Sizes.l0 k l (szs ts) (dps ts) (ts.length : Int)) := by
  intro d
  induction d with
  | zero =>
    intro ts k hd hle hp hk
    obtain ⟨k, rfl⟩ : ∃ m, k = m + 1 := ⟨k - 1, by omega⟩
    have hlen : ts.length = l.length := by omega
    simp only [tailwaterref04_Sizes.l0]
    rw [if_neg (by omega)]
    by_cases h0 : 0 < l.length
    · rw [if_pos (by omega), w64 (by omega) (by omega), szs_len, if_pos (by omega), if_pos (by omega), show ((l.length : Int) - 1) = ((ts.length - 1 : Nat) : Int) by omega, rd_szs ts _ (by omega)]
      exact ⟨_, _, _, rfl, fun h => ⟨ts, hp, hlen, rfl, rfl, by omega, by have := beq_iff_eq.1 h; omega⟩⟩
    · rw [if_neg (by omega)]; exact ⟨_, _, _, rfl, fun h => by cases h⟩
  | succ d ih =>
    intro ts k hd hle hp hk
    obtain ⟨k, rfl⟩ : ∃ m, k = m + 1 + 1 := ⟨k - 2, by omega⟩
    have hn : ts.length < l.length := by omega
    have hfx : fits64 l[ts.length] := hf _ (List.getElem_mem hn)
    have go : ∀ (t : Tr), t.WF → t.size ≤ ts.length + 1 → (l.take (ts.length + 1)).drop (ts.length + 1 - t.size) = t.flat (ts.length + 1 - t.size) → EndsAs l (tailwaterref04_Sizes.l0 k l (szs ts ++ [(t.size : Int)]) (dps ts ++ [(t.depth : Int)]) ((ts.length + 1 : Nat) : Int)) := by
      intro t hw hs hfl
      have := ih (ts ++ [t]) k (by rw [List.length_append]; simp; omega) (by rw [List.length_append]; simp; omega) (hp.push hw hs hfl) (by omega)
      rw [List.length_append] at this
      simpa [szs, dps] using this
    have hx : rd_T43 l (ts.length : Int) = l[ts.length] := rdT_nat l _ hn
    simp only [tailwaterref04_Sizes.l0]
    rw [if_pos (by omega), if_pos (by omega), hx]
    by_cases hk4 : l[ts.length].f0 ≤ 4
    · rw [show tailwaterref04_Count.f l[ts.length].f0 = some 0 by unfold tailwaterref04_Count.f; rw [if_pos hk4]]
      simp only [Option.bind_some]
      rw [if_neg (by decide), sizes_j1 l hl ts k 0 0 1 1 hn]
      by_cases ho : okN l[ts.length] 0 0
      · rw [if_pos ho]
        obtain ⟨h1, h2, h3, h4, h5, h6, h7, h8⟩ := ho
        refine go (.leaf l[ts.length].f0 l[ts.length].f1 l[ts.length].f4) ⟨h1, hk4, h3, hfx, h4, h5, h6⟩ (by simp [Tr.size]) ?_
        show (l.take (ts.length + 1)).drop (ts.length + 1 - 1) = _
        rw [Nat.add_sub_cancel, take_succ_drop hn _ (Nat.le_refl _), show (l.take ts.length).drop ts.length = [] by rw [List.drop_of_length_le (by rw [List.length_take]; omega)]]
        simp only [List.nil_append, Tr.flat]
        congr 1
        rw [show l[ts.length] = (⟨l[ts.length].f0, l[ts.length].f1, l[ts.length].f2, l[ts.length].f3, l[ts.length].f4⟩ : Nd) from rfl, h7, h8]
      · rw [if_neg ho]; exact ends_no l
    by_cases h0 : ts.length = 0
    · have hw1 : wrap64 ((ts.length : Int) - 1) = -1 := by rw [h0]; exact w64 (by decide) (by decide)
      by_cases hk6 : l[ts.length].f0 ≤ 6
      · rw [show tailwaterref04_Count.f l[ts.length].f0 = some 1 by unfold tailwaterref04_Count.f; rw [if_neg hk4, if_pos hk6]]
        simp only [Option.bind_some]
        rw [if_pos (by decide), hw1, if_pos (by decide)]; exact ends_no l
      · rw [show tailwaterref04_Count.f l[ts.length].f0 = some 2 by unfold tailwaterref04_Count.f; rw [if_neg hk4, if_neg hk6]]
        simp only [Option.bind_some]
        rw [if_pos (by decide), hw1, if_pos (by decide)]; exact ends_no l
    have hj : ts.length - 1 < ts.length := by omega
    have hw1 : wrap64 ((ts.length : Int) - 1) = ((ts.length - 1 : Nat) : Int) := by rw [w64 (by omega) (by omega)]; omega
    obtain ⟨B, hB⟩ : ∃ B, B = ts[ts.length - 1] := ⟨_, rfl⟩
    have hBs := hp.seg (ts.length - 1) hj
    rw [← hB, show ts.length - 1 + 1 = ts.length by omega] at hBs
    have hBw : B.WF := by rw [hB]; exact hp.wf _ (List.getElem_mem hj)
    have hBd := depth_size B
    have hBp := B.size_pos
    have e5 : rd (szs ts) ((ts.length - 1 : Nat) : Int) = (B.size : Int) := by rw [rd_szs ts _ hj, ← hB]
    have e6 : rd (dps ts) ((ts.length - 1 : Nat) : Int) = (B.depth : Int) := by rw [rd_dps ts _ hj, ← hB]
    by_cases hk6 : l[ts.length].f0 ≤ 6
    · rw [show tailwaterref04_Count.f l[ts.length].f0 = some 1 by unfold tailwaterref04_Count.f; rw [if_neg hk4, if_pos hk6]]
      simp only [Option.bind_some]
      rw [if_pos (by decide), hw1, if_neg (by omega), if_pos (by omega), szs_len, dps_len, if_pos (by omega), if_pos (by omega), if_neg (by decide), e5, e6, w64 (x := 1 + (B.size : Int)) (by omega) (by omega), w64 (x := 1 + (B.depth : Int)) (by omega) (by omega), sizes_j1 l hl ts k _ 0 _ _ hn]
      by_cases ho : okN l[ts.length] ((ts.length - 1 : Nat) : Int) 0
      · rw [if_pos ho]
        obtain ⟨h1, h2, h3, h4, h5, h6, h7, h8⟩ := ho
        have := go (.un l[ts.length].f0 l[ts.length].f4 B) ⟨by omega, h5, h6, hBw⟩ (by simp only [Tr.size]; omega) (by
          simp only [Tr.size]
          rw [show ts.length + 1 - (B.size + 1) = ts.length - B.size by omega, take_succ_drop hn _ (by omega), hBs.2]
          simp only [Tr.flat]
          congr 2
          rw [show l[ts.length] = (⟨l[ts.length].f0, l[ts.length].f1, l[ts.length].f2, l[ts.length].f3, l[ts.length].f4⟩ : Nd) from rfl, h7, h8, show l[ts.length].f1 = 0 by omega]
          congr 1
          omega)
        simp only [Tr.size, Tr.depth] at this
        rw [show (1 + (B.size : Int)) = ((B.size + 1 : Nat) : Int) by omega, show (1 + (B.depth : Int)) = ((B.depth + 1 : Nat) : Int) by omega]
        exact this
      · rw [if_neg ho]; exact ends_no l
    · rw [show tailwaterref04_Count.f l[ts.length].f0 = some 2 by unfold tailwaterref04_Count.f; rw [if_neg hk4, if_neg hk6]]
      simp only [Option.bind_some]
      rw [if_pos (by decide), hw1, if_neg (by omega), if_pos (by omega), szs_len, dps_len, if_pos (by omega), if_pos (by omega), if_pos trivial, e5, e6]
      by_cases hneg : ((ts.length - 1 : Nat) : Int) - (B.size : Int) < 0
      · rw [w64 (x := ((ts.length - 1 : Nat) : Int) - (B.size : Int)) (by omega) (by omega), if_pos hneg]; exact ends_no l
      · have hwl : wrap64 (((ts.length - 1 : Nat) : Int) - (B.size : Int)) = ((ts.length - 1 - B.size : Nat) : Int) := by rw [w64 (by omega) (by omega)]; omega
        have hja : ts.length - 1 - B.size < ts.length := by omega
        obtain ⟨A, hA⟩ : ∃ A, A = ts[ts.length - 1 - B.size] := ⟨_, rfl⟩
        have hAs := hp.seg (ts.length - 1 - B.size) hja
        rw [← hA, show ts.length - 1 - B.size + 1 = ts.length - B.size by omega] at hAs
        have hAw : A.WF := by rw [hA]; exact hp.wf _ (List.getElem_mem hja)
        have hAd := depth_size A
        have f5 : rd (szs ts) ((ts.length - 1 - B.size : Nat) : Int) = (A.size : Int) := by rw [rd_szs ts _ hja, ← hA]
        have f6 : rd (dps ts) ((ts.length - 1 - B.size : Nat) : Int) = (A.depth : Int) := by rw [rd_dps ts _ hja, ← hA]
        rw [hwl, if_neg (by omega), if_pos (by omega), if_pos (by omega), if_pos (by omega), f5, f6, w64 (x := 1 + (B.size : Int)) (by omega) (by omega), w64 (x := 1 + (B.depth : Int)) (by omega) (by omega), w64 (x := 1 + (A.depth : Int)) (by omega) (by omega), w64 (x := 1 + (B.size : Int) + (A.size : Int)) (by omega) (by omega), sizes_j1 l hl ts k _ _ _ _ hn]
        by_cases ho : okN l[ts.length] ((ts.length - 1 - B.size : Nat) : Int) ((ts.length - 1 : Nat) : Int)
        · rw [if_pos ho]
          obtain ⟨h1, h2, h3, h4, h5, h6, h7, h8⟩ := ho
          have := go (.bin l[ts.length].f0 l[ts.length].f4 A B) ⟨by omega, h2, h5, h6, hAw, hBw⟩ (by simp only [Tr.size]; omega) (by
            simp only [Tr.size]
            rw [show ts.length + 1 - (A.size + B.size + 1) = ts.length - B.size - A.size by omega, take_succ_drop hn _ (by omega)]
            have hsp : (l.take ts.length).drop (ts.length - B.size - A.size) = (l.take (ts.length - B.size)).drop (ts.length - B.size - A.size) ++ (l.take ts.length).drop (ts.length - B.size) := by
              have e := List.take_append_drop (ts.length - B.size) (l.take ts.length)
              rw [List.take_take, Nat.min_eq_left (by omega)] at e
              conv => lhs; rw [← e]
              rw [List.drop_append_of_le_length (by rw [List.length_take]; omega)]
            rw [hsp, hAs.2, hBs.2]
            simp only [Tr.flat, List.append_assoc]
            rw [show ts.length - B.size - A.size + A.size = ts.length - B.size by omega]
            congr 3
            rw [show l[ts.length] = (⟨l[ts.length].f0, l[ts.length].f1, l[ts.length].f2, l[ts.length].f3, l[ts.length].f4⟩ : Nd) from rfl, h7, h8, show l[ts.length].f1 = 0 by omega]
            congr 1 <;> omega)
          simp only [Tr.size, Tr.depth] at this
          rw [show (1 + (B.size : Int) + (A.size : Int)) = ((A.size + B.size + 1 : Nat) : Int) by omega, show mx (1 + (B.depth : Int)) (1 + (A.depth : Int)) = ((max A.depth B.depth + 1 : Nat) : Int) by unfold mx; split <;> omega]
          exact this
        · rw [if_neg ho]; exact ends_no l
theorem check_ref (l : List Nd) (hf : ∀ x ∈ l, fits64 x) (k : Nat) (hk : 200 ≤ k) : ∃ c, tailwaterref04_Check.f k l = some c ∧ (c = 0 → ∃ t : Tr, t.ok ∧ l = t.flat 0) := by
  unfold tailwaterref04_Check.f
  by_cases hl : l.length ≤ 60
  · rw [if_neg (by omega)]
    obtain ⟨a, b, c, hr, hc⟩ := sizes_l0 l hl hf l.length [] k rfl (Nat.zero_le _) ⟨fun t ht => absurd ht List.not_mem_nil, fun j hj => absurd hj (Nat.not_lt_zero j)⟩ (by omega)
    have hr' : tailwaterref04_Sizes.f k l = some (a, b, c) := hr
    rw [hr']
    simp only [Option.bind_some]
    by_cases hct : c = true
    · obtain ⟨ts, hp, hlen, ha, hb, h0, hsz⟩ := hc hct
      subst hb
      have hj : ts.length - 1 < ts.length := by omega
      rw [if_pos hct, w64 (by omega) (by omega), if_pos (by omega), dps_len, if_pos (by omega), show ((l.length : Int) - 1) = ((ts.length - 1 : Nat) : Int) by omega, rd_dps ts _ hj]
      by_cases hd : (ts[ts.length - 1].depth : Int) > 20
      · rw [if_pos hd]; exact ⟨_, rfl, fun h => by cases h⟩
      · rw [if_neg hd]
        refine ⟨0, rfl, fun _ => ⟨ts[ts.length - 1], ⟨hp.wf _ (List.getElem_mem hj), by omega, by omega⟩, ?_⟩⟩
        have := (hp.seg (ts.length - 1) hj).2
        rw [hsz, show ts.length - 1 + 1 = l.length by omega, Nat.sub_self, List.take_length] at this
        exact this
    · rw [if_neg hct]; exact ⟨_, rfl, fun h => by cases h⟩
  · rw [if_pos (by omega)]; exact ⟨_, rfl, fun h => by cases h⟩
end Go.Proofs.YtgmmngipnjmkfaaGreatDoor.Pure
end
section
namespace Go.Proofs.YtgmmngipnjmkfaaGreatDoor.PureL
open Go.RowKit Go.Proofs.YtgmmngipnjmkfaaGreatDoor.Hand Go.Proofs.YtgmmngipnjmkfaaGreatDoor.Q Go.Proofs.YtgmmngipnjmkfaaGreatDoorW.PrintWords Go.Proofs.YtgmmngipnjmkfaaGreatDoorW.PrintLast Go.Proofs.YtgmmngipnjmkfaaGreatDoorW.PrintMore
theorem mono_le {α : Type} {f : Nat → Option α} (h : ∀ k, LeO (f k) (f (k + 1))) {a b : Nat} (hab : a ≤ b) {r : α} (ha : f a = some r) : f b = some r := by
  obtain ⟨d, rfl⟩ := Nat.exists_eq_add_of_le hab
  clear hab
  induction d with
  | zero => exact ha
  | succ d ih => exact h _ _ ih
theorem alive_500 : tailwaterlaw05_alive.f 500 = some true := by kernel_rfl
theorem alive_any (k : Nat) (hk : 500 ≤ k) : tailwaterlaw05_alive.f k = some true := mono_le tailwaterlaw05_alive.mono hk alive_500
end Go.Proofs.YtgmmngipnjmkfaaGreatDoor.PureL
end
section
namespace Go.Proofs.YtgmmngipnjmkfaaGreatDoor.PureL
set_option linter.unusedVariables false
open Go.RowKit Go.Proofs.YtgmmngipnjmkfaaGreatDoor.Hand Go.Proofs.YtgmmngipnjmkfaaGreatDoor.Q Go.Proofs.YtgmmngipnjmkfaaGreatDoorW.PrintWords Go.Proofs.YtgmmngipnjmkfaaGreatDoorW.PrintLast Go.Proofs.YtgmmngipnjmkfaaGreatDoorW.PrintMore
open Go.Proofs.YtgmmngipnjmkfaaGreatDoor.Pure (Tr tbytes tk pt Nd Sim chk)
theorem eqL_app : ∀ (a b c d : List Nd), a.length = b.length → eqL (a ++ c) (b ++ d) = (eqL a b && eqL c d)
  | [], [], c, d, _ => by simp [eqL]
  | [], _ :: _, _, _, h => by cases h
  | _ :: _, [], _, _, h => by cases h
  | x :: xs, y :: ys, c, d, h => by
    show (eqN x y && eqL (xs ++ c) (ys ++ d)) = ((eqN x y && eqL xs ys) && eqL c d)
    rw [eqL_app xs ys c d (by simpa using h), Bool.and_assoc]
theorem eqN_refl (k n a b p q : Int) : eqL [(⟨k, n, a, b, p⟩ : Nd)] [⟨k, n, a, b, q⟩] = true := by simp [eqL, eqN]
theorem sim_eqL : ∀ {t t' : Tr}, Sim t t' → ∀ o, eqL (t.flat o) (t'.flat o) = true
  | .leaf .., .leaf .., h, o => by obtain ⟨rfl, rfl⟩ := h; exact eqN_refl ..
  | .un k p a, .un k' p' a', h, o => by
    obtain ⟨rfl, hs⟩ := h
    simp only [Tr.flat]
    rw [eqL_app _ _ _ _ (by rw [Tr.flat_len, Tr.flat_len, hs.size]), sim_eqL hs o, hs.size, Bool.true_and]
    exact eqN_refl ..
  | .bin k p a b, .bin k' p' a' b', h, o => by
    obtain ⟨rfl, hs, ht⟩ := h
    simp only [Tr.flat]
    rw [hs.size, ht.size, eqL_app _ _ _ _ (by rw [Tr.flat_len, Tr.flat_len, hs.size]), sim_eqL hs o, eqL_app _ _ _ _ (by rw [Tr.flat_len, Tr.flat_len, ht.size]), sim_eqL ht, Bool.true_and, Bool.true_and]
    exact eqN_refl ..
  | .leaf .., .un .., h, _ => h.elim
  | .leaf .., .bin .., h, _ => h.elim
  | .un .., .leaf .., h, _ => h.elim
  | .un .., .bin .., h, _ => h.elim
  | .bin .., .leaf .., h, _ => h.elim
  | .bin .., .un .., h, _ => h.elim
theorem ck_ok {t : Tr} (h : t.ok) : nodes_Check.f (t.flat 0) = some 0 := by rw [ck_eq, Pure.chk_ok h]
theorem nsame_f {t t' : Tr} (h : t.ok) (h' : t'.ok) (hs : Sim t t') : nodes_Same.f (t.flat 0) (t'.flat 0) = some (true, 0) := by
  unfold nodes_Same.f
  rw [ck_ok h, ck_ok h']
  simp only [Option.bind_some]
  rw [if_pos trivial, if_pos trivial, sim_eqL hs 0]
theorem flat_f1 : ∀ (t : Tr), t.WF → ∀ (o : Nat), ∀ x ∈ t.flat o, x.f1 ≤ 9223372036854775807
  | .leaf k n p, h, o, x, hx => by
    obtain ⟨_, _, _, h4, _⟩ := h
    simp only [Tr.flat, List.mem_singleton] at hx
    subst hx; exact h4
  | .un k p a, h, o, x, hx => by
    simp only [Tr.flat, List.mem_append, List.mem_singleton] at hx
    rcases hx with hx | rfl
    · exact flat_f1 a h.2.2.2 o x hx
    · show (0 : Int) ≤ _; decide
  | .bin k p a b, h, o, x, hx => by
    simp only [Tr.flat, List.mem_append, List.mem_singleton] at hx
    rcases hx with hx | hx | rfl
    · exact flat_f1 a h.2.2.2.2.1 o x hx
    · exact flat_f1 b h.2.2.2.2.2 _ x hx
    · show (0 : Int) ≤ _; decide
theorem text_tree {t : Tr} (h : t.ok) : exprs_Text.f (t.flat 0) = some (ba (tbytes t false), 0) := by
  have hz := h.2.1
  have hp := t.size_pos
  unfold exprs_Text.f
  rw [ck_ok h]
  simp only [Option.bind_some]
  rw [if_pos trivial, t.flat_len, wrap_nat (by omega) (by omega)]
  unfold exprs_text.f
  rw [if_pos ⟨Pure.chk_ok h, List.all_eq_true.2 fun x hx => decide_eq_true (flat_f1 t h.1 0 x hx), by rw [t.flat_len]⟩]
  have e := Pure.textN_tree t h.1 61 _ 0 false (by have := h.2.2; omega) (Pure.lies_root t)
  rw [Nat.zero_add] at e
  rw [e]; rfl
theorem plT_wf {L : List Tk} (hL : Good L) : ∀ (t : Tr), t.WF → ∀ a, (plT L t a).WF := by
  have hP : ∀ i, 0 ≤ Pure.posAt (CL L) i ∧ Pure.posAt (CL L) i ≤ 400 := fun i => by
    unfold Pure.posAt CL
    rw [List.getElem?_map]
    cases hi : L[i]? with
    | none => exact ⟨Int.le_refl _, by show (0 : Int) ≤ 400; decide⟩
    | some x =>
      obtain ⟨_, h2, h3, _⟩ := hL.tok x (List.mem_of_getElem? hi)
      show 0 ≤ (cT x).p ∧ (cT x).p ≤ 400
      rw [cT_p]; exact ⟨h2, h3⟩
  intro t
  induction t with
  | leaf k n p => intro h a; obtain ⟨h1, h2, h3, h4, h5, _⟩ := h; exact ⟨h1, h2, h3, h4, h5, (hP _).1, (hP _).2⟩
  | un k p x ih => intro h a; exact ⟨h.1, (hP _).1, (hP _).2, ih h.2.2.2 _⟩
  | bin k p x y ihx ihy => intro h a; exact ⟨h.1, h.2.1, (hP _).1, (hP _).2, ihx h.2.2.2.2.1 _, ihy h.2.2.2.2.2 _⟩
theorem plT_ok {L : List Tk} (hL : Good L) {t : Tr} (h : t.ok) (a : Nat) : (plT L t a).ok := ⟨plT_wf hL t h.1 a, by rw [(plT_sim L t a).size]; exact h.2.1, by rw [(plT_sim L t a).depth]; exact h.2.2⟩
end Go.Proofs.YtgmmngipnjmkfaaGreatDoor.PureL
end
section
namespace Go.Proofs.YtgmmngipnjmkfaaGreatDoor.Q
open Go.Proofs.YtgmmngipnjmkfaaGreatDoor.Hand
open Go.RowKit Go.Proofs.YtgmmngipnjmkfaaGreatDoorW.PrintWords Go.Proofs.YtgmmngipnjmkfaaGreatDoorW.PrintLast Go.Proofs.YtgmmngipnjmkfaaGreatDoorW.PrintMore
attribute [local go_sem] max2_int min2_int max_two min_two max_three min_three max_four min_four
set_option linter.unusedVariables false
set_option linter.unusedSimpArgs false
theorem eqA43 (d : Nat) (w : World) (x0 y0 : Int) (x1 y1 : Int) (x2 y2 : Int) (x3 y3 : Int) (x4 y4 : Int) :
    (Op.equalIn (d + 2) 43 (.agg #[.int .u8 x0, .int .i64 x1, .int .i64 x2, .int .i64 x3, .int .i64 x4]) (.agg #[.int .u8 y0, .int .i64 y1, .int .i64 y2, .int .i64 y3, .int .i64 y4])).run Tryz.prog w = .ok (x0 == y0 && (x1 == y1 && (x2 == y2 && (x3 == y3 && (x4 == y4))))) w := by
  refine eqA_of Tryz.underlying43 (by kernel_rfl) ?_
  refine eqf_cons (by rfl) (by go_simp; rfl) (by go_simp; rfl) (by go_simp) ?_
  refine eqf_cons (by rfl) (by go_simp; rfl) (by go_simp; rfl) (by go_simp) ?_
  refine eqf_cons (by rfl) (by go_simp; rfl) (by go_simp; rfl) (by go_simp) ?_
  refine eqf_cons (by rfl) (by go_simp; rfl) (by go_simp; rfl) (by go_simp) ?_
  exact eqf_last (by rfl) (by go_simp; rfl) (by go_simp; rfl) (by go_simp)
end Go.Proofs.YtgmmngipnjmkfaaGreatDoor.Q
end
section
namespace Go.Proofs.YtgmmngipnjmkfaaGreatDoor.Q
open Go.Proofs.YtgmmngipnjmkfaaGreatDoor.Hand
open Go.RowKit Go.Proofs.YtgmmngipnjmkfaaGreatDoorW.PrintWords Go.Proofs.YtgmmngipnjmkfaaGreatDoorW.PrintLast Go.Proofs.YtgmmngipnjmkfaaGreatDoorW.PrintMore
attribute [local go_sem] max2_int min2_int max_two min_two max_three min_three max_four min_four
set_option linter.unusedVariables false
set_option linter.unusedSimpArgs false
attribute [local go_sem high] eqA43
def tailwaterlaw05_ExprsBack.j0 : Nat → List (S43) → Bool → Option (Bool)
  | 0, _, _ => none
  | k + 1, x0, x19 => if x19 = true then ((tailwaterlaw05_alive.f k).bind fun t388 => (some t388)) else ((exprs_Text.f x0).bind fun bt389 => (if bt389.2 = 0 then ((lexer_All.f k bt389.1).bind fun bt391 => (if (bt389.1.size : Int) > 400 then (if bt391.2.2 = 4 then ((tailwaterlaw05_alive.f k).bind fun t396 => (some t396)) else (some false)) else ((exprs_Parse.f k bt391.1 0).bind fun bt397 => ((nodes_Same.f x0 bt397.1).bind fun bt402 => (if bt391.2.2 = 0 then (if bt397.2.2 = 0 then (if bt397.2.1 = (bt391.1.length : Int) then (if bt402.2 = 0 then (if bt402.1 = true then ((tailwaterlaw05_alive.f k).bind fun t404 => (some t404)) else (some false)) else (some false)) else (some false)) else (some false)) else (some false)))))) else (some false)))
def tailwaterlaw05_ExprsBack.f (k : Nat) (l0 : List (S43)) : Option (Bool) := (tailwaterref04_Great.f l0).bind fun t386 => (if t386 = true then (tailwaterlaw05_ExprsBack.j0 k l0 true) else ((tailwaterref04_Check.f k l0).bind fun t387 => (tailwaterlaw05_ExprsBack.j0 k l0 (t387 != 0))))
set_option maxHeartbeats 8000000 in
set_option maxRecDepth 100000 in
theorem tailwaterlaw05_ExprsBack.calls (k : Nat) (A0 : Option Addr) (c0 : Nat) (l0 : List (S43)) (r : Bool) (w : World) (hr0 : Kd.C k43 w A0 l0.length l0) (hc0 : l0.length ≤ c0) (hT : Tabs w) (h : tailwaterlaw05_ExprsBack.f k l0 = some r) :
 Calls Tryz.prog 5 #[.slice A0 l0.length c0] w fun e w' => e = .returned (.bool r) ∧ Below w.heap.size w w' := by
 have HR0 := Aside0.mk hr0
 have HC0 := Aside0.mk hc0
 clear hr0 hc0
 have HB := Aside0.mk (Below.refl w.heap.size w)
 have H : ((tailwaterref04_Great.f l0).bind fun t386 => (if t386 = true then (tailwaterlaw05_ExprsBack.j0 k l0 true) else ((tailwaterref04_Check.f k l0).bind fun t387 => (tailwaterlaw05_ExprsBack.j0 k l0 (t387 != 0))))) = some r := h
 clear h
 have HC2 := Aside0.mk H
 clear H
 go_enter Tryz.func5, Tryz.ntmps5
 go_upto_region 1 with (fail)
 go_cut [19] (fun v19 wc => ∃ (kq : Nat) (x19_1 : Bool), v19 = .bool x19_1 ∧ Aside0 (tailwaterlaw05_ExprsBack.j0 kq l0 x19_1 = some r) ∧ Aside0 (kq ≤ k) ∧ Aside0 (Below w.heap.size w wc))
 case first =>
  have H := HC2.out
  clear HC2
  replace H := Option.bind_eq_some_iff.mp H
  obtain ⟨t386, A30, H⟩ := H
  replace H : (if t386 = true then (tailwaterlaw05_ExprsBack.j0 k l0 true) else ((tailwaterref04_Check.f k l0).bind fun t387 => (tailwaterlaw05_ExprsBack.j0 k l0 (t387 != 0)))) = some r := H
  have A3 := Aside0.mk A30
  clear A30
  by_cases c4 : t386 = true
  ·subst c4
   have H1 : (tailwaterlaw05_ExprsBack.j0 k l0 true) = some r := by rw [if_pos rfl] at H; exact H
   clear H
   have H := H1
   clear H1
   have H' := Aside0.mk H
   clear H
   go_wp2_with (first | ((with_reducible refine gate_callee (f := 17) rfl ?_); refine goesL_ (some 14) rfl rfl Tryz.func17 (by kernel_rfl) rfl #[.slice A0 l0.length c0] rfl (by (try simp only [List.map_toArray, List.map_cons, List.map_nil]); first | done | rfl | (simp only [List.length_drop, List.length_take]; rfl)) ?_; (with_reducible refine (tailwaterref04_Great.calls _ _ l0 true _ ?side1 ?side2 A3.out).mono ?_); (case side1 => repeat (first | exact (Kd.C_below HR0.out HB.out) | (with_reducible refine Kd.C_alloc ?_ _) | (with_reducible refine Kd.C_drewN ?_ _) | (with_reducible refine Kd.C_drew ?_))); (case side2 => exact HC0.out); rintro e w' ⟨rfl, ⟨nd, rfl⟩⟩; refine ⟨_, rfl, ?_⟩))
   go_meet
   case rel => exact ⟨_, (true), (by first | rfl | (simp; done) | (simp [*]; done)), H', ⟨by first | omega | exact Nat.le_refl _⟩, ⟨by repeat (first | (with_reducible first | exact HB.out | apply below_alloc | apply pw_below_drewN | apply below_drew1) | exact HB.out)⟩⟩
  ·replace c4 := Bool.eq_false_iff.mpr c4
   subst c4
   have H1 : ((tailwaterref04_Check.f k l0).bind fun t387 => (tailwaterlaw05_ExprsBack.j0 k l0 (t387 != 0))) = some r := by rw [if_neg (show ¬ (false = true) by decide)] at H; exact H
   clear H
   have H := H1
   clear H1
   replace H := Option.bind_eq_some_iff.mp H
   obtain ⟨t387, A50, H⟩ := H
   replace H : (tailwaterlaw05_ExprsBack.j0 k l0 (t387 != 0)) = some r := H
   have A5 := Aside0.mk A50
   clear A50
   have H' := Aside0.mk H
   clear H
   go_wp2_with (first | ((with_reducible refine gate_callee (f := 17) rfl ?_); refine goesL_ (some 14) rfl rfl Tryz.func17 (by kernel_rfl) rfl #[.slice A0 l0.length c0] rfl (by (try simp only [List.map_toArray, List.map_cons, List.map_nil]); first | done | rfl | (simp only [List.length_drop, List.length_take]; rfl)) ?_; (with_reducible refine (tailwaterref04_Great.calls _ _ l0 false _ ?side1 ?side2 A3.out).mono ?_); (case side1 => repeat (first | exact (Kd.C_below HR0.out HB.out) | (with_reducible refine Kd.C_alloc ?_ _) | (with_reducible refine Kd.C_drewN ?_ _) | (with_reducible refine Kd.C_drew ?_))); (case side2 => exact HC0.out); rintro e w' ⟨rfl, ⟨nd, rfl⟩⟩; refine ⟨_, rfl, ?_⟩) | (go_at_call 18; (with_reducible refine (tailwaterref04_Check.calls k _ _ l0 t387 _ ?side1 ?side2 A5.out).mono ?_); (case side1 => repeat (first | exact (Kd.C_below HR0.out (by repeat (first | (with_reducible first | exact HB.out | apply below_alloc | apply pw_below_drewN | apply below_drew1) | exact HB.out))) | (with_reducible refine Kd.C_alloc ?_ _) | (with_reducible refine Kd.C_drewN ?_ _) | (with_reducible refine Kd.C_drew ?_))); (case side2 => exact HC0.out); rintro e w6 ⟨rfl, hb⟩; have n0_ := Aside0.mk (below_step (by repeat (first | (with_reducible first | exact HB.out | apply below_alloc | apply pw_below_drewN | apply below_drew1) | exact HB.out)) hb); clear HB; have HB := n0_; clear n0_; (try clear hb); (try clear hb2); (try clear hk); (try clear hi)))
   go_meet
   case rel => exact ⟨_, ((t387 != 0)), (by first | rfl | (simp; done) | (simp [*]; done)), H', ⟨by first | omega | exact Nat.le_refl _⟩, ⟨by repeat (first | (with_reducible first | exact HB.out | apply below_alloc | apply pw_below_drewN | apply below_drew1) | exact HB.out)⟩⟩
 case rest =>
  clear HC2
  try clear c1
  try clear p2
  try clear c4
  try clear c5
  obtain ⟨kq, x19_1, rfl, HA, HJ1, HB⟩ := hcut
  cases kq with
  | zero => exact absurd HA.out (by simp [tailwaterlaw05_ExprsBack.j0])
  | succ kj1 =>
   have H := HA.out
   clear HA
   simp only [tailwaterlaw05_ExprsBack.j0] at H
   by_cases c7 : x19_1 = true
   ·subst c7
    have H1 : ((tailwaterlaw05_alive.f kj1).bind fun t388 => (some t388)) = some r := by rw [if_pos rfl] at H; exact H
    clear H
    have H := H1
    clear H1
    replace H := Option.bind_eq_some_iff.mp H
    obtain ⟨t388, A80, H⟩ := H
    replace H : (some t388) = some r := H
    have A8 := Aside0.mk A80
    clear A80
    obtain rfl := Option.some.inj H
    go_wp2_with (first | ((with_reducible refine gate_callee (f := 12) rfl ?_); refine goesL_ (some 20) rfl rfl Tryz.func12 (by kernel_rfl) rfl #[] rfl (by (try simp only [List.map_toArray, List.map_cons, List.map_nil]); first | done | rfl | (simp only [List.length_drop, List.length_take]; rfl)) ?_; (with_reducible refine (tailwaterlaw05_alive.calls kj1  t388 _ ?side1 A8.out).mono ?_); (case side1 => exact Tabs.below hT (by repeat (first | (with_reducible first | exact HB.out | apply below_alloc | apply pw_below_drewN | apply below_drew1) | exact HB.out))); rintro e w9 ⟨rfl, hb⟩; refine ⟨_, rfl, ?_⟩; have n0_ := Aside0.mk (below_step (by repeat (first | (with_reducible first | exact HB.out | apply below_alloc | apply pw_below_drewN | apply below_drew1) | exact HB.out)) hb); clear HB; have HB := n0_; clear n0_; (try clear hb); (try clear hb2); (try clear hk); (try clear hi)))
    go_ret
    exact ⟨by first | rfl | (simp [errW_none, errW_some] <;> rfl) | (simp [*, errW_none, errW_some] <;> rfl), by repeat (first | (with_reducible first | exact HB.out | apply below_alloc | apply pw_below_drewN | apply below_drew1) | exact HB.out)⟩
   ·replace c7 := Bool.eq_false_iff.mpr c7
    subst c7
    have H1 : ((exprs_Text.f l0).bind fun bt389 => (if bt389.2 = 0 then ((lexer_All.f kj1 bt389.1).bind fun bt391 => (if (bt389.1.size : Int) > 400 then (if bt391.2.2 = 4 then ((tailwaterlaw05_alive.f kj1).bind fun t396 => (some t396)) else (some false)) else ((exprs_Parse.f kj1 bt391.1 0).bind fun bt397 => ((nodes_Same.f l0 bt397.1).bind fun bt402 => (if bt391.2.2 = 0 then (if bt397.2.2 = 0 then (if bt397.2.1 = (bt391.1.length : Int) then (if bt402.2 = 0 then (if bt402.1 = true then ((tailwaterlaw05_alive.f kj1).bind fun t404 => (some t404)) else (some false)) else (some false)) else (some false)) else (some false)) else (some false)))))) else (some false))) = some r := by rw [if_neg (show ¬ (false = true) by decide)] at H; exact H
    clear H
    have H := H1
    clear H1
    replace H := Option.bind_eq_some_iff.mp H
    obtain ⟨⟨t389, t390⟩, A100, H⟩ := H
    replace H : (if t390 = 0 then ((lexer_All.f kj1 t389).bind fun bt391 => (if (t389.size : Int) > 400 then (if bt391.2.2 = 4 then ((tailwaterlaw05_alive.f kj1).bind fun t396 => (some t396)) else (some false)) else ((exprs_Parse.f kj1 bt391.1 0).bind fun bt397 => ((nodes_Same.f l0 bt397.1).bind fun bt402 => (if bt391.2.2 = 0 then (if bt397.2.2 = 0 then (if bt397.2.1 = (bt391.1.length : Int) then (if bt402.2 = 0 then (if bt402.1 = true then ((tailwaterlaw05_alive.f kj1).bind fun t404 => (some t404)) else (some false)) else (some false)) else (some false)) else (some false)) else (some false)))))) else (some false)) = some r := H
    have A10 := Aside0.mk A100
    clear A100
    by_cases c11 : t390 = 0
    ·rw [if_pos c11] at H
     have c11b0 : (t390 == 0) = true := beq_iff_eq.mpr c11
     have c11b1 : (t390 != 0) = false := bne_eq_false_iff_eq.mpr c11
     clear c11
     replace H := Option.bind_eq_some_iff.mp H
     obtain ⟨⟨t391, t392, t393⟩, A120, H⟩ := H
     replace H : (if (t389.size : Int) > 400 then (if t393 = 4 then ((tailwaterlaw05_alive.f kj1).bind fun t396 => (some t396)) else (some false)) else ((exprs_Parse.f kj1 t391 0).bind fun bt397 => ((nodes_Same.f l0 bt397.1).bind fun bt402 => (if t393 = 0 then (if bt397.2.2 = 0 then (if bt397.2.1 = (t391.length : Int) then (if bt402.2 = 0 then (if bt402.1 = true then ((tailwaterlaw05_alive.f kj1).bind fun t404 => (some t404)) else (some false)) else (some false)) else (some false)) else (some false)) else (some false))))) = some r := H
     have A12 := Aside0.mk A120
     clear A120
     by_cases c13 : (t389.size : Int) > 400
     ·rw [if_pos c13] at H
      have c13b0 : decide (400 < (t389.size : Int)) = true := decide_eq_true c13
      have c13b1 : decide (400 < t389.size) = true := decide_eq_true (by omega)
      clear c13
      by_cases c14 : t393 = 4
      ·rw [if_pos c14] at H
       have c14b0 : (t393 == 4) = true := beq_iff_eq.mpr c14
       have c14b1 : (t393 != 4) = false := bne_eq_false_iff_eq.mpr c14
       clear c14
       replace H := Option.bind_eq_some_iff.mp H
       obtain ⟨t396, A150, H⟩ := H
       replace H : (some t396) = some r := H
       have A15 := Aside0.mk A150
       clear A150
       obtain rfl := Option.some.inj H
       go_wp2_with (first | ((with_reducible refine gate_callee (f := 11) rfl ?_); refine goesL_ (some 23) rfl rfl Tryz.func11 (by kernel_rfl) rfl #[.slice A0 l0.length c0] rfl (by (try simp only [List.map_toArray, List.map_cons, List.map_nil]); first | done | rfl | (simp only [List.length_drop, List.length_take]; rfl)) ?_; (with_reducible refine (exprs_Text.calls _ _ l0 t389 t390 _ ?side1 ?side2 ?side3 A10.out).mono ?_); (case side1 => repeat (first | exact (Kd.C_below HR0.out HB.out) | (with_reducible refine Kd.C_alloc ?_ _) | (with_reducible refine Kd.C_drewN ?_ _) | (with_reducible refine Kd.C_drew ?_))); (case side2 => exact HC0.out); (case side3 => exact Tabs.below hT (by repeat (first | (with_reducible first | exact HB.out | apply below_alloc | apply pw_below_drewN | apply below_drew1) | exact HB.out))); rintro e w16 ⟨rfl, hb⟩; refine ⟨_, rfl, ?_⟩; have n0_ := Aside0.mk (below_step (by repeat (first | (with_reducible first | exact HB.out | apply below_alloc | apply pw_below_drewN | apply below_drew1) | exact HB.out)) hb); clear HB; have HB := n0_; clear n0_; (try clear hb); (try clear hb2); (try clear hk); (try clear hi)) | ((with_reducible refine gate_callee (f := 9) rfl ?_); refine goesL_ (some 30) rfl rfl Tryz.func9 (by kernel_rfl) rfl #[.string t389] rfl (by (try simp only [List.map_toArray, List.map_cons, List.map_nil]); first | done | rfl | (simp only [List.length_drop, List.length_take]; rfl)) ?_; (with_reducible refine (lexer_All.calls kj1 t389 t391 t392 t393 _ ?side1 A12.out).mono ?_); (case side1 => exact Tabs.below hT (by repeat (first | (with_reducible first | exact HB.out | apply below_alloc | apply pw_below_drewN | apply below_drew1) | exact HB.out))); rintro e w17 ⟨v394, rfl, ho0, hb⟩; refine ⟨_, rfl, ?_⟩; have n0_ := Aside0.mk (Kd.R_lower ho0 (below_size (by repeat (first | (with_reducible first | exact HB.out | apply below_alloc | apply pw_below_drewN | apply below_drew1) | exact HB.out)))); have n1_ := Aside0.mk (below_step (by repeat (first | (with_reducible first | exact HB.out | apply below_alloc | apply pw_below_drewN | apply below_drew1) | exact HB.out)) hb); clear HB; have HO395 := n0_; have HB := n1_; clear n0_ n1_; (try clear hb); (try clear hb2); (try clear hk); (try clear hi); (try clear ho0)) | (go_at_call 12; (with_reducible refine (tailwaterlaw05_alive.calls kj1  t396 _ ?side1 A15.out).mono ?_); (case side1 => exact Tabs.below hT (by repeat (first | (with_reducible first | exact HB.out | apply below_alloc | apply pw_below_drewN | apply below_drew1) | exact HB.out))); rintro e w18 ⟨rfl, hb⟩; have n0_ := Aside0.mk (Kd.R_below (by (with_reducible repeat (first | apply Kd.R_alloc | apply Kd.R_drewN | apply Kd.R_drew)); exact HO395.out) hb); have n1_ := Aside0.mk (below_step (by repeat (first | (with_reducible first | exact HB.out | apply below_alloc | apply pw_below_drewN | apply below_drew1) | exact HB.out)) hb); clear HO395; clear HB; have HO395 := n0_; have HB := n1_; clear n0_ n1_; (try clear hb); (try clear hb2); (try clear hk); (try clear hi)))
       go_ret
       exact ⟨by first | rfl | (simp [errW_none, errW_some] <;> rfl) | (simp [*, errW_none, errW_some] <;> rfl), by repeat (first | (with_reducible first | exact HB.out | apply below_alloc | apply pw_below_drewN | apply below_drew1) | exact HB.out)⟩
      ·rw [if_neg c14] at H
       have c14b0 : (t393 == 4) = false := beq_eq_false_iff_ne.mpr c14
       have c14b1 : (t393 != 4) = true := bne_iff_ne.mpr c14
       obtain rfl := Option.some.inj H
       go_wp2_with (first | ((with_reducible refine gate_callee (f := 11) rfl ?_); refine goesL_ (some 23) rfl rfl Tryz.func11 (by kernel_rfl) rfl #[.slice A0 l0.length c0] rfl (by (try simp only [List.map_toArray, List.map_cons, List.map_nil]); first | done | rfl | (simp only [List.length_drop, List.length_take]; rfl)) ?_; (with_reducible refine (exprs_Text.calls _ _ l0 t389 t390 _ ?side1 ?side2 ?side3 A10.out).mono ?_); (case side1 => repeat (first | exact (Kd.C_below HR0.out HB.out) | (with_reducible refine Kd.C_alloc ?_ _) | (with_reducible refine Kd.C_drewN ?_ _) | (with_reducible refine Kd.C_drew ?_))); (case side2 => exact HC0.out); (case side3 => exact Tabs.below hT (by repeat (first | (with_reducible first | exact HB.out | apply below_alloc | apply pw_below_drewN | apply below_drew1) | exact HB.out))); rintro e w19 ⟨rfl, hb⟩; refine ⟨_, rfl, ?_⟩; have n0_ := Aside0.mk (below_step (by repeat (first | (with_reducible first | exact HB.out | apply below_alloc | apply pw_below_drewN | apply below_drew1) | exact HB.out)) hb); clear HB; have HB := n0_; clear n0_; (try clear hb); (try clear hb2); (try clear hk); (try clear hi)) | ((with_reducible refine gate_callee (f := 9) rfl ?_); refine goesL_ (some 30) rfl rfl Tryz.func9 (by kernel_rfl) rfl #[.string t389] rfl (by (try simp only [List.map_toArray, List.map_cons, List.map_nil]); first | done | rfl | (simp only [List.length_drop, List.length_take]; rfl)) ?_; (with_reducible refine (lexer_All.calls kj1 t389 t391 t392 t393 _ ?side1 A12.out).mono ?_); (case side1 => exact Tabs.below hT (by repeat (first | (with_reducible first | exact HB.out | apply below_alloc | apply pw_below_drewN | apply below_drew1) | exact HB.out))); rintro e w20 ⟨v394, rfl, ho0, hb⟩; refine ⟨_, rfl, ?_⟩; have n0_ := Aside0.mk (Kd.R_lower ho0 (below_size (by repeat (first | (with_reducible first | exact HB.out | apply below_alloc | apply pw_below_drewN | apply below_drew1) | exact HB.out)))); have n1_ := Aside0.mk (below_step (by repeat (first | (with_reducible first | exact HB.out | apply below_alloc | apply pw_below_drewN | apply below_drew1) | exact HB.out)) hb); clear HB; have HO395 := n0_; have HB := n1_; clear n0_ n1_; (try clear hb); (try clear hb2); (try clear hk); (try clear hi); (try clear ho0)))
       go_ret
       exact ⟨by first | rfl | (simp [errW_none, errW_some] <;> rfl) | (simp [*, errW_none, errW_some] <;> rfl), by repeat (first | (with_reducible first | exact HB.out | apply below_alloc | apply pw_below_drewN | apply below_drew1) | exact HB.out)⟩
     ·rw [if_neg c13] at H
      have c13b0 : decide (400 < (t389.size : Int)) = false := decide_eq_false c13
      have c13b1 : decide (400 < t389.size) = false := decide_eq_false (by omega)
      clear c13
      replace H := Option.bind_eq_some_iff.mp H
      obtain ⟨⟨t397, t398, t399⟩, A210, H⟩ := H
      replace H : ((nodes_Same.f l0 t397).bind fun bt402 => (if t393 = 0 then (if t399 = 0 then (if t398 = (t391.length : Int) then (if bt402.2 = 0 then (if bt402.1 = true then ((tailwaterlaw05_alive.f kj1).bind fun t404 => (some t404)) else (some false)) else (some false)) else (some false)) else (some false)) else (some false))) = some r := H
      have A21 := Aside0.mk A210
      clear A210
      replace H := Option.bind_eq_some_iff.mp H
      obtain ⟨⟨t402, t403⟩, A220, H⟩ := H
      replace H : (if t393 = 0 then (if t399 = 0 then (if t398 = (t391.length : Int) then (if t403 = 0 then (if t402 = true then ((tailwaterlaw05_alive.f kj1).bind fun t404 => (some t404)) else (some false)) else (some false)) else (some false)) else (some false)) else (some false)) = some r := H
      have A22 := Aside0.mk A220
      clear A220
      by_cases c23 : t393 = 0
      ·rw [if_pos c23] at H
       have c23b0 : (t393 == 0) = true := beq_iff_eq.mpr c23
       have c23b1 : (t393 != 0) = false := bne_eq_false_iff_eq.mpr c23
       clear c23
       by_cases c24 : t399 = 0
       ·rw [if_pos c24] at H
        have c24b0 : (t399 == 0) = true := beq_iff_eq.mpr c24
        have c24b1 : (t399 != 0) = false := bne_eq_false_iff_eq.mpr c24
        clear c24
        by_cases c25 : t398 = (t391.length : Int)
        ·rw [if_pos c25] at H
         have c25b0 : (t398 == (t391.length : Int)) = true := beq_iff_eq.mpr c25
         have c25b1 : (t398 != (t391.length : Int)) = false := bne_eq_false_iff_eq.mpr c25
         clear c25
         by_cases c26 : t403 = 0
         ·rw [if_pos c26] at H
          have c26b0 : (t403 == 0) = true := beq_iff_eq.mpr c26
          have c26b1 : (t403 != 0) = false := bne_eq_false_iff_eq.mpr c26
          clear c26
          by_cases c27 : t402 = true
          ·subst c27
           have H1 : ((tailwaterlaw05_alive.f kj1).bind fun t404 => (some t404)) = some r := by rw [if_pos rfl] at H; exact H
           clear H
           have H := H1
           clear H1
           replace H := Option.bind_eq_some_iff.mp H
           obtain ⟨t404, A280, H⟩ := H
           replace H : (some t404) = some r := H
           have A28 := Aside0.mk A280
           clear A280
           obtain rfl := Option.some.inj H
           go_wp2_with (first | ((with_reducible refine gate_callee (f := 11) rfl ?_); refine goesL_ (some 23) rfl rfl Tryz.func11 (by kernel_rfl) rfl #[.slice A0 l0.length c0] rfl (by (try simp only [List.map_toArray, List.map_cons, List.map_nil]); first | done | rfl | (simp only [List.length_drop, List.length_take]; rfl)) ?_; (with_reducible refine (exprs_Text.calls _ _ l0 t389 t390 _ ?side1 ?side2 ?side3 A10.out).mono ?_); (case side1 => repeat (first | exact (Kd.C_below HR0.out HB.out) | (with_reducible refine Kd.C_alloc ?_ _) | (with_reducible refine Kd.C_drewN ?_ _) | (with_reducible refine Kd.C_drew ?_))); (case side2 => exact HC0.out); (case side3 => exact Tabs.below hT (by repeat (first | (with_reducible first | exact HB.out | apply below_alloc | apply pw_below_drewN | apply below_drew1) | exact HB.out))); rintro e w29 ⟨rfl, hb⟩; refine ⟨_, rfl, ?_⟩; have n0_ := Aside0.mk (below_step (by repeat (first | (with_reducible first | exact HB.out | apply below_alloc | apply pw_below_drewN | apply below_drew1) | exact HB.out)) hb); clear HB; have HB := n0_; clear n0_; (try clear hb); (try clear hb2); (try clear hk); (try clear hi)) | ((with_reducible refine gate_callee (f := 9) rfl ?_); refine goesL_ (some 30) rfl rfl Tryz.func9 (by kernel_rfl) rfl #[.string t389] rfl (by (try simp only [List.map_toArray, List.map_cons, List.map_nil]); first | done | rfl | (simp only [List.length_drop, List.length_take]; rfl)) ?_; (with_reducible refine (lexer_All.calls kj1 t389 t391 t392 t393 _ ?side1 A12.out).mono ?_); (case side1 => exact Tabs.below hT (by repeat (first | (with_reducible first | exact HB.out | apply below_alloc | apply pw_below_drewN | apply below_drew1) | exact HB.out))); rintro e w30 ⟨v394, rfl, ho0, hb⟩; refine ⟨_, rfl, ?_⟩; have n0_ := Aside0.mk (Kd.R_lower ho0 (below_size (by repeat (first | (with_reducible first | exact HB.out | apply below_alloc | apply pw_below_drewN | apply below_drew1) | exact HB.out)))); have n1_ := Aside0.mk (below_step (by repeat (first | (with_reducible first | exact HB.out | apply below_alloc | apply pw_below_drewN | apply below_drew1) | exact HB.out)) hb); clear HB; have HO395 := n0_; have HB := n1_; clear n0_ n1_; (try clear hb); (try clear hb2); (try clear hk); (try clear hi); (try clear ho0); obtain ⟨Ao31, co31, eo31⟩ := Kd.R_slice HO395.out; subst eo31) | ((with_reducible refine gate_callee (f := 10) rfl ?_); refine goesL_ (some 44) rfl rfl Tryz.func10 (by kernel_rfl) rfl #[.slice Ao31 t391.length co31, .int .i64 0] rfl (by (try simp only [List.map_toArray, List.map_cons, List.map_nil]); first | done | rfl | (simp only [List.length_drop, List.length_take]; rfl)) ?_; (with_reducible refine (exprs_Parse.calls kj1 _ _ t391 0 t397 t398 t399 _ ?side1 ?side2 ?side3 A21.out).mono ?_); (case side1 => repeat (first | exact (Kd.R_reads' HO395.out).2.2 | (with_reducible refine Kd.C_alloc ?_ _) | (with_reducible refine Kd.C_drewN ?_ _) | (with_reducible refine Kd.C_drew ?_))); (case side2 => exact (Kd.R_reads' HO395.out).2.1); (case side3 => exact Tabs.below hT (by repeat (first | (with_reducible first | exact HB.out | apply below_alloc | apply pw_below_drewN | apply below_drew1) | exact HB.out))); rintro e w32 ⟨v400, rfl, ho0, hb⟩; refine ⟨_, rfl, ?_⟩; have n0_ := Aside0.mk (Kd.R_below (by (with_reducible repeat (first | apply Kd.R_alloc | apply Kd.R_drewN | apply Kd.R_drew)); exact HO395.out) hb); have n1_ := Aside0.mk (Kd.R_lower ho0 (below_size (by repeat (first | (with_reducible first | exact HB.out | apply below_alloc | apply pw_below_drewN | apply below_drew1) | exact HB.out)))); have n2_ := Aside0.mk (below_step (by repeat (first | (with_reducible first | exact HB.out | apply below_alloc | apply pw_below_drewN | apply below_drew1) | exact HB.out)) hb); clear HO395; clear HB; have HO395 := n0_; have HO401 := n1_; have HB := n2_; clear n0_ n1_ n2_; (try clear hb); (try clear hb2); (try clear hk); (try clear hi); (try clear ho0); obtain ⟨Ao33, co33, eo33⟩ := Kd.R_slice HO401.out; subst eo33) | ((with_reducible refine gate_callee (f := 19) rfl ?_); refine goesL_ (some 51) rfl rfl Tryz.func19 (by kernel_rfl) rfl #[.slice A0 l0.length c0, .slice Ao33 t397.length co33] rfl (by (try simp only [List.map_toArray, List.map_cons, List.map_nil]); first | done | rfl | (simp only [List.length_drop, List.length_take]; rfl)) ?_; (with_reducible refine (nodes_Same.calls _ _ l0 _ _ t397 true t403 _ ?side1 ?side2 ?side3 ?side4 A22.out).mono ?_); (case side1 => repeat (first | exact (Kd.C_below HR0.out HB.out) | (with_reducible refine Kd.C_alloc ?_ _) | (with_reducible refine Kd.C_drewN ?_ _) | (with_reducible refine Kd.C_drew ?_))); (case side2 => exact HC0.out); (case side3 => repeat (first | exact (Kd.R_reads' HO401.out).2.2 | (with_reducible refine Kd.C_alloc ?_ _) | (with_reducible refine Kd.C_drewN ?_ _) | (with_reducible refine Kd.C_drew ?_))); (case side4 => exact (Kd.R_reads' HO401.out).2.1); rintro e w34 ⟨rfl, hb⟩; refine ⟨_, rfl, ?_⟩; have n0_ := Aside0.mk (Kd.R_below (by (with_reducible repeat (first | apply Kd.R_alloc | apply Kd.R_drewN | apply Kd.R_drew)); exact HO395.out) hb); have n1_ := Aside0.mk (Kd.R_below (by (with_reducible repeat (first | apply Kd.R_alloc | apply Kd.R_drewN | apply Kd.R_drew)); exact HO401.out) hb); have n2_ := Aside0.mk (below_step (by repeat (first | (with_reducible first | exact HB.out | apply below_alloc | apply pw_below_drewN | apply below_drew1) | exact HB.out)) hb); clear HO395; clear HO401; clear HB; have HO395 := n0_; have HO401 := n1_; have HB := n2_; clear n0_ n1_ n2_; (try clear hb); (try clear hb2); (try clear hk); (try clear hi)) | (go_at_call 12; (with_reducible refine (tailwaterlaw05_alive.calls kj1  t404 _ ?side1 A28.out).mono ?_); (case side1 => exact Tabs.below hT (by repeat (first | (with_reducible first | exact HB.out | apply below_alloc | apply pw_below_drewN | apply below_drew1) | exact HB.out))); rintro e w35 ⟨rfl, hb⟩; have n0_ := Aside0.mk (Kd.R_below (by (with_reducible repeat (first | apply Kd.R_alloc | apply Kd.R_drewN | apply Kd.R_drew)); exact HO395.out) hb); have n1_ := Aside0.mk (Kd.R_below (by (with_reducible repeat (first | apply Kd.R_alloc | apply Kd.R_drewN | apply Kd.R_drew)); exact HO401.out) hb); have n2_ := Aside0.mk (below_step (by repeat (first | (with_reducible first | exact HB.out | apply below_alloc | apply pw_below_drewN | apply below_drew1) | exact HB.out)) hb); clear HO395; clear HO401; clear HB; have HO395 := n0_; have HO401 := n1_; have HB := n2_; clear n0_ n1_ n2_; (try clear hb); (try clear hb2); (try clear hk); (try clear hi)))
           go_ret
           exact ⟨by first | rfl | (simp [errW_none, errW_some] <;> rfl) | (simp [*, errW_none, errW_some] <;> rfl), by repeat (first | (with_reducible first | exact HB.out | apply below_alloc | apply pw_below_drewN | apply below_drew1) | exact HB.out)⟩
          ·replace c27 := Bool.eq_false_iff.mpr c27
           subst c27
           have H1 : (some false) = some r := by rw [if_neg (show ¬ (false = true) by decide)] at H; exact H
           clear H
           have H := H1
           clear H1
           obtain rfl := Option.some.inj H
           go_wp2_with (first | ((with_reducible refine gate_callee (f := 11) rfl ?_); refine goesL_ (some 23) rfl rfl Tryz.func11 (by kernel_rfl) rfl #[.slice A0 l0.length c0] rfl (by (try simp only [List.map_toArray, List.map_cons, List.map_nil]); first | done | rfl | (simp only [List.length_drop, List.length_take]; rfl)) ?_; (with_reducible refine (exprs_Text.calls _ _ l0 t389 t390 _ ?side1 ?side2 ?side3 A10.out).mono ?_); (case side1 => repeat (first | exact (Kd.C_below HR0.out HB.out) | (with_reducible refine Kd.C_alloc ?_ _) | (with_reducible refine Kd.C_drewN ?_ _) | (with_reducible refine Kd.C_drew ?_))); (case side2 => exact HC0.out); (case side3 => exact Tabs.below hT (by repeat (first | (with_reducible first | exact HB.out | apply below_alloc | apply pw_below_drewN | apply below_drew1) | exact HB.out))); rintro e w36 ⟨rfl, hb⟩; refine ⟨_, rfl, ?_⟩; have n0_ := Aside0.mk (below_step (by repeat (first | (with_reducible first | exact HB.out | apply below_alloc | apply pw_below_drewN | apply below_drew1) | exact HB.out)) hb); clear HB; have HB := n0_; clear n0_; (try clear hb); (try clear hb2); (try clear hk); (try clear hi)) | ((with_reducible refine gate_callee (f := 9) rfl ?_); refine goesL_ (some 30) rfl rfl Tryz.func9 (by kernel_rfl) rfl #[.string t389] rfl (by (try simp only [List.map_toArray, List.map_cons, List.map_nil]); first | done | rfl | (simp only [List.length_drop, List.length_take]; rfl)) ?_; (with_reducible refine (lexer_All.calls kj1 t389 t391 t392 t393 _ ?side1 A12.out).mono ?_); (case side1 => exact Tabs.below hT (by repeat (first | (with_reducible first | exact HB.out | apply below_alloc | apply pw_below_drewN | apply below_drew1) | exact HB.out))); rintro e w37 ⟨v394, rfl, ho0, hb⟩; refine ⟨_, rfl, ?_⟩; have n0_ := Aside0.mk (Kd.R_lower ho0 (below_size (by repeat (first | (with_reducible first | exact HB.out | apply below_alloc | apply pw_below_drewN | apply below_drew1) | exact HB.out)))); have n1_ := Aside0.mk (below_step (by repeat (first | (with_reducible first | exact HB.out | apply below_alloc | apply pw_below_drewN | apply below_drew1) | exact HB.out)) hb); clear HB; have HO395 := n0_; have HB := n1_; clear n0_ n1_; (try clear hb); (try clear hb2); (try clear hk); (try clear hi); (try clear ho0); obtain ⟨Ao38, co38, eo38⟩ := Kd.R_slice HO395.out; subst eo38) | ((with_reducible refine gate_callee (f := 10) rfl ?_); refine goesL_ (some 44) rfl rfl Tryz.func10 (by kernel_rfl) rfl #[.slice Ao38 t391.length co38, .int .i64 0] rfl (by (try simp only [List.map_toArray, List.map_cons, List.map_nil]); first | done | rfl | (simp only [List.length_drop, List.length_take]; rfl)) ?_; (with_reducible refine (exprs_Parse.calls kj1 _ _ t391 0 t397 t398 t399 _ ?side1 ?side2 ?side3 A21.out).mono ?_); (case side1 => repeat (first | exact (Kd.R_reads' HO395.out).2.2 | (with_reducible refine Kd.C_alloc ?_ _) | (with_reducible refine Kd.C_drewN ?_ _) | (with_reducible refine Kd.C_drew ?_))); (case side2 => exact (Kd.R_reads' HO395.out).2.1); (case side3 => exact Tabs.below hT (by repeat (first | (with_reducible first | exact HB.out | apply below_alloc | apply pw_below_drewN | apply below_drew1) | exact HB.out))); rintro e w39 ⟨v400, rfl, ho0, hb⟩; refine ⟨_, rfl, ?_⟩; have n0_ := Aside0.mk (Kd.R_below (by (with_reducible repeat (first | apply Kd.R_alloc | apply Kd.R_drewN | apply Kd.R_drew)); exact HO395.out) hb); have n1_ := Aside0.mk (Kd.R_lower ho0 (below_size (by repeat (first | (with_reducible first | exact HB.out | apply below_alloc | apply pw_below_drewN | apply below_drew1) | exact HB.out)))); have n2_ := Aside0.mk (below_step (by repeat (first | (with_reducible first | exact HB.out | apply below_alloc | apply pw_below_drewN | apply below_drew1) | exact HB.out)) hb); clear HO395; clear HB; have HO395 := n0_; have HO401 := n1_; have HB := n2_; clear n0_ n1_ n2_; (try clear hb); (try clear hb2); (try clear hk); (try clear hi); (try clear ho0); obtain ⟨Ao40, co40, eo40⟩ := Kd.R_slice HO401.out; subst eo40) | ((with_reducible refine gate_callee (f := 19) rfl ?_); refine goesL_ (some 51) rfl rfl Tryz.func19 (by kernel_rfl) rfl #[.slice A0 l0.length c0, .slice Ao40 t397.length co40] rfl (by (try simp only [List.map_toArray, List.map_cons, List.map_nil]); first | done | rfl | (simp only [List.length_drop, List.length_take]; rfl)) ?_; (with_reducible refine (nodes_Same.calls _ _ l0 _ _ t397 false t403 _ ?side1 ?side2 ?side3 ?side4 A22.out).mono ?_); (case side1 => repeat (first | exact (Kd.C_below HR0.out HB.out) | (with_reducible refine Kd.C_alloc ?_ _) | (with_reducible refine Kd.C_drewN ?_ _) | (with_reducible refine Kd.C_drew ?_))); (case side2 => exact HC0.out); (case side3 => repeat (first | exact (Kd.R_reads' HO401.out).2.2 | (with_reducible refine Kd.C_alloc ?_ _) | (with_reducible refine Kd.C_drewN ?_ _) | (with_reducible refine Kd.C_drew ?_))); (case side4 => exact (Kd.R_reads' HO401.out).2.1); rintro e w41 ⟨rfl, hb⟩; refine ⟨_, rfl, ?_⟩; have n0_ := Aside0.mk (Kd.R_below (by (with_reducible repeat (first | apply Kd.R_alloc | apply Kd.R_drewN | apply Kd.R_drew)); exact HO395.out) hb); have n1_ := Aside0.mk (Kd.R_below (by (with_reducible repeat (first | apply Kd.R_alloc | apply Kd.R_drewN | apply Kd.R_drew)); exact HO401.out) hb); have n2_ := Aside0.mk (below_step (by repeat (first | (with_reducible first | exact HB.out | apply below_alloc | apply pw_below_drewN | apply below_drew1) | exact HB.out)) hb); clear HO395; clear HO401; clear HB; have HO395 := n0_; have HO401 := n1_; have HB := n2_; clear n0_ n1_ n2_; (try clear hb); (try clear hb2); (try clear hk); (try clear hi)))
           go_ret
           exact ⟨by first | rfl | (simp [errW_none, errW_some] <;> rfl) | (simp [*, errW_none, errW_some] <;> rfl), by repeat (first | (with_reducible first | exact HB.out | apply below_alloc | apply pw_below_drewN | apply below_drew1) | exact HB.out)⟩
         ·rw [if_neg c26] at H
          have c26b0 : (t403 == 0) = false := beq_eq_false_iff_ne.mpr c26
          have c26b1 : (t403 != 0) = true := bne_iff_ne.mpr c26
          obtain rfl := Option.some.inj H
          go_wp2_with (first | ((with_reducible refine gate_callee (f := 11) rfl ?_); refine goesL_ (some 23) rfl rfl Tryz.func11 (by kernel_rfl) rfl #[.slice A0 l0.length c0] rfl (by (try simp only [List.map_toArray, List.map_cons, List.map_nil]); first | done | rfl | (simp only [List.length_drop, List.length_take]; rfl)) ?_; (with_reducible refine (exprs_Text.calls _ _ l0 t389 t390 _ ?side1 ?side2 ?side3 A10.out).mono ?_); (case side1 => repeat (first | exact (Kd.C_below HR0.out HB.out) | (with_reducible refine Kd.C_alloc ?_ _) | (with_reducible refine Kd.C_drewN ?_ _) | (with_reducible refine Kd.C_drew ?_))); (case side2 => exact HC0.out); (case side3 => exact Tabs.below hT (by repeat (first | (with_reducible first | exact HB.out | apply below_alloc | apply pw_below_drewN | apply below_drew1) | exact HB.out))); rintro e w42 ⟨rfl, hb⟩; refine ⟨_, rfl, ?_⟩; have n0_ := Aside0.mk (below_step (by repeat (first | (with_reducible first | exact HB.out | apply below_alloc | apply pw_below_drewN | apply below_drew1) | exact HB.out)) hb); clear HB; have HB := n0_; clear n0_; (try clear hb); (try clear hb2); (try clear hk); (try clear hi)) | ((with_reducible refine gate_callee (f := 9) rfl ?_); refine goesL_ (some 30) rfl rfl Tryz.func9 (by kernel_rfl) rfl #[.string t389] rfl (by (try simp only [List.map_toArray, List.map_cons, List.map_nil]); first | done | rfl | (simp only [List.length_drop, List.length_take]; rfl)) ?_; (with_reducible refine (lexer_All.calls kj1 t389 t391 t392 t393 _ ?side1 A12.out).mono ?_); (case side1 => exact Tabs.below hT (by repeat (first | (with_reducible first | exact HB.out | apply below_alloc | apply pw_below_drewN | apply below_drew1) | exact HB.out))); rintro e w43 ⟨v394, rfl, ho0, hb⟩; refine ⟨_, rfl, ?_⟩; have n0_ := Aside0.mk (Kd.R_lower ho0 (below_size (by repeat (first | (with_reducible first | exact HB.out | apply below_alloc | apply pw_below_drewN | apply below_drew1) | exact HB.out)))); have n1_ := Aside0.mk (below_step (by repeat (first | (with_reducible first | exact HB.out | apply below_alloc | apply pw_below_drewN | apply below_drew1) | exact HB.out)) hb); clear HB; have HO395 := n0_; have HB := n1_; clear n0_ n1_; (try clear hb); (try clear hb2); (try clear hk); (try clear hi); (try clear ho0); obtain ⟨Ao44, co44, eo44⟩ := Kd.R_slice HO395.out; subst eo44) | ((with_reducible refine gate_callee (f := 10) rfl ?_); refine goesL_ (some 44) rfl rfl Tryz.func10 (by kernel_rfl) rfl #[.slice Ao44 t391.length co44, .int .i64 0] rfl (by (try simp only [List.map_toArray, List.map_cons, List.map_nil]); first | done | rfl | (simp only [List.length_drop, List.length_take]; rfl)) ?_; (with_reducible refine (exprs_Parse.calls kj1 _ _ t391 0 t397 t398 t399 _ ?side1 ?side2 ?side3 A21.out).mono ?_); (case side1 => repeat (first | exact (Kd.R_reads' HO395.out).2.2 | (with_reducible refine Kd.C_alloc ?_ _) | (with_reducible refine Kd.C_drewN ?_ _) | (with_reducible refine Kd.C_drew ?_))); (case side2 => exact (Kd.R_reads' HO395.out).2.1); (case side3 => exact Tabs.below hT (by repeat (first | (with_reducible first | exact HB.out | apply below_alloc | apply pw_below_drewN | apply below_drew1) | exact HB.out))); rintro e w45 ⟨v400, rfl, ho0, hb⟩; refine ⟨_, rfl, ?_⟩; have n0_ := Aside0.mk (Kd.R_below (by (with_reducible repeat (first | apply Kd.R_alloc | apply Kd.R_drewN | apply Kd.R_drew)); exact HO395.out) hb); have n1_ := Aside0.mk (Kd.R_lower ho0 (below_size (by repeat (first | (with_reducible first | exact HB.out | apply below_alloc | apply pw_below_drewN | apply below_drew1) | exact HB.out)))); have n2_ := Aside0.mk (below_step (by repeat (first | (with_reducible first | exact HB.out | apply below_alloc | apply pw_below_drewN | apply below_drew1) | exact HB.out)) hb); clear HO395; clear HB; have HO395 := n0_; have HO401 := n1_; have HB := n2_; clear n0_ n1_ n2_; (try clear hb); (try clear hb2); (try clear hk); (try clear hi); (try clear ho0); obtain ⟨Ao46, co46, eo46⟩ := Kd.R_slice HO401.out; subst eo46) | ((with_reducible refine gate_callee (f := 19) rfl ?_); refine goesL_ (some 51) rfl rfl Tryz.func19 (by kernel_rfl) rfl #[.slice A0 l0.length c0, .slice Ao46 t397.length co46] rfl (by (try simp only [List.map_toArray, List.map_cons, List.map_nil]); first | done | rfl | (simp only [List.length_drop, List.length_take]; rfl)) ?_; (with_reducible refine (nodes_Same.calls _ _ l0 _ _ t397 t402 t403 _ ?side1 ?side2 ?side3 ?side4 A22.out).mono ?_); (case side1 => repeat (first | exact (Kd.C_below HR0.out HB.out) | (with_reducible refine Kd.C_alloc ?_ _) | (with_reducible refine Kd.C_drewN ?_ _) | (with_reducible refine Kd.C_drew ?_))); (case side2 => exact HC0.out); (case side3 => repeat (first | exact (Kd.R_reads' HO401.out).2.2 | (with_reducible refine Kd.C_alloc ?_ _) | (with_reducible refine Kd.C_drewN ?_ _) | (with_reducible refine Kd.C_drew ?_))); (case side4 => exact (Kd.R_reads' HO401.out).2.1); rintro e w47 ⟨rfl, hb⟩; refine ⟨_, rfl, ?_⟩; have n0_ := Aside0.mk (Kd.R_below (by (with_reducible repeat (first | apply Kd.R_alloc | apply Kd.R_drewN | apply Kd.R_drew)); exact HO395.out) hb); have n1_ := Aside0.mk (Kd.R_below (by (with_reducible repeat (first | apply Kd.R_alloc | apply Kd.R_drewN | apply Kd.R_drew)); exact HO401.out) hb); have n2_ := Aside0.mk (below_step (by repeat (first | (with_reducible first | exact HB.out | apply below_alloc | apply pw_below_drewN | apply below_drew1) | exact HB.out)) hb); clear HO395; clear HO401; clear HB; have HO395 := n0_; have HO401 := n1_; have HB := n2_; clear n0_ n1_ n2_; (try clear hb); (try clear hb2); (try clear hk); (try clear hi)))
          go_ret
          exact ⟨by first | rfl | (simp [errW_none, errW_some] <;> rfl) | (simp [*, errW_none, errW_some] <;> rfl), by repeat (first | (with_reducible first | exact HB.out | apply below_alloc | apply pw_below_drewN | apply below_drew1) | exact HB.out)⟩
        ·rw [if_neg c25] at H
         have c25b0 : (t398 == (t391.length : Int)) = false := beq_eq_false_iff_ne.mpr c25
         have c25b1 : (t398 != (t391.length : Int)) = true := bne_iff_ne.mpr c25
         obtain rfl := Option.some.inj H
         go_wp2_with (first | ((with_reducible refine gate_callee (f := 11) rfl ?_); refine goesL_ (some 23) rfl rfl Tryz.func11 (by kernel_rfl) rfl #[.slice A0 l0.length c0] rfl (by (try simp only [List.map_toArray, List.map_cons, List.map_nil]); first | done | rfl | (simp only [List.length_drop, List.length_take]; rfl)) ?_; (with_reducible refine (exprs_Text.calls _ _ l0 t389 t390 _ ?side1 ?side2 ?side3 A10.out).mono ?_); (case side1 => repeat (first | exact (Kd.C_below HR0.out HB.out) | (with_reducible refine Kd.C_alloc ?_ _) | (with_reducible refine Kd.C_drewN ?_ _) | (with_reducible refine Kd.C_drew ?_))); (case side2 => exact HC0.out); (case side3 => exact Tabs.below hT (by repeat (first | (with_reducible first | exact HB.out | apply below_alloc | apply pw_below_drewN | apply below_drew1) | exact HB.out))); rintro e w48 ⟨rfl, hb⟩; refine ⟨_, rfl, ?_⟩; have n0_ := Aside0.mk (below_step (by repeat (first | (with_reducible first | exact HB.out | apply below_alloc | apply pw_below_drewN | apply below_drew1) | exact HB.out)) hb); clear HB; have HB := n0_; clear n0_; (try clear hb); (try clear hb2); (try clear hk); (try clear hi)) | ((with_reducible refine gate_callee (f := 9) rfl ?_); refine goesL_ (some 30) rfl rfl Tryz.func9 (by kernel_rfl) rfl #[.string t389] rfl (by (try simp only [List.map_toArray, List.map_cons, List.map_nil]); first | done | rfl | (simp only [List.length_drop, List.length_take]; rfl)) ?_; (with_reducible refine (lexer_All.calls kj1 t389 t391 t392 t393 _ ?side1 A12.out).mono ?_); (case side1 => exact Tabs.below hT (by repeat (first | (with_reducible first | exact HB.out | apply below_alloc | apply pw_below_drewN | apply below_drew1) | exact HB.out))); rintro e w49 ⟨v394, rfl, ho0, hb⟩; refine ⟨_, rfl, ?_⟩; have n0_ := Aside0.mk (Kd.R_lower ho0 (below_size (by repeat (first | (with_reducible first | exact HB.out | apply below_alloc | apply pw_below_drewN | apply below_drew1) | exact HB.out)))); have n1_ := Aside0.mk (below_step (by repeat (first | (with_reducible first | exact HB.out | apply below_alloc | apply pw_below_drewN | apply below_drew1) | exact HB.out)) hb); clear HB; have HO395 := n0_; have HB := n1_; clear n0_ n1_; (try clear hb); (try clear hb2); (try clear hk); (try clear hi); (try clear ho0); obtain ⟨Ao50, co50, eo50⟩ := Kd.R_slice HO395.out; subst eo50) | ((with_reducible refine gate_callee (f := 10) rfl ?_); refine goesL_ (some 44) rfl rfl Tryz.func10 (by kernel_rfl) rfl #[.slice Ao50 t391.length co50, .int .i64 0] rfl (by (try simp only [List.map_toArray, List.map_cons, List.map_nil]); first | done | rfl | (simp only [List.length_drop, List.length_take]; rfl)) ?_; (with_reducible refine (exprs_Parse.calls kj1 _ _ t391 0 t397 t398 t399 _ ?side1 ?side2 ?side3 A21.out).mono ?_); (case side1 => repeat (first | exact (Kd.R_reads' HO395.out).2.2 | (with_reducible refine Kd.C_alloc ?_ _) | (with_reducible refine Kd.C_drewN ?_ _) | (with_reducible refine Kd.C_drew ?_))); (case side2 => exact (Kd.R_reads' HO395.out).2.1); (case side3 => exact Tabs.below hT (by repeat (first | (with_reducible first | exact HB.out | apply below_alloc | apply pw_below_drewN | apply below_drew1) | exact HB.out))); rintro e w51 ⟨v400, rfl, ho0, hb⟩; refine ⟨_, rfl, ?_⟩; have n0_ := Aside0.mk (Kd.R_below (by (with_reducible repeat (first | apply Kd.R_alloc | apply Kd.R_drewN | apply Kd.R_drew)); exact HO395.out) hb); have n1_ := Aside0.mk (Kd.R_lower ho0 (below_size (by repeat (first | (with_reducible first | exact HB.out | apply below_alloc | apply pw_below_drewN | apply below_drew1) | exact HB.out)))); have n2_ := Aside0.mk (below_step (by repeat (first | (with_reducible first | exact HB.out | apply below_alloc | apply pw_below_drewN | apply below_drew1) | exact HB.out)) hb); clear HO395; clear HB; have HO395 := n0_; have HO401 := n1_; have HB := n2_; clear n0_ n1_ n2_; (try clear hb); (try clear hb2); (try clear hk); (try clear hi); (try clear ho0); obtain ⟨Ao52, co52, eo52⟩ := Kd.R_slice HO401.out; subst eo52) | ((with_reducible refine gate_callee (f := 19) rfl ?_); refine goesL_ (some 51) rfl rfl Tryz.func19 (by kernel_rfl) rfl #[.slice A0 l0.length c0, .slice Ao52 t397.length co52] rfl (by (try simp only [List.map_toArray, List.map_cons, List.map_nil]); first | done | rfl | (simp only [List.length_drop, List.length_take]; rfl)) ?_; (with_reducible refine (nodes_Same.calls _ _ l0 _ _ t397 t402 t403 _ ?side1 ?side2 ?side3 ?side4 A22.out).mono ?_); (case side1 => repeat (first | exact (Kd.C_below HR0.out HB.out) | (with_reducible refine Kd.C_alloc ?_ _) | (with_reducible refine Kd.C_drewN ?_ _) | (with_reducible refine Kd.C_drew ?_))); (case side2 => exact HC0.out); (case side3 => repeat (first | exact (Kd.R_reads' HO401.out).2.2 | (with_reducible refine Kd.C_alloc ?_ _) | (with_reducible refine Kd.C_drewN ?_ _) | (with_reducible refine Kd.C_drew ?_))); (case side4 => exact (Kd.R_reads' HO401.out).2.1); rintro e w53 ⟨rfl, hb⟩; refine ⟨_, rfl, ?_⟩; have n0_ := Aside0.mk (Kd.R_below (by (with_reducible repeat (first | apply Kd.R_alloc | apply Kd.R_drewN | apply Kd.R_drew)); exact HO395.out) hb); have n1_ := Aside0.mk (Kd.R_below (by (with_reducible repeat (first | apply Kd.R_alloc | apply Kd.R_drewN | apply Kd.R_drew)); exact HO401.out) hb); have n2_ := Aside0.mk (below_step (by repeat (first | (with_reducible first | exact HB.out | apply below_alloc | apply pw_below_drewN | apply below_drew1) | exact HB.out)) hb); clear HO395; clear HO401; clear HB; have HO395 := n0_; have HO401 := n1_; have HB := n2_; clear n0_ n1_ n2_; (try clear hb); (try clear hb2); (try clear hk); (try clear hi)))
         go_ret
         exact ⟨by first | rfl | (simp [errW_none, errW_some] <;> rfl) | (simp [*, errW_none, errW_some] <;> rfl), by repeat (first | (with_reducible first | exact HB.out | apply below_alloc | apply pw_below_drewN | apply below_drew1) | exact HB.out)⟩
       ·rw [if_neg c24] at H
        have c24b0 : (t399 == 0) = false := beq_eq_false_iff_ne.mpr c24
        have c24b1 : (t399 != 0) = true := bne_iff_ne.mpr c24
        obtain rfl := Option.some.inj H
        go_wp2_with (first | ((with_reducible refine gate_callee (f := 11) rfl ?_); refine goesL_ (some 23) rfl rfl Tryz.func11 (by kernel_rfl) rfl #[.slice A0 l0.length c0] rfl (by (try simp only [List.map_toArray, List.map_cons, List.map_nil]); first | done | rfl | (simp only [List.length_drop, List.length_take]; rfl)) ?_; (with_reducible refine (exprs_Text.calls _ _ l0 t389 t390 _ ?side1 ?side2 ?side3 A10.out).mono ?_); (case side1 => repeat (first | exact (Kd.C_below HR0.out HB.out) | (with_reducible refine Kd.C_alloc ?_ _) | (with_reducible refine Kd.C_drewN ?_ _) | (with_reducible refine Kd.C_drew ?_))); (case side2 => exact HC0.out); (case side3 => exact Tabs.below hT (by repeat (first | (with_reducible first | exact HB.out | apply below_alloc | apply pw_below_drewN | apply below_drew1) | exact HB.out))); rintro e w54 ⟨rfl, hb⟩; refine ⟨_, rfl, ?_⟩; have n0_ := Aside0.mk (below_step (by repeat (first | (with_reducible first | exact HB.out | apply below_alloc | apply pw_below_drewN | apply below_drew1) | exact HB.out)) hb); clear HB; have HB := n0_; clear n0_; (try clear hb); (try clear hb2); (try clear hk); (try clear hi)) | ((with_reducible refine gate_callee (f := 9) rfl ?_); refine goesL_ (some 30) rfl rfl Tryz.func9 (by kernel_rfl) rfl #[.string t389] rfl (by (try simp only [List.map_toArray, List.map_cons, List.map_nil]); first | done | rfl | (simp only [List.length_drop, List.length_take]; rfl)) ?_; (with_reducible refine (lexer_All.calls kj1 t389 t391 t392 t393 _ ?side1 A12.out).mono ?_); (case side1 => exact Tabs.below hT (by repeat (first | (with_reducible first | exact HB.out | apply below_alloc | apply pw_below_drewN | apply below_drew1) | exact HB.out))); rintro e w55 ⟨v394, rfl, ho0, hb⟩; refine ⟨_, rfl, ?_⟩; have n0_ := Aside0.mk (Kd.R_lower ho0 (below_size (by repeat (first | (with_reducible first | exact HB.out | apply below_alloc | apply pw_below_drewN | apply below_drew1) | exact HB.out)))); have n1_ := Aside0.mk (below_step (by repeat (first | (with_reducible first | exact HB.out | apply below_alloc | apply pw_below_drewN | apply below_drew1) | exact HB.out)) hb); clear HB; have HO395 := n0_; have HB := n1_; clear n0_ n1_; (try clear hb); (try clear hb2); (try clear hk); (try clear hi); (try clear ho0); obtain ⟨Ao56, co56, eo56⟩ := Kd.R_slice HO395.out; subst eo56) | ((with_reducible refine gate_callee (f := 10) rfl ?_); refine goesL_ (some 44) rfl rfl Tryz.func10 (by kernel_rfl) rfl #[.slice Ao56 t391.length co56, .int .i64 0] rfl (by (try simp only [List.map_toArray, List.map_cons, List.map_nil]); first | done | rfl | (simp only [List.length_drop, List.length_take]; rfl)) ?_; (with_reducible refine (exprs_Parse.calls kj1 _ _ t391 0 t397 t398 t399 _ ?side1 ?side2 ?side3 A21.out).mono ?_); (case side1 => repeat (first | exact (Kd.R_reads' HO395.out).2.2 | (with_reducible refine Kd.C_alloc ?_ _) | (with_reducible refine Kd.C_drewN ?_ _) | (with_reducible refine Kd.C_drew ?_))); (case side2 => exact (Kd.R_reads' HO395.out).2.1); (case side3 => exact Tabs.below hT (by repeat (first | (with_reducible first | exact HB.out | apply below_alloc | apply pw_below_drewN | apply below_drew1) | exact HB.out))); rintro e w57 ⟨v400, rfl, ho0, hb⟩; refine ⟨_, rfl, ?_⟩; have n0_ := Aside0.mk (Kd.R_below (by (with_reducible repeat (first | apply Kd.R_alloc | apply Kd.R_drewN | apply Kd.R_drew)); exact HO395.out) hb); have n1_ := Aside0.mk (Kd.R_lower ho0 (below_size (by repeat (first | (with_reducible first | exact HB.out | apply below_alloc | apply pw_below_drewN | apply below_drew1) | exact HB.out)))); have n2_ := Aside0.mk (below_step (by repeat (first | (with_reducible first | exact HB.out | apply below_alloc | apply pw_below_drewN | apply below_drew1) | exact HB.out)) hb); clear HO395; clear HB; have HO395 := n0_; have HO401 := n1_; have HB := n2_; clear n0_ n1_ n2_; (try clear hb); (try clear hb2); (try clear hk); (try clear hi); (try clear ho0); obtain ⟨Ao58, co58, eo58⟩ := Kd.R_slice HO401.out; subst eo58) | ((with_reducible refine gate_callee (f := 19) rfl ?_); refine goesL_ (some 51) rfl rfl Tryz.func19 (by kernel_rfl) rfl #[.slice A0 l0.length c0, .slice Ao58 t397.length co58] rfl (by (try simp only [List.map_toArray, List.map_cons, List.map_nil]); first | done | rfl | (simp only [List.length_drop, List.length_take]; rfl)) ?_; (with_reducible refine (nodes_Same.calls _ _ l0 _ _ t397 t402 t403 _ ?side1 ?side2 ?side3 ?side4 A22.out).mono ?_); (case side1 => repeat (first | exact (Kd.C_below HR0.out HB.out) | (with_reducible refine Kd.C_alloc ?_ _) | (with_reducible refine Kd.C_drewN ?_ _) | (with_reducible refine Kd.C_drew ?_))); (case side2 => exact HC0.out); (case side3 => repeat (first | exact (Kd.R_reads' HO401.out).2.2 | (with_reducible refine Kd.C_alloc ?_ _) | (with_reducible refine Kd.C_drewN ?_ _) | (with_reducible refine Kd.C_drew ?_))); (case side4 => exact (Kd.R_reads' HO401.out).2.1); rintro e w59 ⟨rfl, hb⟩; refine ⟨_, rfl, ?_⟩; have n0_ := Aside0.mk (Kd.R_below (by (with_reducible repeat (first | apply Kd.R_alloc | apply Kd.R_drewN | apply Kd.R_drew)); exact HO395.out) hb); have n1_ := Aside0.mk (Kd.R_below (by (with_reducible repeat (first | apply Kd.R_alloc | apply Kd.R_drewN | apply Kd.R_drew)); exact HO401.out) hb); have n2_ := Aside0.mk (below_step (by repeat (first | (with_reducible first | exact HB.out | apply below_alloc | apply pw_below_drewN | apply below_drew1) | exact HB.out)) hb); clear HO395; clear HO401; clear HB; have HO395 := n0_; have HO401 := n1_; have HB := n2_; clear n0_ n1_ n2_; (try clear hb); (try clear hb2); (try clear hk); (try clear hi)))
        go_ret
        exact ⟨by first | rfl | (simp [errW_none, errW_some] <;> rfl) | (simp [*, errW_none, errW_some] <;> rfl), by repeat (first | (with_reducible first | exact HB.out | apply below_alloc | apply pw_below_drewN | apply below_drew1) | exact HB.out)⟩
      ·rw [if_neg c23] at H
       have c23b0 : (t393 == 0) = false := beq_eq_false_iff_ne.mpr c23
       have c23b1 : (t393 != 0) = true := bne_iff_ne.mpr c23
       obtain rfl := Option.some.inj H
       go_wp2_with (first | ((with_reducible refine gate_callee (f := 11) rfl ?_); refine goesL_ (some 23) rfl rfl Tryz.func11 (by kernel_rfl) rfl #[.slice A0 l0.length c0] rfl (by (try simp only [List.map_toArray, List.map_cons, List.map_nil]); first | done | rfl | (simp only [List.length_drop, List.length_take]; rfl)) ?_; (with_reducible refine (exprs_Text.calls _ _ l0 t389 t390 _ ?side1 ?side2 ?side3 A10.out).mono ?_); (case side1 => repeat (first | exact (Kd.C_below HR0.out HB.out) | (with_reducible refine Kd.C_alloc ?_ _) | (with_reducible refine Kd.C_drewN ?_ _) | (with_reducible refine Kd.C_drew ?_))); (case side2 => exact HC0.out); (case side3 => exact Tabs.below hT (by repeat (first | (with_reducible first | exact HB.out | apply below_alloc | apply pw_below_drewN | apply below_drew1) | exact HB.out))); rintro e w60 ⟨rfl, hb⟩; refine ⟨_, rfl, ?_⟩; have n0_ := Aside0.mk (below_step (by repeat (first | (with_reducible first | exact HB.out | apply below_alloc | apply pw_below_drewN | apply below_drew1) | exact HB.out)) hb); clear HB; have HB := n0_; clear n0_; (try clear hb); (try clear hb2); (try clear hk); (try clear hi)) | ((with_reducible refine gate_callee (f := 9) rfl ?_); refine goesL_ (some 30) rfl rfl Tryz.func9 (by kernel_rfl) rfl #[.string t389] rfl (by (try simp only [List.map_toArray, List.map_cons, List.map_nil]); first | done | rfl | (simp only [List.length_drop, List.length_take]; rfl)) ?_; (with_reducible refine (lexer_All.calls kj1 t389 t391 t392 t393 _ ?side1 A12.out).mono ?_); (case side1 => exact Tabs.below hT (by repeat (first | (with_reducible first | exact HB.out | apply below_alloc | apply pw_below_drewN | apply below_drew1) | exact HB.out))); rintro e w61 ⟨v394, rfl, ho0, hb⟩; refine ⟨_, rfl, ?_⟩; have n0_ := Aside0.mk (Kd.R_lower ho0 (below_size (by repeat (first | (with_reducible first | exact HB.out | apply below_alloc | apply pw_below_drewN | apply below_drew1) | exact HB.out)))); have n1_ := Aside0.mk (below_step (by repeat (first | (with_reducible first | exact HB.out | apply below_alloc | apply pw_below_drewN | apply below_drew1) | exact HB.out)) hb); clear HB; have HO395 := n0_; have HB := n1_; clear n0_ n1_; (try clear hb); (try clear hb2); (try clear hk); (try clear hi); (try clear ho0); obtain ⟨Ao62, co62, eo62⟩ := Kd.R_slice HO395.out; subst eo62) | ((with_reducible refine gate_callee (f := 10) rfl ?_); refine goesL_ (some 44) rfl rfl Tryz.func10 (by kernel_rfl) rfl #[.slice Ao62 t391.length co62, .int .i64 0] rfl (by (try simp only [List.map_toArray, List.map_cons, List.map_nil]); first | done | rfl | (simp only [List.length_drop, List.length_take]; rfl)) ?_; (with_reducible refine (exprs_Parse.calls kj1 _ _ t391 0 t397 t398 t399 _ ?side1 ?side2 ?side3 A21.out).mono ?_); (case side1 => repeat (first | exact (Kd.R_reads' HO395.out).2.2 | (with_reducible refine Kd.C_alloc ?_ _) | (with_reducible refine Kd.C_drewN ?_ _) | (with_reducible refine Kd.C_drew ?_))); (case side2 => exact (Kd.R_reads' HO395.out).2.1); (case side3 => exact Tabs.below hT (by repeat (first | (with_reducible first | exact HB.out | apply below_alloc | apply pw_below_drewN | apply below_drew1) | exact HB.out))); rintro e w63 ⟨v400, rfl, ho0, hb⟩; refine ⟨_, rfl, ?_⟩; have n0_ := Aside0.mk (Kd.R_below (by (with_reducible repeat (first | apply Kd.R_alloc | apply Kd.R_drewN | apply Kd.R_drew)); exact HO395.out) hb); have n1_ := Aside0.mk (Kd.R_lower ho0 (below_size (by repeat (first | (with_reducible first | exact HB.out | apply below_alloc | apply pw_below_drewN | apply below_drew1) | exact HB.out)))); have n2_ := Aside0.mk (below_step (by repeat (first | (with_reducible first | exact HB.out | apply below_alloc | apply pw_below_drewN | apply below_drew1) | exact HB.out)) hb); clear HO395; clear HB; have HO395 := n0_; have HO401 := n1_; have HB := n2_; clear n0_ n1_ n2_; (try clear hb); (try clear hb2); (try clear hk); (try clear hi); (try clear ho0); obtain ⟨Ao64, co64, eo64⟩ := Kd.R_slice HO401.out; subst eo64) | ((with_reducible refine gate_callee (f := 19) rfl ?_); refine goesL_ (some 51) rfl rfl Tryz.func19 (by kernel_rfl) rfl #[.slice A0 l0.length c0, .slice Ao64 t397.length co64] rfl (by (try simp only [List.map_toArray, List.map_cons, List.map_nil]); first | done | rfl | (simp only [List.length_drop, List.length_take]; rfl)) ?_; (with_reducible refine (nodes_Same.calls _ _ l0 _ _ t397 t402 t403 _ ?side1 ?side2 ?side3 ?side4 A22.out).mono ?_); (case side1 => repeat (first | exact (Kd.C_below HR0.out HB.out) | (with_reducible refine Kd.C_alloc ?_ _) | (with_reducible refine Kd.C_drewN ?_ _) | (with_reducible refine Kd.C_drew ?_))); (case side2 => exact HC0.out); (case side3 => repeat (first | exact (Kd.R_reads' HO401.out).2.2 | (with_reducible refine Kd.C_alloc ?_ _) | (with_reducible refine Kd.C_drewN ?_ _) | (with_reducible refine Kd.C_drew ?_))); (case side4 => exact (Kd.R_reads' HO401.out).2.1); rintro e w65 ⟨rfl, hb⟩; refine ⟨_, rfl, ?_⟩; have n0_ := Aside0.mk (Kd.R_below (by (with_reducible repeat (first | apply Kd.R_alloc | apply Kd.R_drewN | apply Kd.R_drew)); exact HO395.out) hb); have n1_ := Aside0.mk (Kd.R_below (by (with_reducible repeat (first | apply Kd.R_alloc | apply Kd.R_drewN | apply Kd.R_drew)); exact HO401.out) hb); have n2_ := Aside0.mk (below_step (by repeat (first | (with_reducible first | exact HB.out | apply below_alloc | apply pw_below_drewN | apply below_drew1) | exact HB.out)) hb); clear HO395; clear HO401; clear HB; have HO395 := n0_; have HO401 := n1_; have HB := n2_; clear n0_ n1_ n2_; (try clear hb); (try clear hb2); (try clear hk); (try clear hi)))
       go_ret
       exact ⟨by first | rfl | (simp [errW_none, errW_some] <;> rfl) | (simp [*, errW_none, errW_some] <;> rfl), by repeat (first | (with_reducible first | exact HB.out | apply below_alloc | apply pw_below_drewN | apply below_drew1) | exact HB.out)⟩
    ·rw [if_neg c11] at H
     have c11b0 : (t390 == 0) = false := beq_eq_false_iff_ne.mpr c11
     have c11b1 : (t390 != 0) = true := bne_iff_ne.mpr c11
     obtain rfl := Option.some.inj H
     go_wp2_with (first | ((with_reducible refine gate_callee (f := 11) rfl ?_); refine goesL_ (some 23) rfl rfl Tryz.func11 (by kernel_rfl) rfl #[.slice A0 l0.length c0] rfl (by (try simp only [List.map_toArray, List.map_cons, List.map_nil]); first | done | rfl | (simp only [List.length_drop, List.length_take]; rfl)) ?_; (with_reducible refine (exprs_Text.calls _ _ l0 t389 t390 _ ?side1 ?side2 ?side3 A10.out).mono ?_); (case side1 => repeat (first | exact (Kd.C_below HR0.out HB.out) | (with_reducible refine Kd.C_alloc ?_ _) | (with_reducible refine Kd.C_drewN ?_ _) | (with_reducible refine Kd.C_drew ?_))); (case side2 => exact HC0.out); (case side3 => exact Tabs.below hT (by repeat (first | (with_reducible first | exact HB.out | apply below_alloc | apply pw_below_drewN | apply below_drew1) | exact HB.out))); rintro e w66 ⟨rfl, hb⟩; refine ⟨_, rfl, ?_⟩; have n0_ := Aside0.mk (below_step (by repeat (first | (with_reducible first | exact HB.out | apply below_alloc | apply pw_below_drewN | apply below_drew1) | exact HB.out)) hb); clear HB; have HB := n0_; clear n0_; (try clear hb); (try clear hb2); (try clear hk); (try clear hi)))
     go_ret
     exact ⟨by first | rfl | (simp [errW_none, errW_some] <;> rfl) | (simp [*, errW_none, errW_some] <;> rfl), by repeat (first | (with_reducible first | exact HB.out | apply below_alloc | apply pw_below_drewN | apply below_drew1) | exact HB.out)⟩
end Go.Proofs.YtgmmngipnjmkfaaGreatDoor.Q
end
section
namespace Go.Proofs.YtgmmngipnjmkfaaGreatDoor.Pure
open Go.RowKit Go.Proofs.YtgmmngipnjmkfaaGreatDoor.Hand Go.Proofs.YtgmmngipnjmkfaaGreatDoor.Q Go.Proofs.YtgmmngipnjmkfaaGreatDoorW.PrintWords Go.Proofs.YtgmmngipnjmkfaaGreatDoorW.PrintLast Go.Proofs.YtgmmngipnjmkfaaGreatDoorW.PrintMore
open Go.Proofs.YtgmmngipnjmkfaaGreatDoor.PureL (ba ba_size ba_data)
theorem back_j0 (l : List Nd) (b : Bool) (hl : b = false → ∃ t : Tr, t.ok ∧ l = t.flat 0) : tailwaterlaw05_ExprsBack.j0 6000 l b = some true := by
  show tailwaterlaw05_ExprsBack.j0 (5999 + 1) l b = some true
  have hal := PureL.alive_any 5999 (by decide)
  simp only [tailwaterlaw05_ExprsBack.j0]
  cases b with
  | true => rw [if_pos rfl, hal]; rfl
  | false =>
    obtain ⟨t, ht, rfl⟩ := hl rfl
    rw [if_neg (by decide), PureL.text_tree ht]
    simp only [Option.bind_some, if_true]
    have hcs := PureL.tk_small ht.2.1
    by_cases h400 : (tbytes t false).length ≤ 400
    · obtain ⟨ts, ha, hm, hg⟩ := PureL.reads_all ((PureL.reads_tree t ht.1).1 [] PureL.ends_nil) (by omega) h400
      have hlen : ts.length = (tk t).length := by rw [← hm, List.length_map]
      have hp := PureL.parse_at ht hg (ds := []) (es := []) (by simpa using hm) PureL.noop_nil 5999 (by decide)
      rw [ha 5999 (by decide), ba_size]
      simp only [Option.bind_some]
      rw [if_neg (by omega), show exprs_Parse.f 5999 ts 0 = _ from hp]
      simp only [Option.bind_some]
      rw [PureL.nsame_f ht (PureL.plT_ok hg ht _) (PureL.plT_sim ts t _)]
      simp only [Option.bind_some, if_true, List.length_nil, Nat.zero_add]
      rw [if_pos (by rw [hlen]), hal]; rfl
    · rw [PureL.all_great _ (by rw [ba_size]; omega), ba_size]
      simp only [Option.bind_some, if_true]
      rw [if_pos (by omega), hal]; rfl
theorem ExprsBack (l : List Nd) (hf : ∀ x ∈ l, x.f1 ≤ 9223372036854775807) : tailwaterlaw05_ExprsBack.f 6000 l = some true := by
  unfold tailwaterlaw05_ExprsBack.f tailwaterref04_Great.f
  simp only [Option.bind_some]
  split
  · exact back_j0 l true (fun h => by cases h)
  · obtain ⟨c, hc, h0⟩ := check_ref l hf 6000 (by decide)
    rw [hc]
    exact back_j0 l (c != 0) (fun h => h0 (by simpa using h))
theorem ExprsBack_walk (A0 : Option Addr) (c0 : Nat) (l0 : List Nd) (hf : ∀ x ∈ l0, x.f1 ≤ 9223372036854775807) (w : World) (hc0 : l0.length ≤ c0) (hr0 : Kd.C k43 w A0 l0.length l0) (hT : Tabs w) :
    Calls Tryz.prog 5 #[.slice A0 l0.length c0] w fun e w' => e = .returned (.bool true) ∧ Below w.heap.size w w' :=
  tailwaterlaw05_ExprsBack.calls 6000 A0 c0 l0 true w hr0 hc0 hT (ExprsBack l0 hf)
end Go.Proofs.YtgmmngipnjmkfaaGreatDoor.Pure
end
section
namespace Go.Proofs.YtgmmngipnjmkfaaGreatDoor.Pure
open Go.ChangeShapes Go.WideShapes Go.Deep Go.RowKit Go.Proofs.YtgmmngipnjmkfaaGreatDoor.Q Go.Proofs.YtgmmngipnjmkfaaGreatDoorW.PrintWords
set_option maxRecDepth 100000 in
theorem open_nodes {H : Type} {enc : TypeId × Value → H} {w : World} {b : Nat} {v : Value} {d : DataW H} {p : List MemPlace}
    (hv : Value.okWide Tryz.prog w .any b 29 v) (h : DataW.Trod enc Tryz.prog w 0 (fun _ => true) true 29 v d p) :
    ∃ (A : Option Addr) (c : Nat) (l : List S43), v = .slice A l.length c ∧ l.length ≤ c ∧ Kd.C k43 w A l.length l ∧ ∀ x ∈ l, x.f1 ≤ 9223372036854775807 := by
  obtain ⟨a, len, cap, rfl⟩ := okWide_slice Tryz.underlying29 hv
  obtain ⟨fuel, hf⟩ := h
  rcases open_slice Tryz.underlying29 hf with ⟨h0, _⟩ | ⟨ad, len', cap', m, n, D, Pl, h0, _, hl, hm, hmm, _, hi⟩
  · have h0 : Value.slice a len cap = .slice none 0 0 := List.head_eq_of_cons_eq (show [Value.slice a len cap] = [.slice none 0 0] from h0)
    injection h0 with h1 h2 h3
    subst h1; subst h2; subst h3
    exact ⟨none, 0, [], rfl, Nat.le_refl _, Kd.C_nil _ w, fun x hx => by cases hx⟩
  · have h0 : Value.slice a len cap = .slice (some ad) len' cap' := List.head_eq_of_cons_eq (show [Value.slice a len cap] = [.slice (some ad) len' cap'] from h0)
    injection h0 with h1 h2 h3
    subst h1; subst h2; subst h3
    have hC : Tryz.prog.cellsOf 43 = 5 := by kernel_rfl
    have hall : ∀ i, i < len → ∃ x : S43, (w.cell? (ad.add (i * 5 + 0)) = some (.int .u8 x.f0) ∧ w.cell? (ad.add (i * 5 + 1)) = some (.int .i64 x.f1) ∧ w.cell? (ad.add (i * 5 + 2)) = some (.int .i64 x.f2) ∧ w.cell? (ad.add (i * 5 + 3)) = some (.int .i64 x.f3) ∧ w.cell? (ad.add (i * 5 + 4)) = some (.int .i64 x.f4)) ∧ x.f1 ≤ 9223372036854775807 := by
      intro i hil
      obtain ⟨cs, hc, ht⟩ := hi i (by rw [hmm]; simp only [if_true]; omega)
      rw [hC] at hc
      obtain ⟨ys, n', _, _, _, hyl, hfl⟩ := DataW.trod_struct Tryz.underlying43 ht
      obtain ⟨_, hcl, hat⟩ := World.cells?_some hc
      match cs, hcl, ys, hyl with
      | [c0, c1, c2, c3, c4], _, [y0, y1, y2, y3, y4], _ =>
        have g0 := hfl 0 _ rfl
        have g1 := hfl 1 _ rfl
        have g2 := hfl 2 _ rfl
        have g3 := hfl 3 _ rfl
        have g4 := hfl 4 _ rfl
        obtain ⟨x0, e0, _, _⟩ := DataW.trod_int Tryz.underlying5 (g0 : _ = some y0)
        obtain ⟨x1, e1, _, b1⟩ := DataW.trod_int Tryz.underlying2 (g1 : _ = some y1)
        obtain ⟨x2, e2, _, _⟩ := DataW.trod_int Tryz.underlying3 (g2 : _ = some y2)
        obtain ⟨x3, e3, _, _⟩ := DataW.trod_int Tryz.underlying3 (g3 : _ = some y3)
        obtain ⟨x4, e4, _, _⟩ := DataW.trod_int Tryz.underlying3 (g4 : _ = some y4)
        have u0 : c0 = .int .u8 x0 := List.head_eq_of_cons_eq (show [c0] = [.int .u8 x0] from e0)
        have u1 : c1 = .int .i64 x1 := List.head_eq_of_cons_eq (show [c1] = [.int .i64 x1] from e1)
        have u2 : c2 = .int .i64 x2 := List.head_eq_of_cons_eq (show [c2] = [.int .i64 x2] from e2)
        have u3 : c3 = .int .i64 x3 := List.head_eq_of_cons_eq (show [c3] = [.int .i64 x3] from e3)
        have u4 : c4 = .int .i64 x4 := List.head_eq_of_cons_eq (show [c4] = [.int .i64 x4] from e4)
        clear e0 e1 e2 e3 e4 g0 g1 g2 g3 g4 hfl ht
        subst u0; subst u1; subst u2; subst u3; subst u4
        have a0 := hat 0 (by omega); have a1 := hat 1 (by omega); have a2 := hat 2 (by omega); have a3 := hat 3 (by omega); have a4 := hat 4 (by omega)
        rw [Go.Deep.add_add] at a0 a1 a2 a3 a4
        have b2 : x1 ≤ 9223372036854775807 := of_decide_eq_true (Bool.and_eq_true_iff.1 (show (decide (_ ≤ x1) && decide (x1 ≤ _)) = true from b1)).2
        exact ⟨⟨x0, x1, x2, x3, x4⟩, ⟨a0, a1, a2, a3, a4⟩, b2⟩
    have hX : ∃ X : Nat → S43, ∀ i, i < len → (w.cell? (ad.add (i * 5 + 0)) = some (.int .u8 (X i).f0) ∧ w.cell? (ad.add (i * 5 + 1)) = some (.int .i64 (X i).f1) ∧ w.cell? (ad.add (i * 5 + 2)) = some (.int .i64 (X i).f2) ∧ w.cell? (ad.add (i * 5 + 3)) = some (.int .i64 (X i).f3) ∧ w.cell? (ad.add (i * 5 + 4)) = some (.int .i64 (X i).f4)) ∧ (X i).f1 ≤ 9223372036854775807 :=
      ⟨fun i => if hh : i < len then Classical.choose (hall i hh) else z43, fun i hh => by simp only [dif_pos hh]; exact Classical.choose_spec (hall i hh)⟩
    obtain ⟨X, hX⟩ := hX
    have hlen : ((List.range len).map X).length = len := by simp
    refine ⟨some ad, cap, (List.range len).map X, by rw [hlen], by rw [hlen]; exact hl, ?_, fun x hx => ?_⟩
    · rw [hlen]
      refine ⟨hlen, by unfold maxLen at hm; omega, fun _ => ⟨ad, rfl, fun j x hj => ?_⟩⟩
      have hjl : j < len := by
        rcases Nat.lt_or_ge j len with q | q
        · exact q
        · rw [List.getElem?_eq_none (by rw [hlen]; exact q)] at hj; cases hj
      have hxe : x = X j := by
        rw [List.getElem?_map, List.getElem?_range hjl] at hj
        exact (Option.some.inj hj).symm
      subst hxe
      obtain ⟨⟨q0, q1, q2, q3, q4⟩, _⟩ := hX j hjl
      refine ⟨_, rfl, k43_mk w (X j), fun i u hu => ?_⟩
      show w.cell? (ad.add (j * 5 + i)) = some u
      match i, hu with
      | 0, hu => rw [q0]; exact hu
      | 1, hu => rw [q1]; exact hu
      | 2, hu => rw [q2]; exact hu
      | 3, hu => rw [q3]; exact hu
      | 4, hu => rw [q4]; exact hu
    · obtain ⟨i, hi', rfl⟩ := List.mem_map.1 hx
      exact (hX i (List.mem_range.1 hi')).2
end Go.Proofs.YtgmmngipnjmkfaaGreatDoor.Pure
end
section
namespace Go.Proofs.YtgmmngipnjmkfaaGreatDoor.exprsBack
open Go.ChangeShapes Go.WideShapes Go.ChangeAt Go.RowKit
open Go.ChangeMaps (open_string shut_string)
set_option linter.unusedVariables false
theorem own : ownKnob Tryz.prog.godebug = none := by kernel_rfl
theorem laidOut : laidOutB Tryz.prog = true := by kernel_rfl
set_option maxRecDepth 100000 in
theorem contract (H : Type) (enc : TypeId × Value → H) (W : World) (base : Nat) (args : Array Value) (ds gs : List (DataW H)) (before : List MemPlace)
    (hval0 : ∀ (j : Nat) t v, Tryz.f5.params[j]? = some t → args[j]? = some v → Value.okWide Tryz.prog W .any base t v)
    (hW : DataW.Whole enc Tryz.prog Tryz.f5.params.toList Rows.exprsBackSpec.vars false W args.toList ds gs before)
    (hsz : (DataW.weightsEach Tryz.prog (Tryz.f5.params.toList ++ Rows.exprsBackSpec.plain.varTypes Tryz.prog) (ds ++ gs)).all (· ≤ reachBytes) = true)
    (hL : laidMetH Tryz.prog Rows.exprsBackRow.laid W) :
    Calls Tryz.prog 5 args W fun e W' => ∃ v, e = .returned v ∧ Rows.exprsBackSpec.post enc Tryz.prog Tryz.f5 false true false false W args v W' := by
  have hT : Hand.Tabs W := Hand.tabs_of hL
  have hval : ∀ (j : Nat) t v, Tryz.f5.params[j]? = some t → args[j]? = some v → Value.okWide Tryz.prog W .any base t v := hval0
  have hW' := hW
  obtain ⟨p, q, hA0, hV, rfl, hfz, hnd⟩ := hW
  have hA : DataW.TrodAll enc Tryz.prog W 0 (fun _ => true) true Tryz.f5.params.toList args.toList ds p := hA0
  rw [Tryz.params5] at hA hval hsz
  obtain ⟨v0, vs0, d0, ds0, p0, q0, hargs, rfl, rfl, h0, r0⟩ := trodAll_cons hA
  obtain ⟨rfl, rfl, rfl⟩ := trodAll_nil r0
  obtain rfl : args = #[v0] := by cases args; simp_all
  obtain ⟨rfl, rfl⟩ := trodVars_none hV
  have k0 := h0
  have lt0 : ∀ x ∈ p0, x.block < W.heap.size := by obtain ⟨m, hm⟩ := k0; exact DataW.trod_lt m _ _ _ hm
  obtain ⟨A0, c0, l0, rfl, hc0, hr0, f0⟩ := Pure.open_nodes (hval 0 29 v0 rfl rfl) h0
  clear hA0 hval0 hsz
  refine (Pure.ExprsBack_walk A0 c0 l0 f0 W hc0 hr0 hT).mono fun e W' ⟨he, bel⟩ => ?_
  subst he
  exact ⟨_, rfl, _, _, _, [], _, [], hW', trodAll_mk1 (shut_bool Tryz.underlying4 _), (trodAll_cons_mk (Below.trod laidOut (by kernel_rfl) (of_decide_eq_true (by kernel_rfl)) k0 bel lt0) trodAll_mk0), rfl, bel.frame _, fun h => by cases h⟩
theorem reads (os : Os) {H : Type} (enc : TypeId × Value → H) : ∃ places, DataW.whole enc Tryz.prog ((Hand.laidWorld os).forCall (fun _ _ => 0) ⟨#[], #[.slice none 0 0], []⟩).memory Tryz.f5.params.toList Rows.exprsBackSpec.vars false (#[.slice none 0 0] : Array Value).toList 8 = some ([.nil], [], places) :=
  ⟨[], by kernel_rfl⟩
set_option maxRecDepth 100000 in
theorem lifted (os : Os) (started : os.Started) (H : Type) (enc : TypeId × Value → H) (F : Stop.Interp) :
    ReturnsInHanded {} Tryz.checked os 5 .any ((OpenSpec.ofChange Rows.exprsBackSpec).preRow enc Tryz.prog Tryz.f5 Rows.exprsBackRow.domain false Rows.exprsBackRow.laid) (((OpenSpec.ofChange Rows.exprsBackSpec).at F).post enc Tryz.prog Tryz.f5 false true false false) := by
  obtain ⟨places, hx⟩ := reads os enc
  refine returnsInHanded_of_row (C := Tryz.checked) (s := OpenSpec.ofChange Rows.exprsBackSpec) own started (by kernel_rfl) Tryz.func5
    (witness_row_atRef (enc := enc) (C := Tryz.checked) false (Hand.laidWorld os) #[.slice none 0 0] rfl (by kernel_rfl) (by kernel_rfl) (by kernel_rfl)
      (OpenSpec.preRow_of_cond 8 hx (by kernel_rfl) (fun k hk => by cases hk) (by kernel_rfl) (Hand.laid_met os _))) ?_
  intro W base args ds gs before hval hW _ _ hsz hL _ _
  exact contract H enc W base args ds gs before hval hW hsz hL
theorem said : Rows.ExprsBackSaid :=
  OpenClaim.holds_of_cond 5 Tryz.f5 rfl rfl rfl rfl rfl rfl rfl ⟨rfl, rfl, rfl, rfl, rfl⟩ rfl rfl rfl rfl rfl (by kernel_rfl) Tryz.func5 (by kernel_rfl)
    (of_decide_eq_true (by kernel_rfl)) (by unfold Func.isWrapper; first | (rw [if_pos (by decide +kernel)]; kernel_rfl) | (rw [if_neg (by decide +kernel)]; exact ⟨rfl, rfl⟩))
    (fun os started H enc _ F => by rw [OpenClaim.pre_eq_preRow]; exact lifted os started H enc F)
theorem plain (f : FuncId) (fn : Func) (hf : Tryz.pinned.checked.prog.funcNamed "tailwater/tailwaterlaw05.ExprsBack" = some f) (hfn : Tryz.pinned.checked.prog.funcs[f]? = some fn) :
    true = Tryz.pinned.checked.prog.looks [] ∧ ∀ (j : Nat) t, fn.params[j]? = some t → Tryz.pinned.checked.prog.wantsStandIn t = false := by
  obtain rfl : f = 5 := Option.some.inj ((show Tryz.prog.funcNamed "tailwater/tailwaterlaw05.ExprsBack" = some 5 by kernel_rfl).symm.trans hf) |>.symm
  obtain rfl : fn = Tryz.f5 := (Option.some.inj (Tryz.func5.symm.trans hfn)).symm
  refine ⟨by kernel_rfl, fun j t ht => ?_⟩
  rw [Tryz.params5] at ht
  have hm := Array.mem_of_getElem? ht
  have hm2 : t = 29 := by simpa using hm
  rcases hm2 with rfl
  · exact (show Tryz.prog.wantsStandIn 29 = false by kernel_rfl)
theorem card : Rows.ExprsBackCardSaid :=
  Claim7.holds_tied_plain_at .later [] _ _ _ _ said (fun _ h => by cases h) (by kernel_rfl) (fun _ h => by cases h) exprsBack_row_tie rfl ⟨rfl, rfl⟩ (by kernel_rfl) rfl plain (by kernel_rfl)
#print axioms card
end Go.Proofs.YtgmmngipnjmkfaaGreatDoor.exprsBack
namespace Go.Proofs.YtgmmngipnjmkfaaGreatDoor
theorem exprsBack_holds : Rows.ExprsBackCardSaid := exprsBack.card
end Go.Proofs.YtgmmngipnjmkfaaGreatDoor
end
