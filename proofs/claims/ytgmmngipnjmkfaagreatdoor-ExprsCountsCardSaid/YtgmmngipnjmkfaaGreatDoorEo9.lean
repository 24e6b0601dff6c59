/- Lemmas of the proof (cut to what it uses, by wip/trim.py). -/
import Derived.Test.YtgmmngipnjmkfaaGreatDoorEo2
import Derived.Test.YtgmmngipnjmkfaaGreatDoorEo3
import Derived.Test.YtgmmngipnjmkfaaGreatDoorEo6
import Derived.Test.YtgmmngipnjmkfaaGreatDoorEo7
import Derived.Test.YtgmmngipnjmkfaaGreatDoorEo8
section
namespace Go.Proofs.YtgmmngipnjmkfaaGreatDoor.Q
open Go.Proofs.YtgmmngipnjmkfaaGreatDoor.Hand
open Go.RowKit Go.Proofs.YtgmmngipnjmkfaaGreatDoorW.PrintWords Go.Proofs.YtgmmngipnjmkfaaGreatDoorW.PrintLast Go.Proofs.YtgmmngipnjmkfaaGreatDoorW.PrintMore
attribute [local go_sem] zda zdb zdm zdn zcq zcr zdc zdd
set_option linter.unusedVariables false
set_option linter.unusedSimpArgs false
section
open Go.Proofs.YtgmmngipnjmkfaaGreatDoor.Pure
theorem tloop_len : ∀ (l : List Nd) (i : Int) (st all : List Tp), (tloop l i st all).2 = true → (tloop l i st all).1.length = all.length + l.length
  | [], i, st, all, _ => by simp [tloop]
  | x :: r, i, st, all, h => by
    simp only [tloop] at h ⊢
    by_cases h1 : kdOk x.f0 ∧ cntI x.f0 ≤ st.length
    · rw [if_pos h1] at h ⊢
      by_cases h2 : ownB x (st.drop (st.length - cntI x.f0)) = true
      · rw [if_pos h2] at h ⊢
        rw [tloop_len r _ _ _ h]; simp; omega
      · rw [if_neg h2] at h; cases h
    · rw [if_neg h1] at h; cases h
theorem zb4 {i : Int} (h0 : -9223372036854775808 ≤ i) (h1 : i ≤ 9223372036854775807) : wrap64 i = i := by unfold wrap64; omega
theorem ck_eq (l : List Nd) : zbl.f l = some (chk l) := by
  unfold zbl.f zc6.f chk zcm.f
  by_cases h1 : 60 < l.length
  · rw [if_pos (by omega), if_pos h1]; rfl
  · rw [if_neg (by omega), if_neg h1, if_pos (by omega)]
    simp only [Option.bind_some]
    cases h2 : (tloop l 0 [] []).2 with
    | false => rw [if_neg (by simp), if_pos rfl]; rfl
    | true =>
      have hlen := tloop_len l 0 [] [] h2
      have hne : 0 < l.length := by
        cases l with
        | nil => simp [tloop] at h2
        | cons x r => simp
      simp only [List.length_nil, Nat.zero_add] at hlen
      rw [if_pos rfl, if_neg (show ¬ (true = false) by decide), hlen, zb4 (by omega) (by omega), if_pos (show (0 : Int) ≤ (l.length : Int) - 1 by omega), if_pos (show (l.length : Int) - 1 < (l.length : Int) by omega)]
      have hlast : (zcx (tloop l 0 [] []).1 ((l.length : Int) - 1)).f2 = lastD (tloop l 0 [] []).1 := by
        unfold zcx lastD
        rw [show ((l.length : Int) - 1).toNat = (tloop l 0 [] []).1.length - 1 by omega, List.getLast?_eq_getElem?, List.getD_eq_getElem?_getD, List.getElem?_eq_getElem (by omega)]
        rfl
      rw [hlast]
      split
      · rfl
      · rfl
def shN (d : Int) (x : Nd) : Nd := ⟨x.f0, x.f1, if 0 < cntI x.f0 then wrap64 (x.f2 + d) else x.f2, if 1 < cntI x.f0 then wrap64 (x.f3 + d) else x.f3, x.f4⟩
theorem rd_at (l : List Nd) (i : Nat) (h : i < l.length) : zbf l (i : Int) = l[i] := by
  unfold zbf; rw [Int.toNat_natCast, List.getD_eq_getElem?_getD, List.getElem?_eq_getElem h]; rfl
theorem moved_l0 (d : Int) (n : Nat) (hn : n ≤ 1000000) : ∀ (e k i : Nat) (l : List Nd), l.length = n → n - i = e → i ≤ n → 2 * e < k → (∀ x ∈ l, kdOk x.f0) → za7.l0 k d l (n : Int) (i : Int) = some (l.take i ++ (l.drop i).map (shN d)) := by
  intro e
  induction e with
  | zero =>
    intro k i l hl he hi hk _
    obtain ⟨k, rfl⟩ : ∃ m, k = m + 1 := ⟨k - 1, by omega⟩
    simp only [za7.l0]
    rw [if_neg (by omega), List.drop_of_length_le (by omega), List.take_of_length_le (by omega)]
    simp
  | succ e ih =>
    intro k i l hl he hi hk hok
    obtain ⟨k, rfl⟩ : ∃ m, k = m + 2 := ⟨k - 2, by omega⟩
    have hil : i < l.length := by omega
    have hx := rd_at l i hil
    have hkx : kdOk l[i].f0 := hok _ (List.getElem_mem hil)
    simp only [za7.l0]
    rw [if_pos (by omega), if_pos (by omega), if_pos (by omega), hx]
    unfold zb5.f
    rw [if_pos (show 1 ≤ l[i].f0 ∧ l[i].f0 ≤ 19 from hkx)]
    simp only [Option.bind_some]
    have hw : wrap64 ((i : Int) + 1) = ((i + 1 : Nat) : Int) := by rw [zb4 (by omega) (by omega)]; omega
    have hstep : ∀ (y : Nd), y = shN d l[i] → kdOk y.f0 → za7.l0 k d (l.set i y) (n : Int) ((i + 1 : Nat) : Int) = some (l.take i ++ (l.drop i).map (shN d)) := by
      intro y hy hky
      rw [ih k (i + 1) (l.set i y) (by rw [List.length_set]; exact hl) (by omega) (by omega) (by omega) (fun z hz => by
        rcases List.mem_or_eq_of_mem_set hz with h | h
        · exact hok z h
        · rw [h]; exact hky)]
      rw [List.drop_set_of_lt (by omega), List.take_set, List.take_succ_eq_append_getElem hil, List.drop_eq_getElem_cons hil, List.map_cons, ← hy]
      rw [List.set_append_right _ _ (by rw [List.length_take]; omega)]
      simp [Nat.min_eq_left (Nat.le_of_lt hil)]
    rcases (show cntI l[i].f0 = 0 ∨ cntI l[i].f0 = 1 ∨ cntI l[i].f0 = 2 by
      unfold cntI
      by_cases q1 : l[i].f0 ≤ 4
      · rw [if_pos q1]; simp
      · rw [if_neg q1]
        by_cases q2 : l[i].f0 ≤ 6
        · rw [if_pos q2]; simp
        · rw [if_neg q2]; simp) with hc | hc | hc
    · rw [hc, if_neg (by omega)]
      simp only [za7.j1]
      rw [if_neg (by omega), hw]
      have hs : l.set i l[i] = l := List.set_getElem_self hil
      have := hstep l[i] (by unfold shN; rw [hc]; rfl) hkx
      rwa [hs] at this
    · rw [hc, if_pos (by omega)]
      simp only [za7.j1]
      rw [if_neg (by omega), hw, Int.toNat_natCast]
      exact hstep _ (by unfold shN; rw [hc]; rfl) hkx
    · rw [hc, if_pos (by omega)]
      simp only [za7.j1, Int.toNat_natCast]
      rw [if_pos (by omega), if_pos (by omega), if_pos (by rw [List.length_set]; omega), rd_at _ i (by rw [List.length_set]; exact hil), List.getElem_set_self, List.set_set, hw]
      exact hstep _ (by unfold shN; rw [hc]; rfl) hkx
theorem flat_kd : ∀ (t : Tr), t.WF → ∀ (o : Nat), ∀ x ∈ t.flat o, kdOk x.f0
  | .leaf k n p, h, o, x, hx => by
    simp only [Tr.flat, List.mem_singleton] at hx
    subst hx
    exact ⟨h.1, by have := h.2.1; show k ≤ 19; omega⟩
  | .un k p a, h, o, x, hx => by
    simp only [Tr.flat, List.mem_append, List.mem_singleton] at hx
    rcases hx with hx | hx
    · exact flat_kd a h.2.2.2 o x hx
    · subst hx; exact ⟨by have := h.1; show 1 ≤ k; omega, by have := h.1; show k ≤ 19; omega⟩
  | .bin k p a b, h, o, x, hx => by
    simp only [Tr.flat, List.mem_append, List.mem_singleton] at hx
    rcases hx with hx | hx | hx
    · exact flat_kd a h.2.2.2.2.1 o x hx
    · exact flat_kd b h.2.2.2.2.2 _ x hx
    · subst hx; exact ⟨by have := h.1; show 1 ≤ k; omega, h.2.1⟩
theorem flat_sh : ∀ (t : Tr), t.WF → ∀ (o d : Nat), o + t.size + d ≤ 1000000 → (t.flat o).map (shN (d : Int)) = t.flat (o + d)
  | .leaf k n p, h, o, d, hs => by
    have hc := cnt_leaf h.2.1
    simp [Tr.flat, shN, hc]
  | .un k p a, h, o, d, hs => by
    have hc := cnt_un h.1
    simp only [Tr.size] at hs
    simp only [Tr.flat, List.map_append, List.map_cons, List.map_nil, flat_sh a h.2.2.2 o d (by omega)]
    congr 1
    simp only [shN, hc]
    rw [if_pos (by omega), if_neg (by omega), zb4 (by omega) (by omega)]
    congr 2
    omega
  | .bin k p a b, h, o, d, hs => by
    have hc := cnt_bin h.1
    simp only [Tr.size] at hs
    simp only [Tr.flat, List.map_append, List.map_cons, List.map_nil, flat_sh a h.2.2.2.2.1 o d (by omega), flat_sh b h.2.2.2.2.2 (o + a.size) d (by omega)]
    rw [show o + a.size + d = o + d + a.size by omega]
    congr 2
    simp only [shN, hc]
    rw [if_pos (by omega), if_pos (by omega), zb4 (by omega) (by omega), zb4 (by omega) (by omega)]
    congr 2 <;> omega
theorem moved_flat (t : Tr) (ht : t.ok) (d k : Nat) (hd : d ≤ 1000) (hk : 200 ≤ k) : za7.f k (t.flat 0) (d : Int) = some (t.flat d) := by
  have h2 := ht.2.1
  have hl := t.zb7 0
  unfold za7.f
  first | unfold api_Node_56.f | unfold api_Node.f
  rw [if_pos (by omega)]
  simp only [Option.bind_some]
  have := moved_l0 (d : Int) (t.flat 0).length (by omega) (t.flat 0).length k 0 (t.flat 0) rfl (by omega) (by omega) (by omega) (flat_kd t ht.1 0)
  rw [show ((0 : Nat) : Int) = 0 from rfl] at this
  rw [this, List.take_zero, List.drop_zero, List.nil_append, flat_sh t ht.1 0 d (by omega), Nat.zero_add]
def ndRes (t : Tr) : List Nd × Int := if 60 < t.size then ([], 4) else if 20 < t.depth then ([], 34) else (t.flat 0, 0)
theorem ck_end (t : Tr) (h : t.WF) : (zbl.f (t.flat 0)).bind (fun t164 => if t164 = 0 then some ((t.flat 0), (0 : Int)) else some (([] : List Nd), t164)) = some (ndRes t) := by
  rw [ck_eq, chk_flat t h]
  simp only [Option.bind_some]
  unfold ndRes
  by_cases h1 : 60 < t.size
  · rw [if_pos h1, if_pos h1, if_neg (by decide)]
  · rw [if_neg h1, if_neg h1]
    by_cases h2 : 20 < t.depth
    · rw [if_pos h2, if_pos h2, if_neg (by decide)]
    · rw [if_neg h2, if_neg h2, if_pos rfl]
theorem node_leaf (k n p : Int) (h : (Tr.leaf k n p).WF) (K : Nat) (hK : 1000 ≤ K) : zat.f K k n p [] = some (ndRes (.leaf k n p)) := by
  obtain ⟨K, rfl⟩ : ∃ m, K = m + 2 := ⟨K - 2, by omega⟩
  obtain ⟨h1, h2, h3, h4, h5, h6, h7⟩ := h
  have hgo : zat.j0 (K + 2) k n p [] false = some (ndRes (.leaf k n p)) := by
    simp only [zat.j0, zat.l0]
    rw [if_neg (by decide), if_neg (by simp), if_pos (by simp)]
    exact ck_end (.leaf k n p) ⟨h1, h2, h3, h4, h5, h6, h7⟩
  unfold zat.f zb5.f
  rw [if_pos ⟨h1, by omega⟩, cnt_leaf h2]
  refine (Option.bind_some _ _).trans ?_
  refine (if_pos rfl).trans ?_
  refine (if_pos (by simp)).trans ?_
  rw [if_neg (by omega)]
  by_cases h8 : n > 0
  · rw [if_pos h8, if_pos (by omega), if_neg (by omega), decide_eq_false (by omega)]; exact hgo
  · rw [if_neg h8, if_neg (by omega), decide_eq_false (by omega)]; exact hgo
theorem ck_bind {α : Type} (t : Tr) (h : t.ok) (f : Int → Option α) : (zbl.f (t.flat 0)).bind f = f 0 := by rw [ck_eq, chk_ok h]; rfl
theorem mv_bind {α : Type} (t : Tr) (h : t.ok) (d k : Nat) (hd : d ≤ 1000) (hk : 200 ≤ k) (x : Int) (hx : x = (d : Int)) (f : List Nd → Option α) : (za7.f k (t.flat 0) x).bind f = f (t.flat d) := by rw [hx, moved_flat t h d k hd hk]; rfl
theorem node_un (k p : Int) (a : Tr) (ha : a.ok) (h : (Tr.un k p a).WF) (K : Nat) (hK : 1000 ≤ K) : zat.f K k 0 p [a.flat 0] = some (ndRes (.un k p a)) := by
  obtain ⟨K, rfl⟩ : ∃ m, K = m + 3 := ⟨K - 3, by omega⟩
  obtain ⟨h1, h2, h3, h4⟩ := h
  have hl := a.zb7 0
  have hz := ha.2.1
  have hpz := a.size_pos
  have hgo : zat.j0 (K + 3) k 0 p [a.flat 0] false = some (ndRes (.un k p a)) := by
    simp only [zat.j0, zat.l0]
    rw [if_neg (by decide), if_pos (by simp), if_pos (by omega), if_pos (by simp)]
    refine (ck_bind a ha _).trans ?_
    rw [if_pos rfl]
    refine (mv_bind a ha 0 (K + 1) (by omega) (by omega) _ rfl _).trans ?_
    rw [if_pos (by simp; omega)]
    simp only [Option.bind_some, List.nil_append, if_true]
    rw [if_neg (by rw [zb4 (by omega) (by omega)]; simp), if_pos (by omega), zb4 (by omega) (by omega)]
    have e : a.flat 0 ++ [(⟨k, 0, ((a.flat 0).length : Int) - 1, 0, p⟩ : Nd)] = (Tr.un k p a).flat 0 := by simp [Tr.flat, hl]
    rw [e]
    exact ck_end (.un k p a) ⟨h1, h2, h3, h4⟩
  unfold zat.f zb5.f
  rw [if_pos ⟨by omega, by omega⟩, cnt_un h1]
  refine (Option.bind_some _ _).trans ?_
  refine (if_pos rfl).trans ?_
  refine (if_pos (by simp)).trans ?_
  rw [if_neg (by omega), if_neg (by omega), if_neg (by omega), decide_eq_false (by omega)]
  exact hgo
theorem node_bin (k p : Int) (a b : Tr) (ha : a.ok) (hb : b.ok) (h : (Tr.bin k p a b).WF) (K : Nat) (hK : 1000 ≤ K) : zat.f K k 0 p [a.flat 0, b.flat 0] = some (ndRes (.bin k p a b)) := by
  obtain ⟨K, rfl⟩ : ∃ m, K = m + 4 := ⟨K - 4, by omega⟩
  obtain ⟨h1, h2, h3, h4, h5, h6⟩ := h
  have hl := a.zb7 0
  have hz := ha.2.1
  have hpz := a.size_pos
  have hlb := b.zb7 a.size
  have hzb := hb.2.1
  have hpzb := b.size_pos
  have hgo : zat.j0 (K + 4) k 0 p [a.flat 0, b.flat 0] false = some (ndRes (.bin k p a b)) := by
    simp only [zat.j0, zat.l0]
    rw [if_neg (by decide), if_pos (by simp), if_pos (by omega), if_pos (by simp)]
    refine (ck_bind a ha _).trans ?_
    rw [if_pos rfl]
    refine (mv_bind a ha 0 (K + 2) (by omega) (by omega) _ rfl _).trans ?_
    rw [if_pos (by simp; omega)]
    simp only [Option.bind_some, List.nil_append, if_true]
    have e1 : wrap64 (0 + 1) = 1 := zb4 (by decide) (by decide)
    have e2 : wrap64 (1 + 1) = 2 := zb4 (by decide) (by decide)
    simp only [e1, e2]
    rw [if_pos (by simp), if_pos (by omega), if_pos (by simp)]
    refine (ck_bind b hb _).trans ?_
    rw [if_pos rfl]
    refine (mv_bind b hb a.size (K + 1) (by omega) (by omega) _ (by rw [hl]) _).trans ?_
    rw [if_pos (by rw [hl, hlb]; omega)]
    rw [if_neg (show ¬ (1 : Int) = 0 by decide), if_neg (show ¬ (2 : Int) < ((([a.flat 0, b.flat 0] : List (List Nd)).length : Nat) : Int) by simp), if_pos (by rw [List.length_append, hl, hlb]; omega)]
    have e : (a.flat 0 ++ b.flat a.size) ++ [(⟨k, 0, wrap64 (((a.flat 0).length : Int) - 1), wrap64 (((a.flat 0 ++ b.flat a.size).length : Int) - 1), p⟩ : Nd)] = (Tr.bin k p a b).flat 0 := by
      rw [List.length_append, hl, hlb, zb4 (by omega) (by omega), zb4 (by omega) (by omega)]
      simp [Tr.flat]
    rw [e]
    exact ck_end (.bin k p a b) ⟨h1, h2, h3, h4, h5, h6⟩
  unfold zat.f zb5.f
  rw [if_pos ⟨by omega, by omega⟩, cnt_bin h1]
  refine (Option.bind_some _ _).trans ?_
  refine (if_pos rfl).trans ?_
  refine (if_pos (by simp)).trans ?_
  rw [if_neg (by omega), if_neg (by omega), if_neg (by omega), decide_eq_false (by omega)]
  exact hgo
end
section
open Go.Proofs.YtgmmngipnjmkfaaGreatDoor.Pure
abbrev Tk := S33
def tbl : List (List UInt8 × Nat) := [([107], 2), ([116], 3), ([118], 4), ([40], 5), ([41], 6), ([42], 7), ([43], 8), ([45], 9), ([60, 60], 10), ([62, 62], 11), ([60], 12), ([60, 61], 13), ([62], 14), ([62, 61], 15), ([61], 16), ([33, 61], 17), ([97, 110, 100], 18), ([111, 114], 19), ([110, 111, 116], 20)]
def look : List (List UInt8 × Nat) → List UInt8 → Nat
  | [], _ => 0
  | x :: r, s => if s = x.1 then x.2 else look r s
theorem look_mem : ∀ (T : List (List UInt8 × Nat)) (s : List UInt8), look T s ≠ 0 → (s, look T s) ∈ T
  | [], s, h => absurd rfl h
  | x :: r, s, h => by
    simp only [look] at h ⊢
    by_cases e : s = x.1
    · rw [if_pos e]; subst e; exact List.mem_cons_self
    · rw [if_neg e] at h ⊢; exact List.mem_cons_of_mem _ (look_mem r s h)
def codeS (s : List UInt8) : Nat := look tbl s
def cT (t : Tk) : Ct := if t.f0 = 1 then ⟨1, (readL t.f1.data.toList).1, t.f2⟩ else ⟨codeS t.f1.data.toList, 0, t.f2⟩
def CL (L : List Tk) : List Ct := L.map cT
theorem zcu (L : List Tk) : (CL L).length = L.length := by unfold CL; rw [List.length_map]
theorem cd_at (L : List Tk) (a : Nat) (h : a < L.length) : cdAt (CL L) a = (cT L[a]).c ∧ valAt (CL L) a = (cT L[a]).v ∧ posAt (CL L) a = (cT L[a]).p := by
  unfold cdAt valAt posAt CL
  rw [List.getElem?_map, List.getElem?_eq_getElem h]
  exact ⟨rfl, rfl, rfl⟩
theorem cd_out (L : List Tk) (a : Nat) (h : L.length ≤ a) : cdAt (CL L) a = 0 := by
  unfold cdAt; rw [List.getElem?_eq_none (by rw [zcu]; exact h)]
theorem cT_p (t : Tk) : (cT t).p = t.f2 := by unfold cT; split <;> rfl
theorem rdT_at (L : List Tk) (a : Nat) (h : a < L.length) : za6 L (a : Int) = L[a] := by
  unfold za6; rw [Int.toNat_natCast, List.getD_eq_getElem?_getD, List.getElem?_eq_getElem h]; rfl
theorem code_ne1 (s : List UInt8) : codeS s ≠ 1 := by
  intro h
  have := look_mem tbl s (by show codeS s ≠ 0; omega)
  rw [show look tbl s = 1 from h] at this
  simp [tbl] at this
theorem cd_num (L : List Tk) (a : Nat) (h : a < L.length) : cdAt (CL L) a = 1 ↔ L[a].f0 = 1 := by
  rw [(cd_at L a h).1]
  unfold cT
  by_cases e : L[a].f0 = 1
  · rw [if_pos e]; simp [e]
  · rw [if_neg e]
    exact ⟨fun h => absurd h (code_ne1 _), fun h => absurd h e⟩
def ofCode (c : Nat) : List UInt8 := if c = 2 then [107] else if c = 3 then [116] else if c = 4 then [118] else if c = 5 then [40] else if c = 6 then [41] else if c = 9 then [45] else [110, 111, 116]
theorem code_iff (s : List UInt8) (c : Nat) (hc : c = 2 ∨ c = 3 ∨ c = 4 ∨ c = 5 ∨ c = 6 ∨ c = 9 ∨ c = 20) : codeS s = c ↔ s = ofCode c := by
  constructor
  · intro h
    have hm := look_mem tbl s (by show codeS s ≠ 0; omega)
    rw [show look tbl s = c from h] at hm
    rcases hc with rfl | rfl | rfl | rfl | rfl | rfl | rfl <;> simpa [tbl, ofCode] using hm
  · rintro rfl
    rcases hc with rfl | rfl | rfl | rfl | rfl | rfl | rfl <;> decide
theorem is_eq (L : List Tk) (a : Nat) (e : Int) (s : ByteArray) (c : Nat) (hc : c = 2 ∨ c = 3 ∨ c = 4 ∨ c = 5 ∨ c = 6 ∨ c = 9 ∨ c = 20) (hs : s.data.toList = ofCode c) :
    zcj.f L (a : Int) e s = some (decide (cdAt (CL L) a = c), (a : Int), e) := by
  unfold zcj.f
  by_cases h : a < L.length
  · rw [if_pos (by omega), if_pos (by omega), rdT_at L a h]
    by_cases h1 : L[a].f0 = 1
    · rw [if_pos h1, decide_eq_false (by rw [(cd_num L a h).2 h1]; omega)]
    · rw [if_neg h1, (cd_at L a h).1]
      unfold cT
      rw [if_neg h1]
      simp only
      congr 2
      rw [ByteArray.toList_eq, ByteArray.toList_eq, hs]
      by_cases h2 : L[a].f1.data.toList = ofCode c
      · rw [decide_eq_true ((code_iff _ c hc).2 h2), h2]; exact beq_self_eq_true _
      · rw [decide_eq_false (fun h3 => h2 ((code_iff _ c hc).1 h3))]; exact beq_eq_false_iff_ne.2 h2
  · rw [if_neg (by omega), cd_out L a (by omega), decide_eq_false (by omega)]
def nodesR : Res → List Nd
  | .ok t _ => t.flat 0
  | .bad _ _ => []
def atR : Res → Int
  | .ok _ q => (q : Int)
  | .bad _ q => (q : Int)
def errR : Res → Int
  | .ok _ _ => 0
  | .bad e _ => e
theorem make_res (L : List Tk) (q a : Nat) (ha : a < L.length) (kind n : Int) (ps : List (List Nd)) (t : Tr) (h : zat.f 1000 kind n (posAt (CL L) a) ps = some (ndRes t)) :
    zbh.f 1000 L (q : Int) 0 kind n (a : Int) ps = some (nodesR (mkRes t a q), atR (mkRes t a q), errR (mkRes t a q)) := by
  unfold zbh.f
  rw [if_pos rfl, if_pos (by omega), if_pos (by omega), rdT_at L a ha]
  rw [show L[a].f2 = posAt (CL L) a by rw [(cd_at L a ha).2.2, cT_p], h]
  simp only [Option.bind_some]
  unfold ndRes mkRes
  by_cases h1 : 60 < t.size
  · rw [if_pos h1, if_pos h1]; rfl
  · rw [if_neg h1, if_neg h1]
    by_cases h2 : 20 < t.depth
    · rw [if_pos h2, if_pos h2]; rfl
    · rw [if_neg h2, if_neg h2]; rfl
theorem make_bad (L : List Tk) (q : Nat) (e : Int) (he : e ≠ 0) (kind n a : Int) (ps : List (List Nd)) : zbh.f 1000 L (q : Int) e kind n a ps = some ([], (q : Int), e) := by
  unfold zbh.f; rw [if_neg he]
structure St (w0 w W : World) (g : Nat) (L : List Tk) (a e : Int) : Prop where
  is : IsS64 w0 W g L a e
  bel : Below w0.heap.size w0 W
  keep : KeepBut w W g none
theorem St.refl {w0 w : World} {g : Nat} {L : List Tk} {a e : Int} (hI : IsS64 w0 w g L a e) (hB : Below w0.heap.size w0 w) : St w0 w w g L a e := ⟨hI, hB, KeepBut.refl _ _ _⟩
theorem St.below {w0 w W W1 : World} {g : Nat} {L : List Tk} {a e : Int} (h : St w0 w W g L a e) (hb : Below W.heap.size W W1) : St w0 w W1 g L a e :=
  ⟨h.is.below hb, zaf h.bel hb, h.keep.trans (KeepBut.of_below hb g none) (.inl rfl)⟩
theorem St.alloc {w0 w W : World} {g : Nat} {L : List Tk} {a e : Int} (h : St w0 w W g L a e) (o : Obj) : St w0 w (W.alloc o) g L a e := h.below (zab (Below.refl _ _) o)
theorem St.drewN {w0 w W : World} {g : Nat} {L : List Tk} {a e : Int} (h : St w0 w W g L a e) (m : Nat) : St w0 w (W.drewN m) g L a e := h.below (zaa (Below.refl _ _) m)
theorem St.drew {w0 w W : World} {g : Nat} {L : List Tk} {a e : Int} (h : St w0 w W g L a e) : St w0 w W.drew g L a e := h.below (below_drew (Below.refl _ _))
theorem St.set1 {w0 w W : World} {g : Nat} {L : List Tk} {a e : Int} (h : St w0 w W g L a e) (x : Int) : St w0 w (W.setCell ⟨g, 1, none⟩ (.int .i64 x)) g L x e := ⟨h.is.set_1 x, zaq h.bel h.is.ge, h.keep.set_ 1 _⟩
theorem St.set2 {w0 w W : World} {g : Nat} {L : List Tk} {a e : Int} (h : St w0 w W g L a e) (x : Int) : St w0 w (W.setCell ⟨g, 2, none⟩ (.int .i64 x)) g L a x := ⟨h.is.set_2 x, zaq h.bel h.is.ge, h.keep.set_ 2 _⟩
theorem St.set1a {w0 w W : World} {g : Nat} {L : List Tk} {a e : Int} (h : St w0 w W g L a e) (x y : Int) (hy : y = x) : St w0 w (W.setCell ⟨g, 1, none⟩ (.int .i64 y)) g L x e := hy ▸ h.set1 y
theorem St.step {w0 w W W1 : World} {g : Nat} {L : List Tk} {a e a1 e1 : Int} (h : St w0 w W g L a e) (h1 : St w0 W W1 g L a1 e1) : St w0 w W1 g L a1 e1 := ⟨h1.is, h1.bel, h.keep.trans h1.keep (.inl rfl)⟩
theorem St.cells {w0 w W : World} {g : Nat} {L : List Tk} {a e : Int} (h : St w0 w W g L a e) : ∃ A c, W.cell? ⟨g, 0, none⟩ = some (.slice A L.length c) ∧ W.cell? ⟨g, 1, none⟩ = some (.int .i64 a) ∧ W.cell? ⟨g, 2, none⟩ = some (.int .i64 e) ∧
    W.frozen? ⟨g, 1, none⟩ = false ∧ W.frozen? ⟨g, 2, none⟩ = false := by
  obtain ⟨A, c, hg, _, _⟩ := h.is
  exact ⟨A, c, zcz hg, zcs hg, zct hg, zaj hg 1, zaj hg 2⟩
theorem St.tok {w0 w W : World} {g : Nat} {L : List Tk} {a e : Int} (h : St w0 w W g L a e) (i : Nat) (hi : i < L.length) : ∃ ad c, W.cell? ⟨g, 0, none⟩ = some (.slice (some ad) L.length c) ∧ W.cell? ⟨g, 1, none⟩ = some (.int .i64 a) ∧ W.cell? ⟨g, 2, none⟩ = some (.int .i64 e) ∧
    W.frozen? ⟨g, 1, none⟩ = false ∧ W.frozen? ⟨g, 2, none⟩ = false ∧ W.cell? (ad.add (i * 3)) = some (.int .u8 L[i].f0) ∧ W.cell? ⟨(ad.add (i * 3)).block, (ad.add (i * 3)).off + 1, none⟩ = some (.string L[i].f1) := by
  obtain ⟨A, c, hg, _, hC⟩ := h.is
  obtain ⟨ad, ead, h0, h1, _⟩ := zc1 hC (i : Int) (by omega) (by omega)
  cases ead
  rw [rdT_at L i hi, Int.toNat_natCast] at h0 h1
  exact ⟨ad, c, zcz hg, zcs hg, zct hg, zaj hg 1, zaj hg 2,
    (h.bel.cell (World.block_lt_of_cell? w0 _ h0)).trans h0, (h.bel.cell (World.block_lt_of_cell? w0 _ h1)).trans h1⟩
theorem Tabs.keep {w W : World} (h : Tabs w) {g : Nat} {A : Option Addr} {n c : Nat} {a e : Value} {t : TypeId} (hg : w.heap[g]? = some (.cells #[.slice A n c, a, e] t (0, 0))) (hk : KeepBut w W g none) : Tabs W := by
  have hv : ∀ (nm : String) (cs : Array Value), w.var? Tryz.prog nm = some cs → (∀ x, cs[0]? = some x → ∀ A n c, x ≠ .slice A n c) → W.var? Tryz.prog nm = some cs := by
    intro nm cs h1 h2
    unfold World.var? at h1 ⊢
    cases hgn : Tryz.prog.globalNamed nm with
    | none => rw [hgn] at h1; simp at h1
    | some gg =>
      rw [hgn] at h1
      simp only [Option.bind_some] at h1 ⊢
      have hlt : gg < w.heap.size := by
        cases hw : w.heap[gg]? with
        | none => rw [hw] at h1; simp at h1
        | some o => exact (Array.getElem?_eq_some_iff.1 hw).1
      have hne : gg ≠ g := by
        rintro rfl
        rw [hg] at h1
        have h3 := Option.some.inj h1
        exact h2 (.slice A n c) (by rw [← h3]; rfl) A n c rfl
      rw [hk.2 gg hlt hne (by simp)]; exact h1
  refine ⟨⟨fun i hi => ?_⟩, hv _ _ h.pow ?_, ?_⟩
  · have hc := h.sp.cell i hi
    have hlt := h.size
    have hne : 0 ≠ g := by
      intro hh
      have h0 := h.sp.cell 0 (by omega)
      have h1 := zal hg 0
      rw [← hh] at h1
      rw [h0] at h1
      simp at h1
    exact (World.cell?_of_block (hk.2 _ hlt hne (by simp))).trans hc
  · intro x hx A n c hh
    simp only [Lib.pow10Tab, List.getElem?_toArray, List.getElem?_map] at hx
    subst hh
    simp at hx
  · obtain ⟨tp, p, h1⟩ := h.rng
    refine ⟨tp, p, hv _ _ h1 ?_⟩
    intro x hx A n c hh
    subst hh
    simp at hx
theorem St.tabs {w0 w W : World} {g : Nat} {L : List Tk} {a e a0 e0 : Int} (h : St w0 w W g L a e) (h0 : IsS64 w0 w g L a0 e0) (hT : Tabs w) : Tabs W := by
  obtain ⟨A, c, hg, _, _⟩ := h0
  exact Tabs.keep hT hg h.keep
def jobPost (w0 w : World) (g : Nat) (L : List Tk) (r : Res) (e : Ending) (w' : World) : Prop :=
  ∃ v0_ : Value, e = .returned v0_ ∧ Kd.R k43 43 w' w.heap.size (fun _ => True) v0_ (nodesR r) ∧ St w0 w w' g L (atR r) (errR r)
theorem is_any {w0 w W : World} {g : Nat} {L : List Tk} {a : Nat} {e : Int} (h : St w0 w W g L (a : Int) e) (s : ByteArray) (c : Nat) (hc : c = 2 ∨ c = 3 ∨ c = 4 ∨ c = 5 ∨ c = 6 ∨ c = 9 ∨ c = 20) (hs : s.data.toList = ofCode c) (b : Bool) (hb : decide (cdAt (CL L) a = c) = b) :
    Calls Tryz.prog 86 #[.pointer (some ⟨g, 0, none⟩), .string s] W fun en W' => en = .returned (.bool b) ∧ St w0 w W' g L (a : Int) e ∧ KeepBut W W' g none :=
  (zcj.calls g L (a : Int) e s b (a : Int) e w0 W h.is h.bel (by rw [is_eq L a e s c hc hs, hb])).mono fun _ _ ⟨h1, h2, h3, h4⟩ => ⟨h1, ⟨h2, h3, h.keep.trans h4 (.inl rfl)⟩, h4⟩
theorem is_k {w0 w W : World} {g : Nat} {L : List Tk} {a : Nat} {e : Int} (h : St w0 w W g L (a : Int) e) (b : Bool) (hb : decide (cdAt (CL L) a = 2) = b) :
    Calls Tryz.prog 86 #[.pointer (some ⟨g, 0, none⟩), .string ⟨#[107]⟩] W fun en W' => en = .returned (.bool b) ∧ St w0 w W' g L (a : Int) e ∧ KeepBut W W' g none := is_any h ⟨#[107]⟩ 2 (by omega) rfl b hb
theorem is_t {w0 w W : World} {g : Nat} {L : List Tk} {a : Nat} {e : Int} (h : St w0 w W g L (a : Int) e) (b : Bool) (hb : decide (cdAt (CL L) a = 3) = b) :
    Calls Tryz.prog 86 #[.pointer (some ⟨g, 0, none⟩), .string ⟨#[116]⟩] W fun en W' => en = .returned (.bool b) ∧ St w0 w W' g L (a : Int) e ∧ KeepBut W W' g none := is_any h ⟨#[116]⟩ 3 (by omega) rfl b hb
theorem is_v {w0 w W : World} {g : Nat} {L : List Tk} {a : Nat} {e : Int} (h : St w0 w W g L (a : Int) e) (b : Bool) (hb : decide (cdAt (CL L) a = 4) = b) :
    Calls Tryz.prog 86 #[.pointer (some ⟨g, 0, none⟩), .string ⟨#[118]⟩] W fun en W' => en = .returned (.bool b) ∧ St w0 w W' g L (a : Int) e ∧ KeepBut W W' g none := is_any h ⟨#[118]⟩ 4 (by omega) rfl b hb
theorem is_lp {w0 w W : World} {g : Nat} {L : List Tk} {a : Nat} {e : Int} (h : St w0 w W g L (a : Int) e) (b : Bool) (hb : decide (cdAt (CL L) a = 5) = b) :
    Calls Tryz.prog 86 #[.pointer (some ⟨g, 0, none⟩), .string ⟨#[40]⟩] W fun en W' => en = .returned (.bool b) ∧ St w0 w W' g L (a : Int) e ∧ KeepBut W W' g none := is_any h ⟨#[40]⟩ 5 (by omega) rfl b hb
theorem is_rp {w0 w W : World} {g : Nat} {L : List Tk} {a : Nat} {e : Int} (h : St w0 w W g L (a : Int) e) (b : Bool) (hb : decide (cdAt (CL L) a = 6) = b) :
    Calls Tryz.prog 86 #[.pointer (some ⟨g, 0, none⟩), .string ⟨#[41]⟩] W fun en W' => en = .returned (.bool b) ∧ St w0 w W' g L (a : Int) e ∧ KeepBut W W' g none := is_any h ⟨#[41]⟩ 6 (by omega) rfl b hb
theorem is_minus {w0 w W : World} {g : Nat} {L : List Tk} {a : Nat} {e : Int} (h : St w0 w W g L (a : Int) e) (b : Bool) (hb : decide (cdAt (CL L) a = 9) = b) :
    Calls Tryz.prog 86 #[.pointer (some ⟨g, 0, none⟩), .string ⟨#[45]⟩] W fun en W' => en = .returned (.bool b) ∧ St w0 w W' g L (a : Int) e ∧ KeepBut W W' g none := is_any h ⟨#[45]⟩ 9 (by omega) rfl b hb
theorem is_not {w0 w W : World} {g : Nat} {L : List Tk} {a : Nat} {e : Int} (h : St w0 w W g L (a : Int) e) (b : Bool) (hb : decide (cdAt (CL L) a = 20) = b) :
    Calls Tryz.prog 86 #[.pointer (some ⟨g, 0, none⟩), .string ⟨#[110, 111, 116]⟩] W fun en W' => en = .returned (.bool b) ∧ St w0 w W' g L (a : Int) e ∧ KeepBut W W' g none := is_any h ⟨#[110, 111, 116]⟩ 20 (by omega) rfl b hb
theorem make_any {w0 w W : World} {g : Nat} {L : List Tk} {q : Int} {e : Int} (h : St w0 w W g L q e) (kind n a : Int) (A : Option Addr) (c : Nat) (ps : List (List Nd)) (r : List Nd) (q' e' : Int)
    (hr : ∀ W_, KeepBut W W_ g none → Kd.C (Kd.slice 43 k43) W_ A ps.length ps) (hc : ps.length ≤ c) (hm : zbh.f 1000 L q e kind n a ps = some (r, q', e')) :
    Calls Tryz.prog 48 #[.pointer (some ⟨g, 0, none⟩), .int .u8 kind, .int .i64 n, .int .i64 a, .slice A ps.length c] W fun en W' =>
      ∃ v, en = .returned v ∧ Kd.R k43 43 W' W.heap.size (fun _ => True) v r ∧ St w0 w W' g L q' e' ∧ KeepBut W W' g none :=
  (zbh.calls 1000 g L q e kind n a A c ps r q' e' w0 W h.is h.bel hr hc hm).mono fun _ _ ⟨v, h1, h2, h3, h4, h5⟩ => ⟨v, h1, h2, ⟨h3, h4, h.keep.trans h5 (.inl rfl)⟩, h5⟩
end
section
open Go.Proofs.YtgmmngipnjmkfaaGreatDoor.Pure
structure Fine (L : List Tk) : Prop where
  len : L.length ≤ 200
  val : ∀ t ∈ L, 0 ≤ t.f2 ∧ t.f2 ≤ 400 ∧ t.f1.size ≤ 140737488351232
structure Jobs (w0 : World) (L : List Tk) (k : Nat) : Prop where
  ex : ∀ (s a : Nat) (r : Res) (g : Nat) (w : World), 1 ≤ s → s ≤ 6 → a ≤ L.length → run (CL L) k (.expr s) a = some r → IsS64 w0 w g L a 0 → Below w0.heap.size w0 w → Tabs w →
    Calls Tryz.prog 29 #[.pointer (some ⟨g, 0, none⟩), .int .i64 (s : Int)] w (jobPost w0 w g L r)
  op : ∀ (s a : Nat) (r : Res) (g : Nat) (w : World), 1 ≤ s → s ≤ 6 → a ≤ L.length → run (CL L) k (.opnd s) a = some r → IsS64 w0 w g L a 0 → Below w0.heap.size w0 w → Tabs w →
    Calls Tryz.prog 44 #[.pointer (some ⟨g, 0, none⟩), .int .i64 (s : Int)] w (jobPost w0 w g L r)
  fr : ∀ (s a : Nat) (r : Res) (g : Nat) (w : World), s = 2 ∨ s = 6 → a ≤ L.length → run (CL L) k (.front s) a = some r → IsS64 w0 w g L a 0 → Below w0.heap.size w0 w → Tabs w →
    Calls Tryz.prog 64 #[.pointer (some ⟨g, 0, none⟩), .int .i64 (s : Int)] w (jobPost w0 w g L r)
  pr : ∀ (a : Nat) (r : Res) (g : Nat) (w : World), a ≤ L.length → run (CL L) k .prim a = some r → IsS64 w0 w g L a 0 → Below w0.heap.size w0 w → Tabs w →
    Calls Tryz.prog 84 #[.pointer (some ⟨g, 0, none⟩)] w (jobPost w0 w g L r)
theorem readL_range (l : List UInt8) : 0 ≤ (readL l).1 ∧ (readL l).1 ≤ 9223372036854775807 := by
  unfold readL
  by_cases h1 : l = []
  · rw [if_pos h1]; exact ⟨by decide, by decide⟩
  · rw [if_neg h1]
    by_cases h2 : l.all digB = true
    · rw [if_pos h2]
      by_cases h3 : decFrom 0 l ≤ 9223372036854775807
      · rw [if_pos h3]; exact ⟨by show (0 : Int) ≤ (decFrom 0 l : Int); omega, by show (decFrom 0 l : Int) ≤ _; omega⟩
      · rw [if_neg h3]; exact ⟨by decide, by decide⟩
    · rw [if_neg h2]; exact ⟨by decide, by decide⟩
theorem Fine.valid {L : List Tk} (h : Fine L) : valid (CL L) := by
  intro i
  rcases Nat.lt_or_ge i L.length with hi | hi
  · obtain ⟨_, h2, h3⟩ := cd_at L i hi
    rw [h2, h3, cT_p]
    have hv := h.val L[i] (List.getElem_mem hi)
    refine ⟨hv.1, hv.2.1, ?_⟩
    unfold cT
    by_cases e : L[i].f0 = 1
    · rw [if_pos e]; exact readL_range _
    · rw [if_neg e]; exact ⟨(by decide : (0 : Int) ≤ 0), (by decide : (0 : Int) ≤ 9223372036854775807)⟩
  · unfold posAt valAt
    rw [List.getElem?_eq_none (by rw [zcu]; exact hi)]
    exact ⟨by decide, by decide, by decide, by decide⟩
theorem leaf_make {L : List Tk} (hF : Fine L) (q a : Nat) (ha : a < L.length) (k n : Int) (hk1 : 1 ≤ k) (hk2 : k ≤ 4) (h0 : 0 ≤ n) (h1 : n ≤ 9223372036854775807) (h2 : n = 0 ∨ k = 1) :
    zbh.f 1000 L (q : Int) 0 k n (a : Int) [] = some ((Tr.leaf k n (posAt (CL L) a)).flat 0, (q : Int), 0) := by
  have hp := hF.valid a
  have := make_res L q a ha k n [] (.leaf k n (posAt (CL L) a)) (node_leaf k n _ ⟨hk1, hk2, h0, h1, h2, hp.1, hp.2.1⟩ 1000 (by omega))
  rw [mkRes_fits a q (by simp [Tr.size]) (by simp [Tr.depth])] at this
  exact this
theorem nil_rows (W : World) (g : Nat) : ∀ W_, KeepBut W W_ g none → Kd.C (Kd.slice 43 k43) W_ none ([] : List (List Nd)).length [] := fun W_ _ => Kd.C_nil _ W_
set_option maxRecDepth 100000 in
set_option maxHeartbeats 8000000 in
theorem prim_number {w0 : World} {L : List Tk} (hF : Fine L) (a g : Nat) (w : World) (hlt : a < L.length) (hc : cdAt (CL L) a = 1) (hI : IsS64 w0 w g L a 0) (hB : Below w0.heap.size w0 w) (hT : Tabs w) :
    Calls Tryz.prog 84 #[.pointer (some ⟨g, 0, none⟩)] w (jobPost w0 w g L (.ok (.leaf 1 (valAt (CL L) a) (posAt (CL L) a)) (a + 1))) := by
  have HS := zad.mk (St.refl hI hB)
  obtain ⟨ad, c, h0, h1, h2, f1, f2, t0, t1⟩ := HS.out.tok a hlt
  have hf0 := (cd_num L a hlt).1 hc
  have hval : valAt (CL L) a = (readL L[a].f1.data.toList).1 := by rw [(cd_at L a hlt).2.1]; unfold cT; rw [if_pos hf0]
  rw [hf0] at t0
  have hsz := (hF.val L[a] (List.getElem_mem hlt)).2.2
  obtain ⟨s, hs⟩ : ∃ s, s = L[a].f1 := ⟨_, rfl⟩
  rw [← hs] at t1 hsz hval
  have hrr := readL_range s.data.toList
  have HR := Lib.hid (fun W hW => read_any s W hW hsz)
  have HM := Lib.hid (leaf_make hF (a + 1) a hlt 1 (valAt (CL L) a) (by omega) (by omega) (by rw [hval]; exact hrr.1) (by rw [hval]; exact hrr.2) (.inr rfl))
  obtain ⟨n, hn⟩ : ∃ n, n = valAt (CL L) a := ⟨_, rfl⟩
  obtain ⟨rn, hrn⟩ : ∃ rn, rn = readL s.data.toList := ⟨_, rfl⟩
  rw [← hrn] at hval HR
  rw [← hn] at hval HM ⊢
  have ha200 : (a : Int) ≤ 200 := by have := hF.len; omega
  have ha0 : (0 : Int) ≤ (a : Int) := by omega
  have HL := Lib.hid hn
  have HV := Lib.hid hval
  have hlti : decide ((a : Int) < (L.length : Int)) = true := decide_eq_true (by omega)
  clear hI hB hF hc hf0 hs hsz hrr hn hrn hval
  go_enter Tryz.func84, Tryz.ntmps84
  go_wp2_with (first
    | (go_at_call 41; (with_reducible refine (HR.out _ hT).mono ?_); rintro e w1 ⟨rfl, hb⟩; have HS1 := zad.mk (HS.out.below hb); clear hb; obtain ⟨A1, c1, i0, i1, i2, g1, g2⟩ := HS1.out.cells)
    | (go_at_call 48; refine (make_any (HS1.out.set1a ((a + 1 : Nat) : Int) ((a : Int) + 1) (by omega)) 1 _ (a : Int) none 0 [] _ _ _ (nil_rows _ g) (Nat.le_refl _) (by rw [← HV.out]; exact HM.out)).mono ?_; rintro e w2 ⟨v, rfl, hr, hs, hk⟩))
  go_ret
  refine ⟨v, rfl, Kd.zbp hr ?_, hs⟩
  exact (HS1.out.set1 _).keep.1
theorem zcf {P : Program} {c : Code} {Q : Exit → Act → World → Prop} {a : Act} {w : World}
    (h : ∀ K1 K2 K3 : Act → World → Prop, (∀ a w, c.wp P (Exit.then K2 Q) a w → K1 a w) → (∀ a w, c.wp P (Exit.then K3 Q) a w → K2 a w) → (∀ a w, c.wp P (Exit.then (fun _ _ => False) Q) a w → K3 a w) → c.wp P (Exit.then K1 Q) a w) : (Code.loop c).wp P Q a w :=
  wp_loop_rounds 4 (by
    show c.wp P (Exit.then (Code.rounds P c Q 3) Q) a w
    exact h _ (Code.rounds P c Q 2) (Code.rounds P c Q 1) (fun _ _ h => h) (fun _ _ h => h) (fun _ _ h => h))
theorem zdi {w0 w W W1 : World} {g : Nat} {L : List Tk} {a e : Int} {base : Nat} {v : Value} {xs : List Nd} (hs : St w0 w W g L a e) (hr : Kd.R k43 43 W base (fun _ => True) v xs) (hk : KeepBut W W1 g none) :
    Kd.R k43 43 W1 base (fun _ => True) v xs := Kd.zb0 (Kd.R_keep (hs.is.apart hr (by decide)) hk (fun _ h => h.2)) (fun _ _ => trivial)
theorem keep_set1 (W : World) (g : Nat) (u : Value) : KeepBut W (W.setCell ⟨g, 1, none⟩ u) g none := (KeepBut.refl W g none).set_ 1 u
theorem wrapN_err (C : List Ct) (kind : Int) (a : Nat) : ∀ (n : Nat) (r : Res) (e : Int) (q : Nat), wrapN C kind a n r = .bad e q → (∀ e q, r = .bad e q → e ≠ 0) → e ≠ 0
  | 0, r, e, q, h, hr => hr e q h
  | n + 1, .bad e' q', e, q, h, hr => hr e q (by simpa [wrapN] using h)
  | n + 1, .ok t q', e, q, h, hr => by
    simp only [wrapN] at h
    refine wrapN_err C kind a n _ e q h ?_
    intro e2 q2 h2
    rcases zc3 (.un kind (posAt C (a + n)) t) (a + n) q' with ⟨h3, _⟩ | ⟨e3, h3, h4⟩
    · rw [h3] at h2; cases h2
    · rw [h3] at h2; injection h2 with h5 h6; subst h5; omega
theorem run_err (C : List Ct) : ∀ (k : Nat) (j : Job) (a : Nat) (e : Int) (q : Nat), run C k j a = some (.bad e q) → e ≠ 0 := by
  intro k
  induction k with
  | zero => intro j a e q h; cases h
  | succ k ih =>
    intro j a e q h
    cases j with
    | expr s =>
      simp only [run] at h
      cases h1 : run C k (.opnd s) a with
      | none => rw [h1] at h; cases h
      | some r1 =>
        rw [h1] at h
        cases r1 with
        | bad e1 q1 => simp only [Option.some.injEq, Res.bad.injEq] at h; rw [← h.1]; exact ih _ _ _ _ h1
        | ok t q1 => exact ih _ _ _ _ h
    | opnd s =>
      simp only [run] at h
      by_cases hs : s = 2 ∨ s = 6
      · rw [if_pos hs] at h; exact ih _ _ _ _ h
      · rw [if_neg hs] at h; exact ih _ _ _ _ h
    | front s =>
      simp only [run] at h
      by_cases hs : s ≤ 2
      · rw [if_pos hs] at h
        cases h1 : run C k (.expr 3) (a + lead 20 (C.drop a)) with
        | none => rw [h1] at h; cases h
        | some r1 =>
          rw [h1] at h; simp only [Option.some.injEq] at h
          exact wrapN_err C _ a _ r1 e q h (fun e2 q2 h2 => ih _ _ e2 q2 (by rw [h1, h2]))
      · rw [if_neg hs] at h
        cases h1 : run C k .prim (a + lead 9 (C.drop a)) with
        | none => rw [h1] at h; cases h
        | some r1 =>
          rw [h1] at h; simp only [Option.some.injEq] at h
          exact wrapN_err C _ a _ r1 e q h (fun e2 q2 h2 => ih _ _ e2 q2 (by rw [h1, h2]))
    | prim =>
      simp only [run] at h
      by_cases h1 : cdAt C a = 1
      · rw [if_pos h1] at h; cases h
      · rw [if_neg h1] at h
        by_cases h2 : 2 ≤ cdAt C a ∧ cdAt C a ≤ 4
        · rw [if_pos h2] at h; cases h
        · rw [if_neg h2] at h
          by_cases h5 : cdAt C a = 5
          · rw [if_pos h5] at h
            cases h6 : run C k (.expr 1) (a + 1) with
            | none => rw [h6] at h; cases h
            | some r1 =>
              rw [h6] at h
              cases r1 with
              | bad e1 q1 => simp only [Option.some.injEq, Res.bad.injEq] at h; rw [← h.1]; exact ih _ _ _ _ h6
              | ok t q1 =>
                simp only at h
                by_cases h8 : cdAt C q1 = 6
                · rw [if_pos h8] at h; cases h
                · rw [if_neg h8] at h; simp only [Option.some.injEq, Res.bad.injEq] at h; omega
          · rw [if_neg h5] at h; simp only [Option.some.injEq, Res.bad.injEq] at h; omega
    | loop s l =>
      simp only [run] at h
      by_cases h1 : 7 ≤ cdAt C a ∧ cdAt C a ≤ 19 ∧ bindsN (cdAt C a) = s
      · rw [if_pos h1] at h
        cases h2 : run C k (.opnd s) (a + 1) with
        | none => rw [h2] at h; cases h
        | some r1 =>
          rw [h2] at h
          cases r1 with
          | bad e1 q1 => simp only [Option.some.injEq, Res.bad.injEq] at h; rw [← h.1]; exact ih _ _ _ _ h2
          | ok x q1 =>
            simp only at h
            rcases zc3 (.bin (cdAt C a) (posAt C a) l x) a q1 with ⟨h3, _⟩ | ⟨e3, h3, h4⟩
            · rw [h3] at h
              simp only at h
              by_cases hs : s = 3
              · rw [if_pos hs] at h; cases h
              · rw [if_neg hs] at h; exact ih _ _ _ _ h
            · rw [h3] at h; simp only [Option.some.injEq, Res.bad.injEq] at h; rw [← h.1]; omega
      · rw [if_neg h1] at h; cases h
set_option maxRecDepth 100000 in
set_option maxHeartbeats 8000000 in
theorem prim_field2 {w0 : World} {L : List Tk} (hF : Fine L) (a g : Nat) (w : World) (hlt : a < L.length) (hc : cdAt (CL L) a = 2) (hI : IsS64 w0 w g L a 0) (hB : Below w0.heap.size w0 w) :
    Calls Tryz.prog 84 #[.pointer (some ⟨g, 0, none⟩)] w (jobPost w0 w g L (.ok (.leaf (2 : Nat) 0 (posAt (CL L) a)) (a + 1))) := by
  have HS := zad.mk (St.refl hI hB)
  obtain ⟨ad, c, h0, h1, h2, f1, f2, t0, t1⟩ := HS.out.tok a hlt
  have hf0 : (L[a].f0 == 1) = false := beq_eq_false_iff_ne.2 (fun h => by have := (cd_num L a hlt).2 h; omega)
  have HM := Lib.hid (leaf_make hF (a + 1) a hlt 2 0 (by omega) (by omega) (by omega) (by omega) (.inl rfl))
  have ha200 : (a : Int) ≤ 200 := by have := hF.len; omega
  have ha0 : (0 : Int) ≤ (a : Int) := by omega
  have hlti : decide ((a : Int) < (L.length : Int)) = true := decide_eq_true (by omega)
  have hltn : (a : Int) < (L.length : Int) := by omega
  have hb2 : decide (cdAt (CL L) a = 2) = true := by rw [hc]; rfl
  clear hI hB hF
  have i0 : ∀ w, (Instr.index 97 (.agg #[.string ⟨#[107]⟩, .string ⟨#[116]⟩, .string ⟨#[118]⟩]) (.int .i64 0)).run Tryz.prog w = .ok (.string ⟨#[107]⟩) w := fun _ => by kernel_rfl
  have i1 : ∀ w, (Instr.index 97 (.agg #[.string ⟨#[107]⟩, .string ⟨#[116]⟩, .string ⟨#[118]⟩]) (.int .i64 1)).run Tryz.prog w = .ok (.string ⟨#[116]⟩) w := fun _ => by kernel_rfl
  have i2 : ∀ w, (Instr.index 97 (.agg #[.string ⟨#[107]⟩, .string ⟨#[116]⟩, .string ⟨#[118]⟩]) (.int .i64 2)).run Tryz.prog w = .ok (.string ⟨#[118]⟩) w := fun _ => by kernel_rfl
  go_enter Tryz.func84, Tryz.ntmps84
  go_wp2_with (first
    | (go_at_call 86; (with_reducible refine (is_k HS.out true hb2).mono ?_); rintro e w1 ⟨rfl, hs, hk⟩; clear h0 h1 h2 f1 f2 HS; have HS := zad.mk hs; clear hs hk; obtain ⟨A1, c1, h0, h1, h2, f1, f2⟩ := HS.out.cells)
    | (go_at_call 48; refine (make_any (HS.out.set1a ((a + 1 : Nat) : Int) ((a : Int) + 1) (by omega)) 2 0 (a : Int) none 0 [] _ _ _ (nil_rows _ g) (Nat.le_refl _) HM.out).mono ?_; rintro e w2 ⟨v, rfl, hr, hs, hk⟩)
    | (refine zcf ?_; intro _ _ _ _ _ _))
  go_ret
  refine ⟨v, rfl, Kd.zbp hr ?_, hs⟩
  exact (HS.out.set1 _).keep.1
set_option maxRecDepth 100000 in
set_option maxHeartbeats 8000000 in
theorem prim_field3 {w0 : World} {L : List Tk} (hF : Fine L) (a g : Nat) (w : World) (hlt : a < L.length) (hc : cdAt (CL L) a = 3) (hI : IsS64 w0 w g L a 0) (hB : Below w0.heap.size w0 w) :
    Calls Tryz.prog 84 #[.pointer (some ⟨g, 0, none⟩)] w (jobPost w0 w g L (.ok (.leaf (3 : Nat) 0 (posAt (CL L) a)) (a + 1))) := by
  have HS := zad.mk (St.refl hI hB)
  obtain ⟨ad, c, h0, h1, h2, f1, f2, t0, t1⟩ := HS.out.tok a hlt
  have hf0 : (L[a].f0 == 1) = false := beq_eq_false_iff_ne.2 (fun h => by have := (cd_num L a hlt).2 h; omega)
  have HM := Lib.hid (leaf_make hF (a + 1) a hlt 3 0 (by omega) (by omega) (by omega) (by omega) (.inl rfl))
  have ha200 : (a : Int) ≤ 200 := by have := hF.len; omega
  have ha0 : (0 : Int) ≤ (a : Int) := by omega
  have hlti : decide ((a : Int) < (L.length : Int)) = true := decide_eq_true (by omega)
  have hltn : (a : Int) < (L.length : Int) := by omega
  have hb2 : decide (cdAt (CL L) a = 2) = false := by rw [hc]; rfl
  have hb3 : decide (cdAt (CL L) a = 3) = true := by rw [hc]; rfl
  clear hI hB hF
  have i0 : ∀ w, (Instr.index 97 (.agg #[.string ⟨#[107]⟩, .string ⟨#[116]⟩, .string ⟨#[118]⟩]) (.int .i64 0)).run Tryz.prog w = .ok (.string ⟨#[107]⟩) w := fun _ => by kernel_rfl
  have i1 : ∀ w, (Instr.index 97 (.agg #[.string ⟨#[107]⟩, .string ⟨#[116]⟩, .string ⟨#[118]⟩]) (.int .i64 1)).run Tryz.prog w = .ok (.string ⟨#[116]⟩) w := fun _ => by kernel_rfl
  have i2 : ∀ w, (Instr.index 97 (.agg #[.string ⟨#[107]⟩, .string ⟨#[116]⟩, .string ⟨#[118]⟩]) (.int .i64 2)).run Tryz.prog w = .ok (.string ⟨#[118]⟩) w := fun _ => by kernel_rfl
  go_enter Tryz.func84, Tryz.ntmps84
  go_wp2_with (first
    | (go_at_call 86; (with_reducible refine (is_k HS.out false hb2).mono ?_); rintro e w1 ⟨rfl, hs, hk⟩; clear h0 h1 h2 f1 f2 HS; have HS := zad.mk hs; clear hs hk; obtain ⟨A1, c1, h0, h1, h2, f1, f2⟩ := HS.out.cells)
    | (go_at_call 86; (with_reducible refine (is_t HS.out true hb3).mono ?_); rintro e w1 ⟨rfl, hs, hk⟩; clear h0 h1 h2 f1 f2 HS; have HS := zad.mk hs; clear hs hk; obtain ⟨A1, c1, h0, h1, h2, f1, f2⟩ := HS.out.cells)
    | (go_at_call 48; refine (make_any (HS.out.set1a ((a + 1 : Nat) : Int) ((a : Int) + 1) (by omega)) 3 0 (a : Int) none 0 [] _ _ _ (nil_rows _ g) (Nat.le_refl _) HM.out).mono ?_; rintro e w2 ⟨v, rfl, hr, hs, hk⟩)
    | (refine zcf ?_; intro _ _ _ _ _ _))
  go_ret
  refine ⟨v, rfl, Kd.zbp hr ?_, hs⟩
  exact (HS.out.set1 _).keep.1
set_option maxRecDepth 100000 in
set_option maxHeartbeats 8000000 in
theorem prim_field4 {w0 : World} {L : List Tk} (hF : Fine L) (a g : Nat) (w : World) (hlt : a < L.length) (hc : cdAt (CL L) a = 4) (hI : IsS64 w0 w g L a 0) (hB : Below w0.heap.size w0 w) :
    Calls Tryz.prog 84 #[.pointer (some ⟨g, 0, none⟩)] w (jobPost w0 w g L (.ok (.leaf (4 : Nat) 0 (posAt (CL L) a)) (a + 1))) := by
  have HS := zad.mk (St.refl hI hB)
  obtain ⟨ad, c, h0, h1, h2, f1, f2, t0, t1⟩ := HS.out.tok a hlt
  have hf0 : (L[a].f0 == 1) = false := beq_eq_false_iff_ne.2 (fun h => by have := (cd_num L a hlt).2 h; omega)
  have HM := Lib.hid (leaf_make hF (a + 1) a hlt 4 0 (by omega) (by omega) (by omega) (by omega) (.inl rfl))
  have ha200 : (a : Int) ≤ 200 := by have := hF.len; omega
  have ha0 : (0 : Int) ≤ (a : Int) := by omega
  have hlti : decide ((a : Int) < (L.length : Int)) = true := decide_eq_true (by omega)
  have hltn : (a : Int) < (L.length : Int) := by omega
  have hb2 : decide (cdAt (CL L) a = 2) = false := by rw [hc]; rfl
  have hb3 : decide (cdAt (CL L) a = 3) = false := by rw [hc]; rfl
  have hb4 : decide (cdAt (CL L) a = 4) = true := by rw [hc]; rfl
  clear hI hB hF
  have i0 : ∀ w, (Instr.index 97 (.agg #[.string ⟨#[107]⟩, .string ⟨#[116]⟩, .string ⟨#[118]⟩]) (.int .i64 0)).run Tryz.prog w = .ok (.string ⟨#[107]⟩) w := fun _ => by kernel_rfl
  have i1 : ∀ w, (Instr.index 97 (.agg #[.string ⟨#[107]⟩, .string ⟨#[116]⟩, .string ⟨#[118]⟩]) (.int .i64 1)).run Tryz.prog w = .ok (.string ⟨#[116]⟩) w := fun _ => by kernel_rfl
  have i2 : ∀ w, (Instr.index 97 (.agg #[.string ⟨#[107]⟩, .string ⟨#[116]⟩, .string ⟨#[118]⟩]) (.int .i64 2)).run Tryz.prog w = .ok (.string ⟨#[118]⟩) w := fun _ => by kernel_rfl
  go_enter Tryz.func84, Tryz.ntmps84
  go_wp2_with (first
    | (go_at_call 86; (with_reducible refine (is_k HS.out false hb2).mono ?_); rintro e w1 ⟨rfl, hs, hk⟩; clear h0 h1 h2 f1 f2 HS; have HS := zad.mk hs; clear hs hk; obtain ⟨A1, c1, h0, h1, h2, f1, f2⟩ := HS.out.cells)
    | (go_at_call 86; (with_reducible refine (is_t HS.out false hb3).mono ?_); rintro e w1 ⟨rfl, hs, hk⟩; clear h0 h1 h2 f1 f2 HS; have HS := zad.mk hs; clear hs hk; obtain ⟨A1, c1, h0, h1, h2, f1, f2⟩ := HS.out.cells)
    | (go_at_call 86; (with_reducible refine (is_v HS.out true hb4).mono ?_); rintro e w1 ⟨rfl, hs, hk⟩; clear h0 h1 h2 f1 f2 HS; have HS := zad.mk hs; clear hs hk; obtain ⟨A1, c1, h0, h1, h2, f1, f2⟩ := HS.out.cells)
    | (go_at_call 48; refine (make_any (HS.out.set1a ((a + 1 : Nat) : Int) ((a : Int) + 1) (by omega)) 4 0 (a : Int) none 0 [] _ _ _ (nil_rows _ g) (Nat.le_refl _) HM.out).mono ?_; rintro e w2 ⟨v, rfl, hr, hs, hk⟩)
    | (refine zcf ?_; intro _ _ _ _ _ _))
  go_ret
  refine ⟨v, rfl, Kd.zbp hr ?_, hs⟩
  exact (HS.out.set1 _).keep.1
set_option maxRecDepth 100000 in
set_option maxHeartbeats 8000000 in
theorem prim_end {w0 : World} {L : List Tk} (hF : Fine L) (a g : Nat) (w : World) (hlt : L.length ≤ a) (hc : cdAt (CL L) a = 0 ∨ 6 ≤ cdAt (CL L) a) (hI : IsS64 w0 w g L a 0) (hB : Below w0.heap.size w0 w) (ha : a ≤ L.length) :
    Calls Tryz.prog 84 #[.pointer (some ⟨g, 0, none⟩)] w (jobPost w0 w g L (.bad 12 a)) := by
  have HS := zad.mk (St.refl hI hB)
  have hltf : decide ((a : Int) < (L.length : Int)) = false := decide_eq_false (by omega)
  obtain ⟨A1, c1, h0, h1, h2, f1, f2⟩ := HS.out.cells
  have ha200 : (a : Int) ≤ 200 := by have := hF.len; omega
  have ha0 : (0 : Int) ≤ (a : Int) := by omega
  have hb2 : decide (cdAt (CL L) a = 2) = false := decide_eq_false (by omega)
  have hb3 : decide (cdAt (CL L) a = 3) = false := decide_eq_false (by omega)
  have hb4 : decide (cdAt (CL L) a = 4) = false := decide_eq_false (by omega)
  have hb5 : decide (cdAt (CL L) a = 5) = false := decide_eq_false (by omega)
  clear hI hB hF hc ha
  have i0 : ∀ w, (Instr.index 97 (.agg #[.string ⟨#[107]⟩, .string ⟨#[116]⟩, .string ⟨#[118]⟩]) (.int .i64 0)).run Tryz.prog w = .ok (.string ⟨#[107]⟩) w := fun _ => by kernel_rfl
  have i1 : ∀ w, (Instr.index 97 (.agg #[.string ⟨#[107]⟩, .string ⟨#[116]⟩, .string ⟨#[118]⟩]) (.int .i64 1)).run Tryz.prog w = .ok (.string ⟨#[116]⟩) w := fun _ => by kernel_rfl
  have i2 : ∀ w, (Instr.index 97 (.agg #[.string ⟨#[107]⟩, .string ⟨#[116]⟩, .string ⟨#[118]⟩]) (.int .i64 2)).run Tryz.prog w = .ok (.string ⟨#[118]⟩) w := fun _ => by kernel_rfl
  go_enter Tryz.func84, Tryz.ntmps84
  go_wp2_with (first
    | (go_at_call 86; (with_reducible refine (is_k HS.out false hb2).mono ?_); rintro e w1 ⟨rfl, hs, hk⟩; clear h0 h1 h2 f1 f2; have HSn := zad.mk hs; clear HS hs hk; have HS := HSn; clear HSn; obtain ⟨A1, c1, h0, h1, h2, f1, f2⟩ := HS.out.cells)
    | (go_at_call 86; (with_reducible refine (is_t HS.out false hb3).mono ?_); rintro e w1 ⟨rfl, hs, hk⟩; clear h0 h1 h2 f1 f2; have HSn := zad.mk hs; clear HS hs hk; have HS := HSn; clear HSn; obtain ⟨A1, c1, h0, h1, h2, f1, f2⟩ := HS.out.cells)
    | (go_at_call 86; (with_reducible refine (is_v HS.out false hb4).mono ?_); rintro e w1 ⟨rfl, hs, hk⟩; clear h0 h1 h2 f1 f2; have HSn := zad.mk hs; clear HS hs hk; have HS := HSn; clear HSn; obtain ⟨A1, c1, h0, h1, h2, f1, f2⟩ := HS.out.cells)
    | (refine zcf ?_; intro _ _ _ _ _ _)
    | (go_at_call 86; (with_reducible refine (is_lp HS.out false hb5).mono ?_); rintro e w1 ⟨rfl, hs, hk⟩; clear h0 h1 h2 f1 f2; have HSn := zad.mk hs; clear HS hs hk; have HS := HSn; clear HSn; obtain ⟨A1, c1, h0, h1, h2, f1, f2⟩ := HS.out.cells))
  go_ret
  exact ⟨_, rfl, Kd.R_nil _ _ _ _ _, HS.out.set2 12⟩
set_option maxRecDepth 100000 in
set_option maxHeartbeats 8000000 in
theorem prim_other {w0 : World} {L : List Tk} (hF : Fine L) (a g : Nat) (w : World) (hlt : a < L.length) (hc : cdAt (CL L) a = 0 ∨ 6 ≤ cdAt (CL L) a) (hI : IsS64 w0 w g L a 0) (hB : Below w0.heap.size w0 w) (ha : a ≤ L.length) :
    Calls Tryz.prog 84 #[.pointer (some ⟨g, 0, none⟩)] w (jobPost w0 w g L (.bad 12 a)) := by
  have HS := zad.mk (St.refl hI hB)
  have hf0 : (L[a].f0 == 1) = false := beq_eq_false_iff_ne.2 (fun h => by have := (cd_num L a hlt).2 h; omega)
  have hlti : decide ((a : Int) < (L.length : Int)) = true := decide_eq_true (by omega)
  have hltn : (a : Int) < (L.length : Int) := by omega
  obtain ⟨ad, c, h0, h1, h2, f1, f2, t0, t1⟩ := HS.out.tok a hlt
  have ha200 : (a : Int) ≤ 200 := by have := hF.len; omega
  have ha0 : (0 : Int) ≤ (a : Int) := by omega
  have hb2 : decide (cdAt (CL L) a = 2) = false := decide_eq_false (by omega)
  have hb3 : decide (cdAt (CL L) a = 3) = false := decide_eq_false (by omega)
  have hb4 : decide (cdAt (CL L) a = 4) = false := decide_eq_false (by omega)
  have hb5 : decide (cdAt (CL L) a = 5) = false := decide_eq_false (by omega)
  clear hI hB hF hc ha
  have i0 : ∀ w, (Instr.index 97 (.agg #[.string ⟨#[107]⟩, .string ⟨#[116]⟩, .string ⟨#[118]⟩]) (.int .i64 0)).run Tryz.prog w = .ok (.string ⟨#[107]⟩) w := fun _ => by kernel_rfl
  have i1 : ∀ w, (Instr.index 97 (.agg #[.string ⟨#[107]⟩, .string ⟨#[116]⟩, .string ⟨#[118]⟩]) (.int .i64 1)).run Tryz.prog w = .ok (.string ⟨#[116]⟩) w := fun _ => by kernel_rfl
  have i2 : ∀ w, (Instr.index 97 (.agg #[.string ⟨#[107]⟩, .string ⟨#[116]⟩, .string ⟨#[118]⟩]) (.int .i64 2)).run Tryz.prog w = .ok (.string ⟨#[118]⟩) w := fun _ => by kernel_rfl
  go_enter Tryz.func84, Tryz.ntmps84
  go_wp2_with (first
    | (go_at_call 86; (with_reducible refine (is_k HS.out false hb2).mono ?_); rintro e w1 ⟨rfl, hs, hk⟩; clear h0 h1 h2 f1 f2; have HSn := zad.mk hs; clear HS hs hk; have HS := HSn; clear HSn; obtain ⟨A1, c1, h0, h1, h2, f1, f2⟩ := HS.out.cells)
    | (go_at_call 86; (with_reducible refine (is_t HS.out false hb3).mono ?_); rintro e w1 ⟨rfl, hs, hk⟩; clear h0 h1 h2 f1 f2; have HSn := zad.mk hs; clear HS hs hk; have HS := HSn; clear HSn; obtain ⟨A1, c1, h0, h1, h2, f1, f2⟩ := HS.out.cells)
    | (go_at_call 86; (with_reducible refine (is_v HS.out false hb4).mono ?_); rintro e w1 ⟨rfl, hs, hk⟩; clear h0 h1 h2 f1 f2; have HSn := zad.mk hs; clear HS hs hk; have HS := HSn; clear HSn; obtain ⟨A1, c1, h0, h1, h2, f1, f2⟩ := HS.out.cells)
    | (refine zcf ?_; intro _ _ _ _ _ _)
    | (go_at_call 86; (with_reducible refine (is_lp HS.out false hb5).mono ?_); rintro e w1 ⟨rfl, hs, hk⟩; clear h0 h1 h2 f1 f2; have HSn := zad.mk hs; clear HS hs hk; have HS := HSn; clear HSn; obtain ⟨A1, c1, h0, h1, h2, f1, f2⟩ := HS.out.cells))
  go_ret
  exact ⟨_, rfl, Kd.R_nil _ _ _ _ _, HS.out.set2 12⟩
set_option maxRecDepth 100000 in
set_option maxHeartbeats 8000000 in
theorem prim_pbad {w0 : World} {L : List Tk} (hF : Fine L) {k : Nat} (ih : Jobs w0 L k) (a g : Nat) (w : World) (hlt : a < L.length) (hc : cdAt (CL L) a = 5) (hI : IsS64 w0 w g L a 0) (hB : Below w0.heap.size w0 w) (hT : Tabs w) (e : Int) (q : Nat) (he : e ≠ 0) (hr1 : run (CL L) k (.expr 1) (a + 1) = some (.bad e q)) :
    Calls Tryz.prog 84 #[.pointer (some ⟨g, 0, none⟩)] w (jobPost w0 w g L (.bad e q)) := by
  have HS := zad.mk (St.refl hI hB)
  have hf0 : (L[a].f0 == 1) = false := beq_eq_false_iff_ne.2 (fun h => by have := (cd_num L a hlt).2 h; omega)
  have hlti : decide ((a : Int) < (L.length : Int)) = true := decide_eq_true (by omega)
  have hltn : (a : Int) < (L.length : Int) := by omega
  obtain ⟨ad, c, h0, h1, h2, f1, f2, t0, t1⟩ := HS.out.tok a hlt
  have ha200 : (a : Int) ≤ 200 := by have := hF.len; omega
  have ha0 : (0 : Int) ≤ (a : Int) := by omega
  have hb2 : decide (cdAt (CL L) a = 2) = false := decide_eq_false (by omega)
  have hb3 : decide (cdAt (CL L) a = 3) = false := decide_eq_false (by omega)
  have hb4 : decide (cdAt (CL L) a = 4) = false := decide_eq_false (by omega)
  have hb5 : decide (cdAt (CL L) a = 5) = true := decide_eq_true hc
  have HE := Lib.hid (fun (W : World) (h : St w0 w W g L ((a + 1 : Nat) : Int) 0) => ih.ex 1 (a + 1) (.bad e q) g W (by omega) (by omega) (by omega) hr1 h.is h.bel (h.tabs hI hT))
  have hE0 : (e == 0) = false := beq_eq_false_iff_ne.2 he
  have hE1 : (e != 0) = true := bne_iff_ne.2 he
  clear hI hB hF hc hr1
  have i0 : ∀ w, (Instr.index 97 (.agg #[.string ⟨#[107]⟩, .string ⟨#[116]⟩, .string ⟨#[118]⟩]) (.int .i64 0)).run Tryz.prog w = .ok (.string ⟨#[107]⟩) w := fun _ => by kernel_rfl
  have i1 : ∀ w, (Instr.index 97 (.agg #[.string ⟨#[107]⟩, .string ⟨#[116]⟩, .string ⟨#[118]⟩]) (.int .i64 1)).run Tryz.prog w = .ok (.string ⟨#[116]⟩) w := fun _ => by kernel_rfl
  have i2 : ∀ w, (Instr.index 97 (.agg #[.string ⟨#[107]⟩, .string ⟨#[116]⟩, .string ⟨#[118]⟩]) (.int .i64 2)).run Tryz.prog w = .ok (.string ⟨#[118]⟩) w := fun _ => by kernel_rfl
  go_enter Tryz.func84, Tryz.ntmps84
  go_wp2_with (first
    | (go_at_call 86; (with_reducible refine (is_k HS.out false hb2).mono ?_); rintro e w1 ⟨rfl, hs, hk⟩; clear h0 h1 h2 f1 f2; have HSn := zad.mk hs; clear HS hs hk; have HS := HSn; clear HSn; obtain ⟨A1, c1, h0, h1, h2, f1, f2⟩ := HS.out.cells)
    | (go_at_call 86; (with_reducible refine (is_t HS.out false hb3).mono ?_); rintro e w1 ⟨rfl, hs, hk⟩; clear h0 h1 h2 f1 f2; have HSn := zad.mk hs; clear HS hs hk; have HS := HSn; clear HSn; obtain ⟨A1, c1, h0, h1, h2, f1, f2⟩ := HS.out.cells)
    | (go_at_call 86; (with_reducible refine (is_v HS.out false hb4).mono ?_); rintro e w1 ⟨rfl, hs, hk⟩; clear h0 h1 h2 f1 f2; have HSn := zad.mk hs; clear HS hs hk; have HS := HSn; clear HSn; obtain ⟨A1, c1, h0, h1, h2, f1, f2⟩ := HS.out.cells)
    | (refine zcf ?_; intro _ _ _ _ _ _)
    | (go_at_call 86; (with_reducible refine (is_lp HS.out true hb5).mono ?_); rintro e w1 ⟨rfl, hs, hk⟩; clear h0 h1 h2 f1 f2; have HSn := zad.mk hs; clear HS hs hk; have HS := HSn; clear HSn; obtain ⟨A1, c1, h0, h1, h2, f1, f2⟩ := HS.out.cells)
    | (go_at_call 29; refine (HE.out _ (HS.out.set1a ((a + 1 : Nat) : Int) ((a : Int) + 1) (by omega))).mono ?_; rintro e w2 ⟨v, rfl, hr, hs⟩; have HV := zad.mk hr; have HSa := zad.mk (HS.out.set1 ((a : Int) + 1)); have HSn := zad.mk (HSa.out.step hs); clear HS h0 h1 h2 f1 f2; have HS := HSn; clear HSn hr hs; obtain ⟨A1, c1, h0, h1, h2, f1, f2⟩ := HS.out.cells; simp only [atR, errR] at h1 h2))
  go_ret
  exact ⟨_, rfl, Kd.R_nil _ _ _ _ _, HS.out⟩
set_option maxRecDepth 100000 in
set_option maxHeartbeats 8000000 in
theorem prim_pok {w0 : World} {L : List Tk} (hF : Fine L) {k : Nat} (ih : Jobs w0 L k) (a g : Nat) (w : World) (hlt : a < L.length) (hc : cdAt (CL L) a = 5) (hI : IsS64 w0 w g L a 0) (hB : Below w0.heap.size w0 w) (hT : Tabs w) (t : Tr) (q : Nat) (hr1 : run (CL L) k (.expr 1) (a + 1) = some (.ok t q)) (hq : cdAt (CL L) q = 6) (hqL : q ≤ L.length) :
    Calls Tryz.prog 84 #[.pointer (some ⟨g, 0, none⟩)] w (jobPost w0 w g L (.ok t (q + 1))) := by
  have HS := zad.mk (St.refl hI hB)
  have hf0 : (L[a].f0 == 1) = false := beq_eq_false_iff_ne.2 (fun h => by have := (cd_num L a hlt).2 h; omega)
  have hlti : decide ((a : Int) < (L.length : Int)) = true := decide_eq_true (by omega)
  have hltn : (a : Int) < (L.length : Int) := by omega
  obtain ⟨ad, c, h0, h1, h2, f1, f2, t0, t1⟩ := HS.out.tok a hlt
  have ha200 : (a : Int) ≤ 200 := by have := hF.len; omega
  have ha0 : (0 : Int) ≤ (a : Int) := by omega
  have hb2 : decide (cdAt (CL L) a = 2) = false := decide_eq_false (by omega)
  have hb3 : decide (cdAt (CL L) a = 3) = false := decide_eq_false (by omega)
  have hb4 : decide (cdAt (CL L) a = 4) = false := decide_eq_false (by omega)
  have hb5 : decide (cdAt (CL L) a = 5) = true := decide_eq_true hc
  have HE := Lib.hid (fun (W : World) (h : St w0 w W g L ((a + 1 : Nat) : Int) 0) => ih.ex 1 (a + 1) (.ok t q) g W (by omega) (by omega) (by omega) hr1 h.is h.bel (h.tabs hI hT))
  have hb6 : decide (cdAt (CL L) q = 6) = true := decide_eq_true hq
  have hq200 : (q : Int) ≤ 200 := by have := hF.len; omega
  have hq0 : (0 : Int) ≤ (q : Int) := by omega
  clear hI hB hF hc hr1
  have i0 : ∀ w, (Instr.index 97 (.agg #[.string ⟨#[107]⟩, .string ⟨#[116]⟩, .string ⟨#[118]⟩]) (.int .i64 0)).run Tryz.prog w = .ok (.string ⟨#[107]⟩) w := fun _ => by kernel_rfl
  have i1 : ∀ w, (Instr.index 97 (.agg #[.string ⟨#[107]⟩, .string ⟨#[116]⟩, .string ⟨#[118]⟩]) (.int .i64 1)).run Tryz.prog w = .ok (.string ⟨#[116]⟩) w := fun _ => by kernel_rfl
  have i2 : ∀ w, (Instr.index 97 (.agg #[.string ⟨#[107]⟩, .string ⟨#[116]⟩, .string ⟨#[118]⟩]) (.int .i64 2)).run Tryz.prog w = .ok (.string ⟨#[118]⟩) w := fun _ => by kernel_rfl
  go_enter Tryz.func84, Tryz.ntmps84
  go_wp2_with (first
    | (go_at_call 86; (with_reducible refine (is_k HS.out false hb2).mono ?_); rintro e w1 ⟨rfl, hs, hk⟩; clear h0 h1 h2 f1 f2; have HSn := zad.mk hs; clear HS hs hk; have HS := HSn; clear HSn; obtain ⟨A1, c1, h0, h1, h2, f1, f2⟩ := HS.out.cells)
    | (go_at_call 86; (with_reducible refine (is_t HS.out false hb3).mono ?_); rintro e w1 ⟨rfl, hs, hk⟩; clear h0 h1 h2 f1 f2; have HSn := zad.mk hs; clear HS hs hk; have HS := HSn; clear HSn; obtain ⟨A1, c1, h0, h1, h2, f1, f2⟩ := HS.out.cells)
    | (go_at_call 86; (with_reducible refine (is_v HS.out false hb4).mono ?_); rintro e w1 ⟨rfl, hs, hk⟩; clear h0 h1 h2 f1 f2; have HSn := zad.mk hs; clear HS hs hk; have HS := HSn; clear HSn; obtain ⟨A1, c1, h0, h1, h2, f1, f2⟩ := HS.out.cells)
    | (refine zcf ?_; intro _ _ _ _ _ _)
    | (go_at_call 86; (with_reducible refine (is_lp HS.out true hb5).mono ?_); rintro e w1 ⟨rfl, hs, hk⟩; clear h0 h1 h2 f1 f2; have HSn := zad.mk hs; clear HS hs hk; have HS := HSn; clear HSn; obtain ⟨A1, c1, h0, h1, h2, f1, f2⟩ := HS.out.cells)
    | (go_at_call 29; refine (HE.out _ (HS.out.set1a ((a + 1 : Nat) : Int) ((a : Int) + 1) (by omega))).mono ?_; rintro e w2 ⟨v, rfl, hr, hs⟩; have HV := zad.mk hr; have HSa := zad.mk (HS.out.set1 ((a : Int) + 1)); have HSn := zad.mk (HSa.out.step hs); clear HS h0 h1 h2 f1 f2; have HS := HSn; clear HSn hr hs; obtain ⟨A1, c1, h0, h1, h2, f1, f2⟩ := HS.out.cells; simp only [atR, errR] at h1 h2)
    | (go_at_call 86; (with_reducible refine (is_rp HS.out true hb6).mono ?_); rintro e w1 ⟨rfl, hs, hk⟩; clear h0 h1 h2 f1 f2; have HVn := zad.mk (zdi HS.out HV.out hk); clear HV; have HV := HVn; clear HVn; have HSn := zad.mk hs; clear HS hs hk; have HS := HSn; clear HSn; obtain ⟨A1, c1, h0, h1, h2, f1, f2⟩ := HS.out.cells))
  go_ret
  exact ⟨v, rfl, Kd.zbp (zdi HS.out HV.out (keep_set1 _ g _)) HSa.out.keep.1, HS.out.set1a ((q + 1 : Nat) : Int) ((q : Int) + 1) (by omega)⟩
set_option maxRecDepth 100000 in
set_option maxHeartbeats 8000000 in
theorem prim_pno {w0 : World} {L : List Tk} (hF : Fine L) {k : Nat} (ih : Jobs w0 L k) (a g : Nat) (w : World) (hlt : a < L.length) (hc : cdAt (CL L) a = 5) (hI : IsS64 w0 w g L a 0) (hB : Below w0.heap.size w0 w) (hT : Tabs w) (t : Tr) (q : Nat) (hr1 : run (CL L) k (.expr 1) (a + 1) = some (.ok t q)) (hq : cdAt (CL L) q ≠ 6) (hqL : q ≤ L.length) :
    Calls Tryz.prog 84 #[.pointer (some ⟨g, 0, none⟩)] w (jobPost w0 w g L (.bad 12 q)) := by
  have HS := zad.mk (St.refl hI hB)
  have hf0 : (L[a].f0 == 1) = false := beq_eq_false_iff_ne.2 (fun h => by have := (cd_num L a hlt).2 h; omega)
  have hlti : decide ((a : Int) < (L.length : Int)) = true := decide_eq_true (by omega)
  have hltn : (a : Int) < (L.length : Int) := by omega
  obtain ⟨ad, c, h0, h1, h2, f1, f2, t0, t1⟩ := HS.out.tok a hlt
  have ha200 : (a : Int) ≤ 200 := by have := hF.len; omega
  have ha0 : (0 : Int) ≤ (a : Int) := by omega
  have hb2 : decide (cdAt (CL L) a = 2) = false := decide_eq_false (by omega)
  have hb3 : decide (cdAt (CL L) a = 3) = false := decide_eq_false (by omega)
  have hb4 : decide (cdAt (CL L) a = 4) = false := decide_eq_false (by omega)
  have hb5 : decide (cdAt (CL L) a = 5) = true := decide_eq_true hc
  have HE := Lib.hid (fun (W : World) (h : St w0 w W g L ((a + 1 : Nat) : Int) 0) => ih.ex 1 (a + 1) (.ok t q) g W (by omega) (by omega) (by omega) hr1 h.is h.bel (h.tabs hI hT))
  have hb6 : decide (cdAt (CL L) q = 6) = false := decide_eq_false hq
  have hq200 : (q : Int) ≤ 200 := by have := hF.len; omega
  have hq0 : (0 : Int) ≤ (q : Int) := by omega
  clear hI hB hF hc hr1
  have i0 : ∀ w, (Instr.index 97 (.agg #[.string ⟨#[107]⟩, .string ⟨#[116]⟩, .string ⟨#[118]⟩]) (.int .i64 0)).run Tryz.prog w = .ok (.string ⟨#[107]⟩) w := fun _ => by kernel_rfl
  have i1 : ∀ w, (Instr.index 97 (.agg #[.string ⟨#[107]⟩, .string ⟨#[116]⟩, .string ⟨#[118]⟩]) (.int .i64 1)).run Tryz.prog w = .ok (.string ⟨#[116]⟩) w := fun _ => by kernel_rfl
  have i2 : ∀ w, (Instr.index 97 (.agg #[.string ⟨#[107]⟩, .string ⟨#[116]⟩, .string ⟨#[118]⟩]) (.int .i64 2)).run Tryz.prog w = .ok (.string ⟨#[118]⟩) w := fun _ => by kernel_rfl
  go_enter Tryz.func84, Tryz.ntmps84
  go_wp2_with (first
    | (go_at_call 86; (with_reducible refine (is_k HS.out false hb2).mono ?_); rintro e w1 ⟨rfl, hs, hk⟩; clear h0 h1 h2 f1 f2; have HSn := zad.mk hs; clear HS hs hk; have HS := HSn; clear HSn; obtain ⟨A1, c1, h0, h1, h2, f1, f2⟩ := HS.out.cells)
    | (go_at_call 86; (with_reducible refine (is_t HS.out false hb3).mono ?_); rintro e w1 ⟨rfl, hs, hk⟩; clear h0 h1 h2 f1 f2; have HSn := zad.mk hs; clear HS hs hk; have HS := HSn; clear HSn; obtain ⟨A1, c1, h0, h1, h2, f1, f2⟩ := HS.out.cells)
    | (go_at_call 86; (with_reducible refine (is_v HS.out false hb4).mono ?_); rintro e w1 ⟨rfl, hs, hk⟩; clear h0 h1 h2 f1 f2; have HSn := zad.mk hs; clear HS hs hk; have HS := HSn; clear HSn; obtain ⟨A1, c1, h0, h1, h2, f1, f2⟩ := HS.out.cells)
    | (refine zcf ?_; intro _ _ _ _ _ _)
    | (go_at_call 86; (with_reducible refine (is_lp HS.out true hb5).mono ?_); rintro e w1 ⟨rfl, hs, hk⟩; clear h0 h1 h2 f1 f2; have HSn := zad.mk hs; clear HS hs hk; have HS := HSn; clear HSn; obtain ⟨A1, c1, h0, h1, h2, f1, f2⟩ := HS.out.cells)
    | (go_at_call 29; refine (HE.out _ (HS.out.set1a ((a + 1 : Nat) : Int) ((a : Int) + 1) (by omega))).mono ?_; rintro e w2 ⟨v, rfl, hr, hs⟩; have HV := zad.mk hr; have HSa := zad.mk (HS.out.set1 ((a : Int) + 1)); have HSn := zad.mk (HSa.out.step hs); clear HS h0 h1 h2 f1 f2; have HS := HSn; clear HSn hr hs; obtain ⟨A1, c1, h0, h1, h2, f1, f2⟩ := HS.out.cells; simp only [atR, errR] at h1 h2)
    | (go_at_call 86; (with_reducible refine (is_rp HS.out false hb6).mono ?_); rintro e w1 ⟨rfl, hs, hk⟩; clear h0 h1 h2 f1 f2; have HSn := zad.mk hs; clear HS hs hk; have HS := HSn; clear HSn; obtain ⟨A1, c1, h0, h1, h2, f1, f2⟩ := HS.out.cells))
  go_ret
  exact ⟨_, rfl, Kd.R_nil _ _ _ _ _, HS.out.set2 12⟩
theorem prim_walk {w0 : World} {L : List Tk} (hF : Fine L) {k : Nat} (ih : Jobs w0 L k) (a : Nat) (r : Res) (g : Nat) (w : World) (ha : a ≤ L.length) (h : run (CL L) (k + 1) .prim a = some r) (hI : IsS64 w0 w g L a 0) (hB : Below w0.heap.size w0 w) (hT : Tabs w) :
    Calls Tryz.prog 84 #[.pointer (some ⟨g, 0, none⟩)] w (jobPost w0 w g L r) := by
  simp only [run] at h
  by_cases h1 : cdAt (CL L) a = 1
  · rw [if_pos h1] at h
    injection h with h; subst h
    have hlt := cdAt_lt (L := CL L) (i := a) (by omega)
    rw [zcu] at hlt
    exact prim_number hF a g w hlt h1 hI hB hT
  · rw [if_neg h1] at h
    by_cases h2 : 2 ≤ cdAt (CL L) a ∧ cdAt (CL L) a ≤ 4
    · rw [if_pos h2] at h
      injection h with h; subst h
      have hlt := cdAt_lt (L := CL L) (i := a) (by omega)
      rw [zcu] at hlt
      rcases (show cdAt (CL L) a = 2 ∨ cdAt (CL L) a = 3 ∨ cdAt (CL L) a = 4 by omega) with h3 | h3 | h3
      · rw [h3]; exact prim_field2 hF a g w hlt h3 hI hB
      · rw [h3]; exact prim_field3 hF a g w hlt h3 hI hB
      · rw [h3]; exact prim_field4 hF a g w hlt h3 hI hB
    · rw [if_neg h2] at h
      by_cases h5 : cdAt (CL L) a = 5
      · rw [if_pos h5] at h
        have hlt := cdAt_lt (L := CL L) (i := a) (by omega)
        rw [zcu] at hlt
        obtain ⟨k0, hk0⟩ : ∃ k0, k0 = 20 * ((CL L).length - (a + 1)) + rk (.expr 1) + 1 := ⟨_, rfl⟩
        cases h6 : run (CL L) k (.expr 1) (a + 1) with
        | none => rw [h6] at h; cases h
        | some r1 =>
          rw [h6] at h
          have hbh : behind (CL L) (.expr 1) (a + 1) r1 := by
            obtain ⟨r2, hr2, hb2⟩ := run_ends (CL L) k0 (.expr 1) (a + 1) ⟨by omega, by omega⟩ (by rw [zcu]; omega) (by omega)
            have e1 := run_le (CL L) (Nat.le_max_left k k0) h6
            have e2 := run_le (CL L) (Nat.le_max_right k k0) hr2
            rw [e1] at e2; injection e2 with e2; subst e2; exact hb2
          cases r1 with
          | bad e q =>
            injection h with h; subst h
            exact prim_pbad hF ih a g w hlt h5 hI hB hT e q (run_err _ _ _ _ _ _ h6) h6
          | ok t q =>
            have hqL : q ≤ L.length := by have := hbh.1; rwa [zcu] at this
            simp only at h
            by_cases h8 : cdAt (CL L) q = 6
            · rw [if_pos h8] at h
              injection h with h; subst h
              exact prim_pok hF ih a g w hlt h5 hI hB hT t q h6 h8 hqL
            · rw [if_neg h8] at h
              injection h with h; subst h
              exact prim_pno hF ih a g w hlt h5 hI hB hT t q h6 h8 hqL
      · rw [if_neg h5] at h
        injection h with h; subst h
        rcases Nat.lt_or_ge a L.length with hlt | hlt
        · exact prim_other hF a g w hlt (by omega) hI hB ha
        · exact prim_end hF a g w hlt (by omega) hI hB ha
end
section
open Go.Proofs.YtgmmngipnjmkfaaGreatDoor.Pure
def idxS (s : List UInt8) : Int := if 7 ≤ codeS s ∧ codeS s ≤ 19 then (codeS s : Int) - 7 else -1
def signsL : List ByteArray := [⟨#[42]⟩, ⟨#[43]⟩, ⟨#[45]⟩, ⟨#[60, 60]⟩, ⟨#[62, 62]⟩, ⟨#[60]⟩, ⟨#[60, 61]⟩, ⟨#[62]⟩, ⟨#[62, 61]⟩, ⟨#[61]⟩, ⟨#[33, 61]⟩, ⟨#[97, 110, 100]⟩, ⟨#[111, 114]⟩]
def idxFrom : List ByteArray → ByteArray → Int → Int
  | [], _, _ => -1
  | y :: r, x, i => if x.toList = y.toList then i else idxFrom r x (i + 1)
theorem index_l0 (X : List ByteArray) (x : ByteArray) (hX : X.length ≤ 1000) : ∀ (d k i : Nat), X.length - i = d → i ≤ X.length → d < k → za2.l0 k X x (X.length : Int) (i : Int) = some (idxFrom (X.drop i) x i) := by
  intro d
  induction d with
  | zero =>
    intro k i hd hi hk
    obtain ⟨k, rfl⟩ : ∃ m, k = m + 1 := ⟨k - 1, by omega⟩
    simp only [za2.l0]
    rw [if_neg (by omega), List.drop_of_length_le (by omega)]; rfl
  | succ d ih =>
    intro k i hd hi hk
    obtain ⟨k, rfl⟩ : ∃ m, k = m + 1 := ⟨k - 1, by omega⟩
    have hlt : i < X.length := by omega
    have hr : rdOf ByteArray.empty X (i : Int) = X[i] := by
      unfold rdOf; rw [Int.toNat_natCast, List.getD_eq_getElem?_getD, List.getElem?_eq_getElem hlt]; rfl
    simp only [za2.l0]
    rw [if_pos (by omega), if_pos (by omega), if_pos (by omega), hr, List.drop_eq_getElem_cons hlt]
    simp only [idxFrom]
    by_cases h : x.toList = X[i].toList
    · rw [if_pos h, if_pos h]
    · rw [if_neg h, if_neg h, zb4 (by omega) (by omega), show ((i : Int) + 1) = ((i + 1 : Nat) : Int) by omega]
      exact ih k (i + 1) (by omega) (by omega) (by omega)
theorem idx_all (x : ByteArray) : idxFrom signsL x 0 = idxS x.data.toList := by
  have hb : ∀ (y : ByteArray), (x.toList = y.toList) = (x.data.toList = y.data.toList) := fun y => by rw [ByteArray.toList_eq, ByteArray.toList_eq]
  simp only [signsL, idxFrom, hb]
  generalize x.data.toList = s
  by_cases h7 : s = [42]; · subst h7; decide
  by_cases h8 : s = [43]; · subst h8; decide
  by_cases h9 : s = [45]; · subst h9; decide
  by_cases h10 : s = [60, 60]; · subst h10; decide
  by_cases h11 : s = [62, 62]; · subst h11; decide
  by_cases h12 : s = [60]; · subst h12; decide
  by_cases h13 : s = [60, 61]; · subst h13; decide
  by_cases h14 : s = [62]; · subst h14; decide
  by_cases h15 : s = [62, 61]; · subst h15; decide
  by_cases h16 : s = [61]; · subst h16; decide
  by_cases h17 : s = [33, 61]; · subst h17; decide
  by_cases h18 : s = [97, 110, 100]; · subst h18; decide
  by_cases h19 : s = [111, 114]; · subst h19; decide
  rw [if_neg h7, if_neg h8, if_neg h9, if_neg h10, if_neg h11, if_neg h12, if_neg h13, if_neg h14, if_neg h15, if_neg h16, if_neg h17, if_neg h18, if_neg h19]
  unfold idxS codeS tbl
  simp only [look, if_neg h7, if_neg h8, if_neg h9, if_neg h10, if_neg h11, if_neg h12, if_neg h13, if_neg h14, if_neg h15, if_neg h16, if_neg h17, if_neg h18, if_neg h19]
  repeat' split
  all_goals first | rfl | omega
theorem index_any (x : ByteArray) (b : Nat) (W : World) (hb : W.heap[b]? = some (.cells signsV 9 (0, 0))) (i : Int) (hi : i = idxS x.data.toList) :
    Calls Tryz.prog 45 #[.slice (some ⟨b, 0, none⟩) 13 13, .string x] W fun e w' => e = .returned (.int .i64 i) ∧ ∃ n, w' = W.drewN n := by
  have hC : Kd.C Kd.string W (some ⟨b, 0, none⟩) signsL.length signsL := by
    refine ⟨rfl, by decide, fun _ => ⟨_, rfl, fun j p hj => ⟨[.string p], rfl, rfl, fun i u hu => ?_⟩⟩⟩
    cases i with
    | zero =>
      have hu' : Value.string p = u := by simpa using hu
      subst hu'
      have hjl := (List.getElem?_eq_some_iff.1 hj).1
      rw [Nat.add_zero, show (Kd.string).sz = 1 from rfl, Nat.mul_one, add_plain, zal hb]
      have hjl' : j < 13 := hjl
      rcases (show j = 0 ∨ j = 1 ∨ j = 2 ∨ j = 3 ∨ j = 4 ∨ j = 5 ∨ j = 6 ∨ j = 7 ∨ j = 8 ∨ j = 9 ∨ j = 10 ∨ j = 11 ∨ j = 12 by omega) with h | h | h | h | h | h | h | h | h | h | h | h | h <;> subst h <;> (have e := Option.some.inj hj; subst e; rfl)
    | succ i => simp at hu
  have h := za2.calls 100 (some ⟨b, 0, none⟩) 13 signsL x i W hC (Nat.le_refl _) (by
    unfold za2.f
    have := index_l0 signsL x (by decide) 13 100 0 rfl (by decide) (by decide)
    rw [show ((0 : Nat) : Int) = 0 from rfl, List.drop_zero] at this
    rw [this, hi, ← idx_all])
  exact h.mono fun _ _ ⟨h1, ⟨n, h2⟩⟩ => ⟨h1, n, h2⟩
theorem binds_eq (c : Nat) : zck.f (c : Int) = some ((bindsN c : Nat) : Int) := by
  unfold zck.f bindsN
  by_cases h7 : c = 7
  · subst h7; rfl
  rw [if_neg (by omega), if_neg h7]
  by_cases h9 : c ≤ 9
  · rw [if_pos (by omega), if_pos h9]; rfl
  rw [if_neg (by omega), if_neg h9]
  by_cases h11 : c ≤ 11
  · rw [if_pos (by omega), if_pos h11]; rfl
  rw [if_neg (by omega), if_neg h11]
  by_cases h17 : c ≤ 17
  · rw [if_pos (by omega), if_pos h17]; rfl
  rw [if_neg (by omega), if_neg h17]
  by_cases h18 : c = 18
  · rw [if_pos (by omega), if_pos h18]; rfl
  · rw [if_neg (by omega), if_neg h18]; rfl
set_option maxRecDepth 100000 in
set_option maxHeartbeats 8000000 in
theorem opnd_walk {w0 : World} {L : List Tk} {k : Nat} (ih : Jobs w0 L k) (s a : Nat) (r : Res) (g : Nat) (w : World) (h1 : 1 ≤ s) (h6 : s ≤ 6) (ha : a ≤ L.length) (h : run (CL L) (k + 1) (.opnd s) a = some r) (hI : IsS64 w0 w g L a 0) (hB : Below w0.heap.size w0 w) (hT : Tabs w) :
    Calls Tryz.prog 44 #[.pointer (some ⟨g, 0, none⟩), .int .i64 (s : Int)] w (jobPost w0 w g L r) := by
  simp only [run] at h
  by_cases hs : s = 2 ∨ s = 6
  · rw [if_pos hs] at h
    have HC := Lib.hid (ih.fr s a r g w hs ha h hI hB hT)
    clear ih h hI hB hT
    rcases hs with rfl | rfl
    all_goals
      go_enter Tryz.func44, Tryz.ntmps44
      go_wp2_with (first | (go_at_call 64; refine HC.out.mono ?_; rintro e w1 ⟨v, rfl, hr, hs⟩))
      go_ret
      exact ⟨v, rfl, hr, hs⟩
  · rw [if_neg hs] at h
    have HC := Lib.hid (ih.ex (s + 1) a r g w (by omega) (by omega) ha h hI hB hT)
    clear ih h hI hB hT
    rcases (show s = 1 ∨ s = 3 ∨ s = 4 ∨ s = 5 by omega) with rfl | rfl | rfl | rfl
    all_goals
      go_enter Tryz.func44, Tryz.ntmps44
      go_wp2_with (first | (go_at_call 29; refine HC.out.mono ?_; rintro e w1 ⟨v, rfl, hr, hs⟩))
      go_ret
      exact ⟨v, rfl, hr, hs⟩
theorem parts_two {w0 w W : World} {g : Nat} {L : List Tk} {a e : Int} (hs : St w0 w W g L a e) {b1 b2 : Nat} {A1 A2 : Option Addr} {c1 c2 : Nat} {xs ys : List Nd}
    (h1 : Kd.R k43 43 W b1 (fun _ => True) (.slice A1 xs.length c1) xs) (h2 : Kd.R k43 43 W b2 (fun _ => True) (.slice A2 ys.length c2) ys) :
    ∀ W_, KeepBut (W.alloc (.cells #[.slice A1 xs.length c1, .slice A2 ys.length c2] 29)) W_ g none → Kd.C (Kd.slice 43 k43) W_ (some ⟨W.heap.size, 0, none⟩) ([xs, ys] : List (List Nd)).length [xs, ys] := by
  intro W_ hk
  have hal := hs.alloc (.cells #[.slice A1 xs.length c1, .slice A2 ys.length c2] 29)
  have r1 := Kd.zbg (zdi hal (Kd.zav h1 _) hk)
  have r2 := Kd.zbg (zdi hal (Kd.zav h2 _) hk)
  have hne : W.heap.size ≠ g := by have := hs.is.lt; omega
  have hb := hk.blk (heap_alloc_new W (.cells #[.slice A1 xs.length c1, .slice A2 ys.length c2] 29)) hne (by simp)
  refine ⟨rfl, by simp, fun _ => ⟨_, rfl, fun j p hj => ?_⟩⟩
  rcases j with _ | _ | j
  · have e := Option.some.inj hj; subst e
    refine ⟨[.slice A1 xs.length c1], rfl, ⟨A1, c1, rfl, r1.2.1, r1.2.2⟩, fun i u hu => ?_⟩
    cases i with
    | zero =>
      have hu' : Value.slice A1 xs.length c1 = u := by simpa using hu
      subst hu'
      rw [show (Kd.slice 43 k43).sz = 1 from rfl, add_plain, zal hb]; rfl
    | succ i => simp at hu
  · have e := Option.some.inj hj; subst e
    refine ⟨[.slice A2 ys.length c2], rfl, ⟨A2, c2, rfl, r2.2.1, r2.2.2⟩, fun i u hu => ?_⟩
    cases i with
    | zero =>
      have hu' : Value.slice A2 ys.length c2 = u := by simpa using hu
      subst hu'
      rw [show (Kd.slice 43 k43).sz = 1 from rfl, add_plain, zal hb]; rfl
    | succ i => simp at hu
  · simp at hj
def cont (L : List Tk) (k s : Nat) (r : Res) : Res → Prop
  | .ok t q => run (CL L) k (.loop s t) q = some r ∧ q ≤ L.length ∧ t.ok
  | .bad e q => r = .bad e q ∧ e ≠ 0 ∧ q ≤ L.length
theorem run_bound (L : List Tk) {k : Nat} {j : Job} {a : Nat} {r : Res} (hg : good j) (ha : a ≤ L.length) (h : run (CL L) k j a = some r) : behind (CL L) j a r := by
  obtain ⟨k0, hk0⟩ : ∃ k0, k0 = 20 * ((CL L).length - a) + rk j + 1 := ⟨_, rfl⟩
  obtain ⟨r2, hr2, hb2⟩ := run_ends (CL L) k0 j a hg (by rw [zcu]; omega) (by omega)
  have e1 := run_le (CL L) (Nat.le_max_left k k0) h
  have e2 := run_le (CL L) (Nat.le_max_right k k0) hr2
  rw [e1] at e2; injection e2 with e2; subst e2; exact hb2
theorem run_le_len (L : List Tk) {k : Nat} {j : Job} {a : Nat} {r : Res} (hg : good j) (ha : a ≤ L.length) (h : run (CL L) k j a = some r) : (match r with | .ok _ q => q | .bad _ q => q) ≤ L.length := by
  have := run_bound L hg ha h
  cases r with
  | ok t q => have h1 := this.1; rwa [zcu] at h1
  | bad e q => have h1 := this.2; rwa [zcu] at h1
theorem opnd_ok {L : List Tk} (hF : Fine L) {k s a q : Nat} {t : Tr} (h : run (CL L) k (.opnd s) a = some (.ok t q)) : t.ok := (run_took hF.valid k (.opnd s) a _ trivial h).2.1
theorem loop_op {L : List Tk} (hF : Fine L) {k s a : Nat} {t : Tr} {r : Res} (ht : t.ok) (hs : 1 ≤ s ∧ s ≤ 6) (ha : a < L.length) (hop : 7 ≤ cdAt (CL L) a ∧ cdAt (CL L) a ≤ 19 ∧ bindsN (cdAt (CL L) a) = s) (h : run (CL L) (k + 1) (.loop s t) a = some r) :
    ∃ c1 c2 : Res, run (CL L) k (.opnd s) (a + 1) = some c1 ∧ zbh.f 1000 L (atR c1) (errR c1) (cdAt (CL L) a : Int) 0 (a : Int) [t.flat 0, nodesR c1] = some (nodesR c2, atR c2, errR c2) ∧
      (s = 3 → r = c2 ∧ ∀ e q, c2 = .bad e q → e ≠ 0) ∧ (s ≠ 3 → cont L k s r c2) := by
  have e : run (CL L) (k + 1) (.loop s t) a = match run (CL L) k (.opnd s) (a + 1) with | none => none | some (.bad e q) => some (.bad e q) | some (.ok r q) => (match mkRes (.bin (cdAt (CL L) a) (posAt (CL L) a) t r) a q with | .bad e q => some (.bad e q) | .ok t q => if s = 3 then some (.ok t q) else run (CL L) k (.loop s t) q) := by
    simp only [run]; exact if_pos hop
  rw [e] at h; clear e
  cases hc : run (CL L) k (.opnd s) (a + 1) with
  | none => rw [hc] at h; cases h
  | some c1 =>
    rw [hc] at h
    have hl := run_le_len L (show good (.opnd s) from hs) (by omega) hc
    cases c1 with
    | bad e1 q1 =>
      injection h with h
      have he := run_err _ _ _ _ _ _ hc
      refine ⟨_, .bad e1 q1, rfl, make_bad L q1 e1 he _ _ _ _, fun _ => ⟨h.symm, fun e q hh => by injection hh with h1 _; rw [← h1]; exact he⟩, fun _ => ⟨h.symm, he, hl⟩⟩
    | ok u q1 =>
      have hu : u.ok := opnd_ok hF hc
      have hv := hF.valid a
      have hwf : (Tr.bin (cdAt (CL L) a) (posAt (CL L) a) t u).WF := ⟨by omega, by omega, hv.1, hv.2.1, ht.1, hu.1⟩
      have hm := make_res L q1 a ha (cdAt (CL L) a : Int) 0 [t.flat 0, u.flat 0] (.bin (cdAt (CL L) a) (posAt (CL L) a) t u) (node_bin _ _ t u ht hu hwf 1000 (Nat.le_refl _))
      have hmk : (mkRes (.bin (cdAt (CL L) a) (posAt (CL L) a) t u) a q1 = .bad 4 a) ∨ (mkRes (.bin (cdAt (CL L) a) (posAt (CL L) a) t u) a q1 = .bad 34 a) ∨ ((Tr.bin (cdAt (CL L) a) (posAt (CL L) a) t u).ok ∧ mkRes (.bin (cdAt (CL L) a) (posAt (CL L) a) t u) a q1 = .ok (.bin (cdAt (CL L) a) (posAt (CL L) a) t u) q1) := by
        unfold mkRes
        by_cases g1 : 60 < (Tr.bin (cdAt (CL L) a) (posAt (CL L) a) t u).size
        · exact .inl (if_pos g1)
        · rw [if_neg g1]
          by_cases g2 : 20 < (Tr.bin (cdAt (CL L) a) (posAt (CL L) a) t u).depth
          · exact .inr (.inl (if_pos g2))
          · exact .inr (.inr ⟨⟨hwf, by omega, by omega⟩, if_neg g2⟩)
      refine ⟨_, mkRes (.bin (cdAt (CL L) a) (posAt (CL L) a) t u) a q1, rfl, hm, ?_⟩
      simp only at h
      rcases hmk with hk | hk | ⟨hok, hk⟩
      · rw [hk] at h ⊢; injection h with h
        exact ⟨fun _ => ⟨h.symm, fun e q hh => by injection hh with h1 _; rw [← h1]; decide⟩, fun _ => ⟨h.symm, by decide, by omega⟩⟩
      · rw [hk] at h ⊢; injection h with h
        exact ⟨fun _ => ⟨h.symm, fun e q hh => by injection hh with h1 _; rw [← h1]; decide⟩, fun _ => ⟨h.symm, by decide, by omega⟩⟩
      · rw [hk] at h ⊢
        simp only at h
        by_cases h3 : s = 3
        · rw [if_pos h3] at h; injection h with h
          exact ⟨fun _ => ⟨h.symm, fun e q hh => (by cases hh)⟩, fun hn => absurd h3 hn⟩
        · rw [if_neg h3] at h
          exact ⟨fun hn => absurd hn h3, fun _ => ⟨h, hl, hok⟩⟩
theorem loop_no {L : List Tk} {k s a : Nat} {t : Tr} {r : Res} (hop : ¬ (7 ≤ cdAt (CL L) a ∧ cdAt (CL L) a ≤ 19 ∧ bindsN (cdAt (CL L) a) = s)) (h : run (CL L) k (.loop s t) a = some r) : r = .ok t a := by
  cases k with
  | zero => cases h
  | succ k =>
    simp only [run] at h
    rw [if_neg hop] at h; injection h with h; exact h.symm
theorem loop_pos {L : List Tk} {k s a : Nat} {t : Tr} {r : Res} (h : run (CL L) k (.loop s t) a = some r) : ∃ m, k = m + 1 := by
  cases k with
  | zero => cases h
  | succ k => exact ⟨k, rfl⟩
structure SR (w0 w W : World) (g : Nat) (L : List Tk) (a e : Int) (v : Value) (xs : List Nd) : Prop where
  st : St w0 w W g L a e
  row : Kd.R k43 43 W w.heap.size (fun _ => True) v xs
theorem SR.below {w0 w W W1 : World} {g : Nat} {L : List Tk} {a e : Int} {v : Value} {xs : List Nd} (h : SR w0 w W g L a e v xs) (hb : Below W.heap.size W W1) : SR w0 w W1 g L a e v xs := ⟨h.st.below hb, zdi h.st h.row (KeepBut.of_below hb g none)⟩
theorem SR.alloc {w0 w W : World} {g : Nat} {L : List Tk} {a e : Int} {v : Value} {xs : List Nd} (h : SR w0 w W g L a e v xs) (o : Obj) : SR w0 w (W.alloc o) g L a e v xs := h.below (zab (Below.refl _ _) o)
theorem SR.drewN {w0 w W : World} {g : Nat} {L : List Tk} {a e : Int} {v : Value} {xs : List Nd} (h : SR w0 w W g L a e v xs) (m : Nat) : SR w0 w (W.drewN m) g L a e v xs := h.below (zaa (Below.refl _ _) m)
theorem SR.drew {w0 w W : World} {g : Nat} {L : List Tk} {a e : Int} {v : Value} {xs : List Nd} (h : SR w0 w W g L a e v xs) : SR w0 w W.drew g L a e v xs := h.below (below_drew (Below.refl _ _))
theorem SR.set1a {w0 w W : World} {g : Nat} {L : List Tk} {a e : Int} {v : Value} {xs : List Nd} (h : SR w0 w W g L a e v xs) (x y : Int) (hy : y = x) : SR w0 w (W.setCell ⟨g, 1, none⟩ (.int .i64 y)) g L x e v xs := ⟨h.st.set1a x y hy, zdi h.st h.row (keep_set1 _ g _)⟩
set_option maxRecDepth 100000 in
set_option maxHeartbeats 8000000 in
theorem expr_walk {w0 : World} {L : List Tk} (hF : Fine L) {k : Nat} (ih : ∀ k', k' ≤ k → Jobs w0 L k') (s a : Nat) (r : Res) (g : Nat) (w : World) (h1 : 1 ≤ s) (h6 : s ≤ 6) (ha : a ≤ L.length) (h : run (CL L) (k + 1) (.expr s) a = some r) (hI : IsS64 w0 w g L a 0) (hB : Below w0.heap.size w0 w) (hT : Tabs w) :
    Calls Tryz.prog 29 #[.pointer (some ⟨g, 0, none⟩), .int .i64 (s : Int)] w (jobPost w0 w g L r) := by
  simp only [run] at h
  cases hr0 : run (CL L) k (.opnd s) a with
  | none => rw [hr0] at h; cases h
  | some c0 =>
    rw [hr0] at h
    have hc0 : cont L k s r c0 := by
      have hl := run_le_len L (show good (.opnd s) from ⟨h1, h6⟩) ha hr0
      cases c0 with
      | ok t q => exact ⟨h, hl, opnd_ok hF hr0⟩
      | bad e q => injection h with h; exact ⟨h.symm, run_err _ _ _ _ _ _ hr0, hl⟩
    have HC0 := zad.mk hc0
    have HO := Lib.hid ((ih k (Nat.le_refl _)).op s a c0 g w h1 h6 ha hr0 hI hB hT)
    have HT := Lib.hid (fun (W : World) (a' e' : Int) (hs : St w0 w W g L a' e') => hs.tabs hI hT)
    have HIH := Lib.hid ih
    have HF := Lib.hid hF
    have HG : zad (1 ≤ s ∧ s ≤ 6) := ⟨⟨h1, h6⟩⟩
    clear h hr0 hc0 hI hB hT ih hF h1 h6 ha
    go_enter Tryz.func29, Tryz.ntmps29
    go_wp2_with (first | (go_at_call 44; refine HO.out.mono ?_; rintro e w1 ⟨v0, rfl, hr, hs⟩; have HS := zad.mk (SR.mk hs hr); clear hr hs))
    go_loopg [5] k (fun kq v5 W' => ∃ (c : Res), zad (cont L kq s r c) ∧ zad (kq ≤ k) ∧ zad (SR w0 w W' g L (atR c) (errR c) v5 (nodesR c)))
    case atStart => exact ⟨c0, HC0, ⟨Nat.le_refl _⟩, HS⟩
    case round =>
      clear HC0 HS HO
      obtain ⟨c, HC, HK, HS⟩ := hrel
      cases c with
      | bad e q =>
        have hC := HC.out
        obtain ⟨hr, he, hq⟩ := hC
        subst hr
        obtain ⟨A1, c1, h0, h1, h2, f1, f2⟩ := HS.out.st.cells
        simp only [atR, errR] at h1 h2
        have hE0 : (e == 0) = false := beq_eq_false_iff_ne.2 he
        have hE1 : (e != 0) = true := bne_iff_ne.2 he
        clear he hq HC
        go_wp2
        go_quiet (fail)
        go_wp2
        go_ret
        exact ⟨_, rfl, Kd.R_nil _ _ _ _ _, HS.out.st.drewN _⟩
      | ok t q =>
        have hC := HC.out
        obtain ⟨hrun, hq, htok⟩ := hC
        by_cases hlt : q < L.length
        · by_cases hn : L[q].f0 = 1
          ·
            have hr : r = .ok t q := loop_no (by rw [(cd_num L q hlt).2 hn]; omega) hrun
            subst hr
            obtain ⟨A1, c1, h0, h1, h2, f1, f2, t0, t1⟩ := HS.out.st.tok q hlt
            rw [hn] at t0
            simp only [atR, errR] at h1 h2
            have hlti : decide ((q : Int) < (L.length : Int)) = true := decide_eq_true (by omega)
            have hltn : (q : Int) < (L.length : Int) := by omega
            have hltj : decide (q < L.length) = true := decide_eq_true hlt
            clear t1 hlt hq HC hrun htok hn
            go_wp2
            go_quiet (fail)
            go_wp2
            go_ret
            exact ⟨_, rfl, (HS.out.drewN _).row, (HS.out.drewN _).st⟩
          · have hL := cd_at L q hlt
            have hcd : cdAt (CL L) q = codeS (L[q]).f1.data.toList := by rw [hL.1]; unfold cT; rw [if_neg hn]
            obtain ⟨A1, c1, h0, h1, h2, f1, f2, t0, t1⟩ := HS.out.st.tok q hlt
            simp only [atR, errR] at h1 h2
            have hlti : decide ((q : Int) < (L.length : Int)) = true := decide_eq_true (by omega)
            have hltn : (q : Int) < (L.length : Int) := by omega
            have hltj : decide (q < L.length) = true := decide_eq_true hlt
            have hfB : ((L[q]).f0 == 1) = false := beq_eq_false_iff_ne.2 hn
            have hfN : ((L[q]).f0 != 1) = true := bne_iff_ne.2 hn
            clear hL hn HC
            generalize (L[q]).f0 = x0 at t0 hfB hfN
            generalize (L[q]).f1 = y at t1 hcd
            by_cases hop : 7 ≤ cdAt (CL L) q ∧ cdAt (CL L) q ≤ 19
            · obtain ⟨j, hj⟩ : ∃ j : Nat, cdAt (CL L) q = j + 7 := ⟨cdAt (CL L) q - 7, by omega⟩
              have hj12 : j ≤ 12 := by omega
              have hi : (j : Int) = idxS y.data.toList := by unfold idxS; rw [← hcd, if_pos hop]; omega
              have HI := Lib.hid hi
              have hcc : (cdAt (CL L) q : Int) = 7 + (j : Int) := by omega
              have hm0 : ((j : Int) < 0) = False := eq_false (by omega)
              have hmd : decide ((j : Int) < 0) = false := decide_eq_false (by omega)
              have hw1 : IntKind.u8.wrap (j : Int) = (j : Int) := by show ((j : Int) % 256) = _; omega
              have hw2 : IntKind.u8.wrap (7 + (j : Int)) = 7 + (j : Int) := by show ((7 + (j : Int)) % 256) = _; omega
              have HBI := Lib.hid (show zck.f (7 + (j : Int)) = some ((bindsN (j + 7) : Nat) : Int) by rw [← hj, ← hcc]; exact binds_eq _)
              by_cases hbs : bindsN (j + 7) = s
              · obtain ⟨k', hk'⟩ := loop_pos hrun
                rw [hk'] at hrun
                obtain ⟨d1, d2, hd1, hm, h3, hn3⟩ := loop_op HF.out htok HG.out hlt ⟨hop.1, hop.2, by rw [hj]; exact hbs⟩ hrun
                have HK' := zad.mk hk'
                have hO : ∀ W : World, St w0 w W g L ((q + 1 : Nat) : Int) 0 → Calls Tryz.prog 44 #[.pointer (some ⟨g, 0, none⟩), .int .i64 (s : Int)] W (jobPost w0 W g L d1) := fun W hs => (HIH.out k' (by have := HK.out; omega)).op s (q + 1) d1 g W HG.out.1 HG.out.2 (by omega) hd1 hs.is hs.bel (HT.out W _ _ hs)
                have HO := Lib.hid hO
                have HM := Lib.hid (show zbh.f 1000 L (atR d1) (errR d1) (7 + (j : Int)) 0 (q : Int) [t.flat 0, nodesR d1] = some (nodesR d2, atR d2, errR d2) by rw [← hcc]; exact hm)
                have hnb : (((bindsN (j + 7) : Nat) : Int) != (s : Int)) = false := by rw [hbs]; exact bne_self_eq_false _
                have hwq : wrap64 ((q : Int) + 1) = (q : Int) + 1 := by have := HF.out.len; exact zb4 (by omega) (by omega)
                obtain ⟨A5, c5, rfl⟩ := Kd.zbk HS.out.row
                by_cases hs3 : s = 3
                · have H3 := zad.mk (h3 hs3)
                  have hs3b : ((s : Int) == 3) = true := beq_iff_eq.2 (by omega)
                  clear hlt hq hrun htok hi hcd hop hj hcc hbs hd1 hm h3 hn3 hO hk' hs3
                  go_wp2
                  go_quiet (fail)
                  go_upto_region 3 with (fail)
                  go_cut [6] from 13 to 91 (fun v6 wx => v6 = .int .i64 (j : Int) ∧ zad (SR w0 w wx g L (q : Int) 0 (.slice A5 (t.flat 0).length c5) (t.flat 0)))
                  case first =>
                    go_region_held3 (fun w' => w'.cell? ⟨g, 0, none⟩ = some (.slice (some A1) L.length c1) ∧ w'.cell? ⟨g, 1, none⟩ = some (.int .i64 (q : Int)) ∧ w'.cell? ⟨(A1.add (q * 3)).block, (A1.add (q * 3)).off + 1, none⟩ = some (.string y))
                      (first | go_keep | exact ⟨h0, h1, t1⟩)
                      (first
                        | (go_at_call 46; (with_reducible refine (signs_any _).mono ?_); rintro e w' ⟨rfl, rfl⟩)
                        | (go_at_call 45; refine (index_any y _ _ (heap_alloc_new _ _) (j : Int) HI.out).mono ?_; rintro e w' ⟨rfl, ⟨n, rfl⟩⟩))
                    all_goals
                      go_wp2_with fail
                      go_meet
                      exact ⟨rfl, ⟨by repeat (first | exact HS.out | apply SR.drewN | apply SR.drew | apply SR.alloc)⟩⟩
                  case rest =>
                    obtain ⟨rfl, HSn⟩ := hcut
                    clear h0 h1 h2 f1 f2 t0 t1 HS
                    obtain ⟨A2, c2, h0, h1, h2, f1, f2⟩ := HSn.out.st.cells
                    go_wp2_with (first
                      | (go_at_call 47; refine (zck.calls (7 + (j : Int)) _ _ HBI.out).mono ?_; rintro e w' ⟨rfl, ⟨n, rfl⟩⟩; have HSm := zad.mk (HSn.out.drewN n); clear h0 h1 h2 f1 f2 HSn; obtain ⟨A3, c3, h0, h1, h2, f1, f2⟩ := HSm.out.st.cells)
                      | (go_at_call 44; refine (HO.out _ (HSm.out.st.set1a ((q + 1 : Nat) : Int) ((q : Int) + 1) (by omega))).mono ?_; rintro e w2 ⟨v9, rfl, hr9, hs9⟩; obtain ⟨A9, c9, rfl⟩ := Kd.zbk hr9; have HSp := zad.mk (HSm.out.set1a ((q + 1 : Nat) : Int) ((q : Int) + 1) (by omega)); have HSq := zad.mk (SR.mk (HSp.out.st.step hs9) (zdi HSp.out.st HSp.out.row hs9.keep)); have HR9 := zad.mk hr9; clear hr9 hs9 h0 h1 h2 f1 f2)
                      | (go_at_call 48; refine (make_any (HSq.out.st.alloc _) (7 + (j : Int)) 0 (q : Int) _ 2 [t.flat 0, nodesR d1] _ _ _ (parts_two HSq.out.st HSq.out.row HR9.out) (Nat.le_refl _) HM.out).mono ?_; rintro e w3 ⟨v10, rfl, hr10, hs10, hk10⟩; have HSr := zad.mk (SR.mk hs10 (Kd.zbp hr10 ((HSq.out.st.alloc _).keep.1))); clear hr10 hs10 hk10; obtain ⟨A4, c4, h0, h1, h2, f1, f2⟩ := HSr.out.st.cells))
                    all_goals
                      go_ret
                      obtain ⟨hr, hne⟩ := H3.out
                      subst hr
                      cases r with
                      | ok t' q' => first | exact ⟨_, rfl, HSr.out.row, HSr.out.st⟩ | (rename_i hh; exact absurd hh (by simp [errR]))
                      | bad e' q' => first | exact ⟨_, rfl, Kd.R_nil _ _ _ _ _, HSr.out.st⟩ | (rename_i hh; exact absurd hh (by have := hne e' q' rfl; simpa [errR] using this))
                · have H3 := zad.mk (hn3 hs3)
                  have hs3b : ((s : Int) == 3) = false := beq_eq_false_iff_ne.2 (by omega)
                  clear hlt hq hrun htok hi hcd hop hj hcc hbs hd1 hm h3 hn3 hO hk' hs3
                  go_wp2
                  go_quiet (fail)
                  go_upto_region 3 with (fail)
                  go_cut [6] from 13 to 91 (fun v6 wx => v6 = .int .i64 (j : Int) ∧ zad (SR w0 w wx g L (q : Int) 0 (.slice A5 (t.flat 0).length c5) (t.flat 0)))
                  case first =>
                    go_region_held3 (fun w' => w'.cell? ⟨g, 0, none⟩ = some (.slice (some A1) L.length c1) ∧ w'.cell? ⟨g, 1, none⟩ = some (.int .i64 (q : Int)) ∧ w'.cell? ⟨(A1.add (q * 3)).block, (A1.add (q * 3)).off + 1, none⟩ = some (.string y))
                      (first | go_keep | exact ⟨h0, h1, t1⟩)
                      (first
                        | (go_at_call 46; (with_reducible refine (signs_any _).mono ?_); rintro e w' ⟨rfl, rfl⟩)
                        | (go_at_call 45; refine (index_any y _ _ (heap_alloc_new _ _) (j : Int) HI.out).mono ?_; rintro e w' ⟨rfl, ⟨n, rfl⟩⟩))
                    all_goals
                      go_wp2_with fail
                      go_meet
                      exact ⟨rfl, ⟨by repeat (first | exact HS.out | apply SR.drewN | apply SR.drew | apply SR.alloc)⟩⟩
                  case rest =>
                    obtain ⟨rfl, HSn⟩ := hcut
                    clear h0 h1 h2 f1 f2 t0 t1 HS
                    obtain ⟨A2, c2, h0, h1, h2, f1, f2⟩ := HSn.out.st.cells
                    go_wp2_with (first
                      | (go_at_call 47; refine (zck.calls (7 + (j : Int)) _ _ HBI.out).mono ?_; rintro e w' ⟨rfl, ⟨n, rfl⟩⟩; have HSm := zad.mk (HSn.out.drewN n); clear h0 h1 h2 f1 f2 HSn; obtain ⟨A3, c3, h0, h1, h2, f1, f2⟩ := HSm.out.st.cells)
                      | (go_at_call 44; refine (HO.out _ (HSm.out.st.set1a ((q + 1 : Nat) : Int) ((q : Int) + 1) (by omega))).mono ?_; rintro e w2 ⟨v9, rfl, hr9, hs9⟩; obtain ⟨A9, c9, rfl⟩ := Kd.zbk hr9; have HSp := zad.mk (HSm.out.set1a ((q + 1 : Nat) : Int) ((q : Int) + 1) (by omega)); have HSq := zad.mk (SR.mk (HSp.out.st.step hs9) (zdi HSp.out.st HSp.out.row hs9.keep)); have HR9 := zad.mk hr9; clear hr9 hs9 h0 h1 h2 f1 f2)
                      | (go_at_call 48; refine (make_any (HSq.out.st.alloc _) (7 + (j : Int)) 0 (q : Int) _ 2 [t.flat 0, nodesR d1] _ _ _ (parts_two HSq.out.st HSq.out.row HR9.out) (Nat.le_refl _) HM.out).mono ?_; rintro e w3 ⟨v10, rfl, hr10, hs10, hk10⟩; have HSr := zad.mk (SR.mk hs10 (Kd.zbp hr10 ((HSq.out.st.alloc _).keep.1))); clear hr10 hs10 hk10; obtain ⟨A4, c4, h0, h1, h2, f1, f2⟩ := HSr.out.st.cells))
                    go_roundg k'
                    case measure => have := HK'.out; omega
                    case rel => exact ⟨d2, H3, ⟨by have := HK'.out; have := HK.out; omega⟩, HSr⟩
              · have hr : r = .ok t q := loop_no (fun hh => hbs (by rw [← hj]; exact hh.2.2)) hrun
                have hnb : (((bindsN (j + 7) : Nat) : Int) != (s : Int)) = true := bne_iff_ne.2 (by omega)
                subst hr
                clear hlt hq hrun htok hi hcd hop hj hcc hbs
                go_wp2
                go_quiet (fail)
                go_upto_region 3 with (fail)
                go_cut [6] from 13 to 91 (fun v6 wx => v6 = .int .i64 (j : Int) ∧ zad (SR w0 w wx g L (q : Int) 0 u5 (t.flat 0)))
                case first =>
                  go_region_held3 (fun w' => w'.cell? ⟨g, 0, none⟩ = some (.slice (some A1) L.length c1) ∧ w'.cell? ⟨g, 1, none⟩ = some (.int .i64 (q : Int)) ∧ w'.cell? ⟨(A1.add (q * 3)).block, (A1.add (q * 3)).off + 1, none⟩ = some (.string y))
                    (first | go_keep | exact ⟨h0, h1, t1⟩)
                    (first
                      | (go_at_call 46; (with_reducible refine (signs_any _).mono ?_); rintro e w' ⟨rfl, rfl⟩)
                      | (go_at_call 45; refine (index_any y _ _ (heap_alloc_new _ _) (j : Int) HI.out).mono ?_; rintro e w' ⟨rfl, ⟨n, rfl⟩⟩))
                  all_goals
                    go_wp2_with fail
                    go_meet
                    exact ⟨rfl, ⟨by repeat (first | exact HS.out | apply SR.drewN | apply SR.drew | apply SR.alloc)⟩⟩
                case rest =>
                  obtain ⟨rfl, HSn⟩ := hcut
                  clear h0 h1 h2 f1 f2 t0 t1 HS
                  obtain ⟨A2, c2, h0, h1, h2, f1, f2⟩ := HSn.out.st.cells
                  go_wp2_with (first | (go_at_call 47; refine (zck.calls (7 + (j : Int)) _ _ HBI.out).mono ?_; rintro e w' ⟨rfl, ⟨n, rfl⟩⟩; have HSm := zad.mk (HSn.out.drewN n); clear h0 h1 h2 f1 f2 HSn; obtain ⟨A3, c3, h0, h1, h2, f1, f2⟩ := HSm.out.st.cells))
                  go_ret
                  exact ⟨_, rfl, HSm.out.row, HSm.out.st⟩
            · have hr : r = .ok t q := loop_no (fun hh => hop ⟨hh.1, hh.2.1⟩) hrun
              subst hr
              have hi : (-1 : Int) = idxS y.data.toList := by unfold idxS; rw [← hcd, if_neg hop]
              have HI := Lib.hid hi
              clear hlt hq hrun htok hi hcd hop
              go_wp2
              go_quiet (fail)
              go_upto_region 3 with (fail)
              go_cut [6] from 13 to 91 (fun v6 wx => v6 = .int .i64 (-1) ∧ zad (SR w0 w wx g L (q : Int) 0 u5 (t.flat 0)))
              case first =>
                go_region_held3 (fun w' => w'.cell? ⟨g, 0, none⟩ = some (.slice (some A1) L.length c1) ∧ w'.cell? ⟨g, 1, none⟩ = some (.int .i64 (q : Int)) ∧ w'.cell? ⟨(A1.add (q * 3)).block, (A1.add (q * 3)).off + 1, none⟩ = some (.string y))
                  (first | go_keep | exact ⟨h0, h1, t1⟩)
                  (first
                    | (go_at_call 46; (with_reducible refine (signs_any _).mono ?_); rintro e w' ⟨rfl, rfl⟩)
                    | (go_at_call 45; refine (index_any y _ _ (heap_alloc_new _ _) (-1) HI.out).mono ?_; rintro e w' ⟨rfl, ⟨n, rfl⟩⟩))
                all_goals
                  go_wp2_with fail
                  go_meet
                  exact ⟨rfl, ⟨by repeat (first | exact HS.out | apply SR.drewN | apply SR.drew | apply SR.alloc)⟩⟩
              case rest =>
                obtain ⟨rfl, HSn⟩ := hcut
                clear h0 h1 h2 f1 f2 t0 t1 HS
                obtain ⟨A2, c2, h0, h1, h2, f1, f2⟩ := HSn.out.st.cells
                go_wp2
                go_ret
                exact ⟨_, rfl, HSn.out.row, HSn.out.st⟩
        ·
          have hr : r = .ok t q := loop_no (by rw [cd_out L q (by omega)]; omega) hrun
          subst hr
          obtain ⟨A1, c1, h0, h1, h2, f1, f2⟩ := HS.out.st.cells
          simp only [atR, errR] at h1 h2
          have hlti : decide ((q : Int) < (L.length : Int)) = false := decide_eq_false (by omega)
          have hltj : decide (q < L.length) = false := decide_eq_false hlt
          clear hlt hq HC hrun htok
          go_wp2
          go_quiet (fail)
          go_wp2
          go_ret
          exact ⟨_, rfl, (HS.out.drewN _).row, (HS.out.drewN _).st⟩
end
section
open Go.Proofs.YtgmmngipnjmkfaaGreatDoor.Pure
attribute [local go_sem] Oper.semAt_some
structure RSt (Bb : Nat) (A : Option Addr) (m c a : Nat) (W : World) : Prop where
  box : W.cell? ⟨Bb, 0, none⟩ = some (.slice A m c)
  row : ∀ i, i < m → ∃ ad, A = some ad ∧ W.cell? (ad.add i) = some (.int .i64 ((a : Int) + (i : Int)))
theorem RSt.grown {Bb m c a : Nat} {A : Option Addr} {W W' : World} {row : Option Nat} (h : RSt Bb A m c a W) (hg : W.grownBy W' row) (hr : ∀ r, row = some r → ∃ o : Obj, W.heap[r]? = some o ∧ o.isCells = false) : RSt Bb A m c a W' :=
  ⟨cell_kept h.box hg hr, fun i hi => by obtain ⟨ad, e, h1⟩ := h.row i hi; exact ⟨ad, e, cell_kept h1 hg hr⟩⟩
abbrev Ix (m : Nat) := {j : Nat // j < m}
def encI (a m : Nat) (x : Ix m) : Array Value := #[.int .i64 (x.1 : Int), .int .i64 ((a : Int) + (x.1 : Int))]
set_option maxRecDepth 100000 in
set_option maxHeartbeats 4000000 in
theorem back_run (F : Fence) (n : Nat) (h102 : F.fn 102) (hro : F.round = none) (hn : 1 ≤ n) (l Bb : Nat) (A : Option Addr) (m c a : Nat) (hm : m ≤ 1000)
    (J Jx : List (Ix m) → World → Prop)
    (hY : ∀ pre x W, J pre W → pre.length < m → YieldAt F (n - 1) Tryz.prog l (encI a m x) W fun e W' =>
      (e = .returned (.bool true) ∧ J (pre ++ [x]) W' ∧ (RSt Bb A m c a W → RSt Bb A m c a W')) ∨ (e = .returned (.bool false) ∧ Jx (pre ++ [x]) W'))
    (W : World) (hR : RSt Bb A m c a W) (h0 : J [] W) :
    CallsIn F n Tryz.prog 102 #[.func (.yield l) #[] #[], .pointer (some ⟨Bb, 0, none⟩)] W fun e W' => (∃ v, e = .returned v) ∧
      ((∃ ys, ys.map Subtype.val = (List.range m).reverse ∧ J ys W') ∨ (∃ pre, True ∧ Jx pre W')) := by
  refine callsIn_of_wp Tryz.func102 rfl h102 ?_ hro
  simp only [Tryz.ntmps102, List.size_toArray, List.length_cons, List.length_nil, Nat.reduceAdd, Nat.reduceSub, Array.replicate_succ, Array.replicate_zero, List.push_toArray, List.append_toArray, List.nil_append, List.cons_append]
  have hb := hR.box
  have hw : wrap64 ((m : Int) - 1) = (m : Int) - 1 := by apply IntWalk.wrap64_in; omega
  gi_wp2
  gi_loopw [3] (fun i wr => ∃ (k : Nat) (pre : List (Ix m)), k ≤ m ∧ i = .int .i64 ((k : Int) - 1) ∧ pre.map Subtype.val ++ (List.range k).reverse = (List.range m).reverse ∧ J pre wr ∧ RSt Bb A m c a wr)
    (fun i _ => (intOf i + 1).toNat)
  case atStart => exact ⟨m, [], Nat.le_refl _, by first | rfl | (rw [hw]), rfl, h0, hR⟩
  case round =>
    obtain ⟨k, pre, hk, rfl, hpre, hJ, hRr⟩ := hrel
    have hbx := hRr.box
    have Hro := Lib.hid hRr
    clear hR hRr h0
    cases k with
    | zero =>
      have Hpre := Lib.hid hpre
      clear hpre hb
      simp only [Int.ofNat_zero, Int.zero_sub, show ((0 : Nat) : Int) - 1 = -1 from rfl]
      gi_wp2_with (fail)
      go_end0
      exact ⟨⟨_, rfl⟩, .inl ⟨pre, by rw [← Hpre.out]; simp, hJ⟩⟩
    | succ p =>
      obtain ⟨ad, rfl, hrow⟩ := Hro.out.row p (by omega)
      have hlen : pre.length < m := by
        have := congrArg List.length hpre
        simp only [List.length_append, List.length_map, List.length_reverse, List.length_range] at this
        omega
      obtain ⟨fn, tmps, assign, body, hy, hRd⟩ := hY pre ⟨p, hk⟩ wr hJ hlen
      have hpm : (p : Int) < (m : Int) := by omega
      have hp0 : (0 : Int) ≤ (p : Int) := by omega
      have hpd : decide ((0 : Int) ≤ (p : Int)) = true := decide_eq_true hp0
      have hw1 : wrap64 ((p : Int) - 1) = (p : Int) - 1 := by apply IntWalk.wrap64_in; omega
      have Hpre := Lib.hid hpre
      clear hpre hb
      simp only [show ((p + 1 : Nat) : Int) - 1 = (p : Int) by omega]
      unfold encI at hy
      clear hY
      gi_wp2_with (fail)
      refine hRd.mono ?_
      rintro e W3 (⟨rfl, hJ3, hk3⟩ | ⟨rfl, hJx3⟩)
      · gi_wp2_with (fail)
        go_roundw
        case rel => exact ⟨p, pre ++ [⟨p, hk⟩], by omega, by go_num, by rw [← Hpre.out]; simp [List.range_succ], hJ3, hk3 Hro.out⟩
        case measure => first | (simp [intOf]; done) | (simp [intOf]; omega)
      · gi_wp2_with (fail)
        refine bodyPost_ret (results_none rfl _ _ _) rfl ?_
        exact ⟨⟨_, rfl⟩, .inr ⟨_, trivial, hJx3⟩⟩
theorem back_any (w : World) (A : Option Addr) (n c : Nat) : Calls Tryz.prog 87 #[.slice A n c] w fun e w' => e = .returned (.func (.func 102) #[] #[.pointer (some ⟨w.heap.size, 0, none⟩)]) ∧ w' = w.alloc (.cells #[.slice A n c] 24) := by
  go_enter Tryz.func87, Tryz.ntmps87
  go_wp2
  go_ret
  exact ⟨rfl, rfl⟩
def wrap1 (C : List Ct) (kind : Int) (a : Nat) (r : Res) (j : Nat) : Res :=
  match r with | .bad e q => .bad e q | .ok t q => mkRes (.un kind (posAt C (a + j)) t) (a + j) q
theorem wrapN_fold (C : List Ct) (kind : Int) (a : Nat) : ∀ (n : Nat) (r : Res), wrapN C kind a n r = (List.range n).reverse.foldl (wrap1 C kind a) r
  | 0, r => rfl
  | n + 1, .bad e q => by
    have hb : ∀ l : List Nat, l.foldl (wrap1 C kind a) (.bad e q) = .bad e q := by
      intro l
      induction l with
      | nil => rfl
      | cons x l ih => exact ih
    rw [hb]; rfl
  | n + 1, .ok t q => by
    simp only [wrapN, List.range_succ, List.reverse_append, List.reverse_cons, List.reverse_nil, List.nil_append, List.cons_append, List.foldl_cons]
    exact wrapN_fold C kind a n _
def resOk : Res → Prop
  | .ok t _ => t.ok
  | .bad e _ => e ≠ 0
theorem wrap1_make {L : List Tk} (hF : Fine L) (kind : Int) (hk : kind = 5 ∨ kind = 6) (c : Res) (hc : resOk c) (a j : Nat) (hj : a + j < L.length) :
    zbh.f 1000 L (atR c) (errR c) kind 0 ((a + j : Nat) : Int) [nodesR c] = some (nodesR (wrap1 (CL L) kind a c j), atR (wrap1 (CL L) kind a c j), errR (wrap1 (CL L) kind a c j)) ∧ resOk (wrap1 (CL L) kind a c j) := by
  cases c with
  | bad e q => exact ⟨make_bad L q e hc _ _ _ _, hc⟩
  | ok t q =>
    have hv := hF.valid (a + j)
    have hwf : (Tr.un kind (posAt (CL L) (a + j)) t).WF := ⟨hk, hv.1, hv.2.1, hc.1⟩
    have hm := make_res L q (a + j) hj kind 0 [t.flat 0] (.un kind (posAt (CL L) (a + j)) t) (node_un _ _ t hc hwf 1000 (Nat.le_refl _))
    refine ⟨hm, ?_⟩
    show resOk (mkRes _ _ _)
    unfold mkRes
    by_cases g1 : 60 < (Tr.un kind (posAt (CL L) (a + j)) t).size
    · rw [if_pos g1]; exact (by decide : (4 : Int) ≠ 0)
    · rw [if_neg g1]
      by_cases g2 : 20 < (Tr.un kind (posAt (CL L) (a + j)) t).depth
      · rw [if_pos g2]; exact (by decide : (34 : Int) ≠ 0)
      · rw [if_neg g2]; exact ⟨hwf, by omega, by omega⟩
end
section
open Go.Proofs.YtgmmngipnjmkfaaGreatDoor.Pure
attribute [local go_sem] Oper.semAt_some
structure FS (w0 w W : World) (g : Nat) (L : List Tk) (a e : Int) (kd : Int) : Prop where
  st : St w0 w W g L a e
  box : W.cell? ⟨w.heap.size, 0, none⟩ = some (.pointer (some ⟨g, 0, none⟩))
  kb : W.cell? ⟨w.heap.size + 1, 0, none⟩ = some (.int .u8 kd)
  lt : w.heap.size + 2 ≤ W.heap.size
  gl : g < w.heap.size
theorem FS.grown {w0 w W W1 : World} {g : Nat} {L : List Tk} {a e kd : Int} (h : FS w0 w W g L a e kd) {row : Option Nat} (hg : W.grownBy W1 row) (hr : ∀ r, row = some r → w.heap.size + 2 ≤ r) : FS w0 w W1 g L a e kd := by
  have h0 := h.gl
  have h1 := h.lt
  have h2 := h.st.is.ge
  have hne : ∀ k, k < w.heap.size + 2 → some k ≠ row := fun k hk e => by have := hr k e.symm; omega
  refine ⟨⟨h.st.is.grown hg (hne g (by omega)), h.st.bel.grown hg h.st.bel.size (fun k e => by have := hr k e; omega), h.st.keep.trans (KeepBut.of_grown hg g) ?_⟩, ?_, ?_, Nat.le_trans h1 hg.size, h0⟩
  · cases row with
    | none => exact .inl rfl
    | some r => exact .inr ⟨r, rfl, by have := hr r rfl; omega⟩
  · exact (World.cell?_of_block (hg.block w.heap.size (by omega) (hne _ (by omega)))).trans h.box
  · exact (World.cell?_of_block (hg.block (w.heap.size + 1) (by omega) (hne _ (by omega)))).trans h.kb
theorem FS.keep {w0 w W W1 : World} {g : Nat} {L : List Tk} {a e a1 e1 kd : Int} (h : FS w0 w W g L a e kd) (hs : St w0 w W1 g L a1 e1) (hk : KeepBut W W1 g none) : FS w0 w W1 g L a1 e1 kd := by
  have h0 := h.gl
  have h1 := h.lt
  exact ⟨hs, (World.cell?_of_block (hk.2 w.heap.size (by omega) (by omega) (by simp))).trans h.box, (World.cell?_of_block (hk.2 (w.heap.size + 1) (by omega) (by omega) (by simp))).trans h.kb, Nat.le_trans h1 hk.1, h0⟩
theorem FS.alloc {w0 w W : World} {g : Nat} {L : List Tk} {a e kd : Int} (h : FS w0 w W g L a e kd) (o : Obj) : FS w0 w (W.alloc o) g L a e kd := h.grown (World.grownBy_alloc W o none) (fun r e => by cases e)
theorem FS.set1a {w0 w W : World} {g : Nat} {L : List Tk} {a e kd : Int} (h : FS w0 w W g L a e kd) (x y : Int) (hy : y = x) : FS w0 w (W.setCell ⟨g, 1, none⟩ (.int .i64 y)) g L x e kd := h.keep (h.st.set1a x y hy) (keep_set1 _ g _)
theorem FS.start {w0 w : World} {g : Nat} {L : List Tk} {a : Int} (hI : IsS64 w0 w g L a 0) (hB : Below w0.heap.size w0 w) (kd : Int) :
    FS w0 w (((w.alloc (.cells #[.pointer (some ⟨g, 0, none⟩)] 62)).alloc (.cells #[.int .u8 kd] 5)).drew) g L a 0 kd := by
  have hs := (((St.refl hI hB).alloc (.cells #[.pointer (some ⟨g, 0, none⟩)] 62)).alloc (.cells #[.int .u8 kd] 5)).drew
  have b1 := Boxed.new w 62 (.pointer (some ⟨g, 0, none⟩))
  have b2 := Boxed.new (w.alloc (.cells #[.pointer (some ⟨g, 0, none⟩)] 62)) 5 (.int .u8 kd)
  rw [World.size_alloc] at b2
  exact ⟨hs, (b1.alloc _).cell, b2.cell, by simp, hI.lt⟩
theorem row_own {α : Type} {d : Kd α} {e base : Nat} {ok : Nat → Prop} {W W' : World} {v : Value} {xs : List α} (h : Kd.R d e W base ok v xs) {row : Option Nat} (hg : W.grownBy W' row) (hr : ∀ r, row = some r → ∃ o : Obj, W.heap[r]? = some o ∧ o.isCells = false) : Kd.R d e W' base ok v xs :=
  Kd.zb0 (Kd.R_grown (Kd.zdv h) hg (fun k hk e_ => by
    obtain ⟨_, _, _, q, _, cells, hc⟩ := hk
    obtain ⟨o, ho, hn⟩ := hr k e_.symm
    rw [hc] at ho; cases ho; cases hn)) (fun _ hk => hk.1)
theorem own_ge {α : Type} {d : Kd α} {e base : Nat} {ok : Nat → Prop} {W : World} {v : Value} {xs : List α} (h : Kd.R d e W base ok v xs) : ∀ r, v.ownBlock = some r → base ≤ r ∧ r < W.heap.size := fun r hr => by
  obtain ⟨_, h1, h2, _⟩ := (Kd.zdv h).1 r hr
  exact ⟨h1, h2⟩
theorem leaves_one {fn : Func} {tmps : Array Value} {R : Ending → World → Prop} {v : Value} {D : Nat} {W : World} (hres : ∀ W, (results fn tmps).run Tryz.prog W = .ok v W) (hD : W.heap[D]? = some (.deferred (some [])))
    (hR : R (.returned v) (W.putObj D (.deferred none))) : LeavesInM Fence.wide 5 Tryz.prog fn tmps R [{ target := .collected D, args := #[] }] .returning W :=
  ⟨by simp, .inl ⟨D, _, rfl, run_takeDeferred hD, v, hres _, hR⟩⟩
theorem parts_one {w0 w W : World} {g : Nat} {L : List Tk} {a e : Int} (hs : St w0 w W g L a e) {b1 : Nat} {A1 : Option Addr} {c1 : Nat} {xs : List Nd}
    (h1 : Kd.R k43 43 W b1 (fun _ => True) (.slice A1 xs.length c1) xs) :
    ∀ W_, KeepBut (W.alloc (.cells #[.slice A1 xs.length c1] 29)) W_ g none → Kd.C (Kd.slice 43 k43) W_ (some ⟨W.heap.size, 0, none⟩) ([xs] : List (List Nd)).length [xs] := by
  intro W_ hk
  have hal := hs.alloc (.cells #[.slice A1 xs.length c1] 29)
  have r1 := Kd.zbg (zdi hal (Kd.zav h1 _) hk)
  have hne : W.heap.size ≠ g := by have := hs.is.lt; omega
  have hb := hk.blk (heap_alloc_new W (.cells #[.slice A1 xs.length c1] 29)) hne (by simp)
  refine ⟨rfl, by simp, fun _ => ⟨_, rfl, fun j p hj => ?_⟩⟩
  rcases j with _ | j
  · have e := Option.some.inj hj; subst e
    refine ⟨[.slice A1 xs.length c1], rfl, ⟨A1, c1, rfl, r1.2.1, r1.2.2⟩, fun i u hu => ?_⟩
    cases i with
    | zero =>
      have hu' : Value.slice A1 xs.length c1 = u := by simpa using hu
      subst hu'
      rw [show (Kd.slice 43 k43).sz = 1 from rfl, add_plain, zal hb]; rfl
    | succ i => simp at hu
  · simp at hj
theorem _root_.Go.Boxed.kept_but {W W' : World} {B g : Nat} {t : TypeId} {v : Value} (h : Boxed W B t v) (hk : KeepBut W W' g none) (hne : B ≠ g) : Boxed W' B t v := (hk.2 B h.lt hne (by simp)).trans h
theorem addb (a : Addr) (n : Nat) : (a.add n).block = a.block := by unfold Addr.add; split <;> rfl
structure BS (w0 w W : World) (g B : Nat) (L : List Tk) (kd : Int) (c : Res) (v : Value) : Prop where
  fs : FS w0 w W g L (atR c) (errR c) kd
  bx : Boxed W B 29 v
  row : Kd.R k43 43 W (w.heap.size + 2) (fun _ => True) v (nodesR c)
  ok : resOk c
theorem BS.own {w0 w W W' : World} {g B : Nat} {L : List Tk} {kd : Int} {c : Res} {v : Value} (h : BS w0 w W g B L kd c v) {row : Option Nat} (hg : W.grownBy W' row) (hr : ∀ r, row = some r → w.heap.size + 2 ≤ r ∧ ∃ o : Obj, W.heap[r]? = some o ∧ o.isCells = false) : BS w0 w W' g B L kd c v :=
  ⟨h.fs.grown hg (fun r e => (hr r e).1), h.bx.kept hg (fun e => by obtain ⟨o, ho, hc⟩ := (hr B e.symm).2; rw [show W.heap[B]? = _ from h.bx] at ho; cases ho; cases hc), row_own h.row hg (fun r e => (hr r e).2), h.ok⟩
theorem BS.alloc {w0 w W : World} {g B : Nat} {L : List Tk} {kd : Int} {c : Res} {v : Value} (h : BS w0 w W g B L kd c v) (o : Obj) : BS w0 w (W.alloc o) g B L kd c v := h.own (World.grownBy_alloc W o none) (fun r e => by cases e)
def fAssign : Code := .region 10 #[{ dst := some 11, op := .assign (.tmp 39), type := 3, pos := "exprs.go:101", after := #[], guard := none }] false
def fBody : Code := .block 3 (.region 11 #[{ dst := some 40, op := .load 62 (.tmp 2), type := 62, pos := "exprs.go:102", after := #[], guard := none },
  { dst := some 41, op := .load 5 (.tmp 6), type := 5, pos := "exprs.go:102", after := #[], guard := none },
  { dst := some 42, op := .move (.tmp 11), type := 3, pos := "exprs.go:102", after := #[], guard := none },
  { dst := some 43, op := .load 29 (.tmp 9), type := 29, pos := "exprs.go:102", after := #[], guard := none },
  { dst := some 44, op := .buildSlice 74 1 #[(0, .tmp 43)], type := 74, pos := "exprs.go:102", after := #[{ on := 3, ground := .data }], guard := none },
  { dst := some 45, op := .call { callee := .value (.func 48), args := #[.tmp 40, .tmp 41, .const (.int .i64 0), .tmp 42, .tmp 44], argTypes := #[62, 5, 2, 3, 74] }, type := 29, pos := "exprs.go:102", after := #[{ on := 0, ground := .data }, { on := 1, ground := .data }, { on := 2, ground := .data }, { on := 4, ground := .data }], guard := none },
  { dst := none, op := .store 29 (.tmp 9) (.tmp 45), type := 0, pos := "exprs.go:102", after := #[{ on := 5, ground := .data }, { on := 5, ground := .chain }, { on := 0, ground := .phase }, { on := 1, ground := .phase }, { on := 2, ground := .phase }, { on := 3, ground := .phase }, { on := 4, ground := .phase }, { on := 5, ground := .phase }], guard := none }] false)
abbrev stF (w : World) (t0 t1 t3 t4 t5 t7 t8 t11 t12 t13 t14 t15 t16 t17 t18 t19 t20 t21 t22 t23 t24 t25 t26 t27 t28 t29 t30 t31 t32 t33 t34 t35 t36 t38 t39 t40 t41 t42 t43 t44 t45 t46 : Value) (t10 : Value) (B Bb : Nat) : Array Value :=
  #[t0, t1, .pointer (some ⟨w.heap.size, 0, none⟩), t3, t4, t5, .pointer (some ⟨w.heap.size + 1, 0, none⟩), t7, t8, .pointer (some ⟨B, 0, none⟩), t10, t11, t12, t13, t14, t15, t16, t17, t18, t19, t20, t21, t22, t23, t24, t25, t26, t27, t28, t29, t30, t31, t32, t33, t34, t35, t36, .func (.func 102) #[] #[.pointer (some ⟨Bb, 0, none⟩)], t38, t39, t40, t41, t42, t43, t44, t45, t46]
set_option maxRecDepth 100000 in
set_option maxHeartbeats 8000000 in
theorem signs_step {w0 w W1 : World} {g B Bb : Nat} {L : List Tk} (hF : Fine L) {kd : Int} (hkd : kd = 5 ∨ kd = 6) {a m c : Nat} {A : Option Addr} {r : Res} {v : Value} (hS : BS w0 w W1 g B L kd r v) (hR : RSt Bb A m c a W1) (ham : a + m ≤ L.length)
    (hB : w.heap.size + 2 ≤ B) (hBb : w.heap.size + 2 ≤ Bb) (hBB : Bb ≠ B) (hA : ∀ ad, A = some ad → w.heap.size + 2 ≤ ad.block ∧ ad.block ≠ B)
    (t0 t1 t3 t4 t5 t7 t8 t11 t12 t13 t14 t15 t16 t17 t18 t19 t20 t21 t22 t23 t24 t25 t26 t27 t28 t29 t30 t31 t32 t33 t34 t35 t36 t38 t39 t40 t41 t42 t43 t44 t45 t46 t10 : Value) (Q : Exit → Act → World → Prop)
    (hdone : ∀ D W v', W1.heap.size ≤ D → W.heap[D]? = some (.deferred (some [])) → BS w0 w W g B L kd (wrapN (CL L) kd a m r) v' →
      Q .normal { tmps := stF w t0 t1 t3 t4 t5 t7 t8 t11 t12 t13 t14 t15 t16 t17 t18 t19 t20 t21 t22 t23 t24 t25 t26 t27 t28 t29 t30 t31 t32 t33 t34 t35 t36 t38 t39 t40 t41 t42 t43 t44 t45 t46 t10 B Bb, defers := [{ target := .collected D, args := #[] }] } W) :
    (Code.rangeFunc (.tmp 37) #[38, 39] fAssign fBody).wp Tryz.prog Q { tmps := stF w t0 t1 t3 t4 t5 t7 t8 t11 t12 t13 t14 t15 t16 t17 t18 t19 t20 t21 t22 t23 t24 t25 t26 t27 t28 t29 t30 t31 t32 t33 t34 t35 t36 t38 t39 t40 t41 t42 t43 t44 t45 t46 t10 B Bb, defers := [] } W1 := by
  have hl := hF.len
  have hgl := hS.fs.gl
  have hW1 := hS.fs.lt
  have hbb : Bb < W1.heap.size := World.block_lt_of_cell? W1 _ hR.box
  refine wpIn_wide.1 (wpIn_rangeFunc_ownG (F := Fence.wide) (n := 5) rfl (by decide) (gf := 102) (lb := #[.pointer (some ⟨Bb, 0, none⟩)]) rfl trivial (enters_of Tryz.func102 (by kernel_rfl) rfl)
    (encs := encI a m) (Kp := fun X Y => RSt Bb A m c a X → RSt Bb A m c a Y) (S := fun ys => ys.map Subtype.val = (List.range m).reverse) (Sp := fun _ => True) (N := m) (w0 := W1)
    (fun l J Jx W hW _ _ hY h0 => back_run Fence.wide 4 trivial rfl (by decide) l Bb A m c a (by omega) J Jx hY W
      ⟨(hW.cell (p := ⟨Bb, 0, none⟩) hbb).trans hR.box, fun i hi => by obtain ⟨ad, e, h1⟩ := hR.row i hi; exact ⟨ad, e, (hW.cell (World.block_lt_of_cell? W1 _ h1)).trans h1⟩⟩ h0)
    (fun h k x => k (h x)) (fun W l o o' hl ho hc _ h => h.grown (grownBy_putObj' W l o') (fun r e => by cases e; exact ⟨o, ho, hc⟩)) (Below.refl _ _) (fun _ => rfl)
    (fun pre W => ∃ v, BS w0 w W g B L kd ((pre.map Subtype.val).foldl (wrap1 (CL L) kd a) r) v)
    (fun _ _ _ => False)
    (fun s W W' row hs hg hr => by obtain ⟨v, hv⟩ := hs; exact ⟨v, hv.own hg (fun r e => ⟨Nat.le_trans hW1 (hr r e).1, (hr r e).2⟩)⟩)
    (fun _ s W W' row hs hg hr => hs)
    ⟨v, hS⟩
    (fun x => { tmps := stF w t0 t1 t3 t4 t5 t7 t8 (.int .i64 ((a : Int) + (x.1 : Int))) t12 t13 t14 t15 t16 t17 t18 t19 t20 t21 t22 t23 t24 t25 t26 t27 t28 t29 t30 t31 t32 t33 t34 t35 t36 (.int .i64 (x.1 : Int)) (.int .i64 ((a : Int) + (x.1 : Int))) t40 t41 t42 t43 t44 t45 t46 t10 B Bb, defers := [] }) ?assign ?body ?done ?stop)
  case assign =>
    intro l x W K hK
    unfold fAssign
    simp only [stF, encI] at hK ⊢
    gi_wp2
    exact hK
  case body =>
    rintro l pre x W ⟨v1, hv1⟩ hlen
    obtain ⟨c0, hc0⟩ : ∃ c0, c0 = (pre.map Subtype.val).foldl (wrap1 (CL L) kd a) r := ⟨_, rfl⟩
    rw [← hc0] at hv1
    have hc1 : ((pre ++ [x]).map Subtype.val).foldl (wrap1 (CL L) kd a) r = wrap1 (CL L) kd a c0 x.1 := by rw [List.map_append, List.foldl_append, ← hc0]; rfl
    have HC := Lib.hid hc1
    obtain ⟨A1, c1, rfl⟩ := Kd.zbk hv1.row
    have hx := x.2
    have hm := wrap1_make hF kd hkd _ hv1.ok a x.1 (by omega)
    rw [show (((a + x.1 : Nat) : Int)) = (a : Int) + (x.1 : Int) by omega] at hm
    have hbox := hv1.fs.box
    have hkb := hv1.fs.kb
    have hbc := hv1.bx.cell
    have HV := Lib.hid hv1
    have HM := Lib.hid hm
    have Hg := Lib.hid (show g ≠ B ∧ g ≠ Bb ∧ (∀ ad, A = some ad → ad.block ≠ g) from ⟨by omega, by omega, fun ad e => by have := (hA ad e).1; omega⟩)
    have HA := Lib.hid hA
    clear hv1 hm hS hR hA hdone hc0 hc1
    unfold fBody
    simp only [stF]
    gi_wp2_with (fail)
    (refine And.intro trivial ?_; refine (CallsIn.inRound l (callsIn_wide.2 (make_any (HV.out.fs.st.alloc _) kd 0 ((a : Int) + (x.1 : Int)) _ 1 [nodesR c0] _ _ _ (parts_one HV.out.fs.st HV.out.row) (Nat.le_refl _) HM.out.1))).mono ?_; rintro e W2 ⟨v2, rfl, hr2, hs2, hk2⟩; obtain ⟨A2, c2, hv2⟩ := Kd.zbk hr2; subst hv2; have hbx := Lib.hid ((HV.out.bx.alloc (.cells #[.slice A1 (nodesR c0).length c1] 29)).kept_but hk2 (fun e => Hg.out.1 e.symm)); have hb2 := hbx.out.cell; have hb3 := hbx.out.frozen; have HR2 := Lib.hid hr2; have HS2 := Lib.hid hs2; have HK2 := Lib.hid hk2; clear hr2 hs2 hk2)
    gi_wp2_with (fail)
    have hr2 := HR2.out
    have hs2 := HS2.out
    have hk2 := HK2.out
    have hlt0 := HV.out.fs.lt
    generalize Value.slice A2 (nodesR (wrap1 (CL L) kd a c0 x.1)).length c2 = v2 at hr2 ⊢
    refine ⟨⟨?_, ?_⟩, ?_, v2, ?_⟩
    · have := hk2.1; simp at this; simp; omega
    · intro k o hk ho hc
      have hk1 : k ≠ B := by rintro rfl; rw [show W.heap[k]? = _ from HV.out.bx] at ho; cases ho; cases hc
      have h1 : (W.alloc (.cells #[.slice A1 (nodesR c0).length c1] 29)).heap[k]? = some o := (KeepsOthers.alloc W _).same k o ho hc
      have h2 := hk2.blk h1 (by omega) (by simp)
      exact (KeepsOthers.setCell W2 ⟨B, 0, none⟩ v2).same k o h2 hc
    · intro hR
      have h1 := hR.grown (World.grownBy_alloc W (.cells #[.slice A1 (nodesR c0).length c1] 29) none) (fun r e => by cases e)
      have kc : ∀ (ad : Addr) (u : Value), ad.block ≠ g → ad.block ≠ B → (W.alloc (.cells #[.slice A1 (nodesR c0).length c1] 29)).cell? ad = some u → (W2.setCell ⟨B, 0, none⟩ v2).cell? ad = some u := fun ad u n1 n2 hu =>
        (World.cell?_setCell_other _ _ _ _ (fun e => n2 (by have := congrArg Addr.block e; simpa using this.symm))).trans ((World.cell?_of_block (hk2.2 _ (World.block_lt_of_cell? _ _ hu) n1 (by simp))).trans hu)
      exact ⟨kc _ _ (fun e => Hg.out.2.1 e.symm) hBB h1.box, fun i hi => by
        obtain ⟨ad, e, hu⟩ := h1.row i hi
        have n1 : (ad.add i).block ≠ g := by rw [addb]; exact Hg.out.2.2 ad e
        have n2 : (ad.add i).block ≠ B := by rw [addb]; exact (HA.out ad e).2
        exact ⟨ad, e, kc _ _ n1 n2 hu⟩⟩
    · rw [HC.out]
      have hfs := ((HV.out.fs.alloc (.cells #[.slice A1 (nodesR c0).length c1] 29)).keep hs2 hk2).grown (grownBy_setCell' W2 B v2) (fun r e => by cases e; exact hB)
      have hrow := Kd.zbp hr2 (base' := w.heap.size + 2) (by simp; omega)
      exact ⟨hfs, hbx.out.set v2, Kd.zb0 (Kd.R_far (p := ⟨B, 0, none⟩) (Kd.R_types hrow hbx.out (by decide)) (fun _ hk => hk.2) v2) (fun _ _ => trivial), HM.out.2⟩
  case done =>
    rintro D xs W hD hxs ⟨v', hv'⟩ hK
    rw [hxs, ← wrapN_fold] at hv'
    exact hdone D W v' hD hK hv'
  case stop =>
    rintro D c pre W hD hpre hf hK
    exact hf.elim
theorem rest_any {w0 : World} {L : List Tk} {b g : Nat} {W : World} {r1 : Res} (hbox : W.cell? ⟨b, 0, none⟩ = some (.pointer (some ⟨g, 0, none⟩))) (h : Calls Tryz.prog 29 #[.pointer (some ⟨g, 0, none⟩), .int .i64 3] W (jobPost w0 W g L r1)) :
    Calls Tryz.prog 85 #[.pointer (some ⟨b, 0, none⟩)] W (jobPost w0 W g L r1) := by
  have HC := Lib.hid h
  clear h
  go_enter Tryz.func85, Tryz.ntmps85
  go_wp2_with (first | (go_at_call 29; refine HC.out.mono ?_; rintro e w1 ⟨v, rfl, hr, hs⟩))
  go_ret
  exact ⟨v, rfl, hr, hs⟩
def intsF (a n : Nat) : List Int := (List.range n).map fun i : Nat => (a : Int) + (i : Int)
theorem zdp (a n : Nat) : (intsF a n).length = n := by unfold intsF; simp
theorem intsF_succ (a n : Nat) : intsF a (n + 1) = intsF a n ++ [(a : Int) + (n : Int)] := by unfold intsF; rw [List.range_succ, List.map_append]; rfl
theorem infoI : (Tryz.prog.info? 3).map (fun i => (i.zero, i.size, i.bytes)) = some (some (.int .i64 0), 1, 8) := by kernel_rfl
theorem zdg {w0 w W W1 : World} {g : Nat} {L : List Tk} {a e : Int} {base : Nat} {v : Value} {xs : List Int} (hs : St w0 w W g L a e) (hr : Kd.R (Kd.int .i64) 3 W base (fun _ => True) v xs) (hk : KeepBut W W1 g none) :
    Kd.R (Kd.int .i64) 3 W1 base (fun _ => True) v xs := Kd.zb0 (Kd.R_keep (hs.is.apart hr (by decide)) hk (fun _ h => h.2)) (fun _ _ => trivial)
theorem rst_of {W : World} {Bb a n c base : Nat} {A : Option Addr} (hb : W.cell? ⟨Bb, 0, none⟩ = some (.slice A (intsF a n).length c)) (hr : Kd.R (Kd.int .i64) 3 W base (fun _ => True) (.slice A (intsF a n).length c) (intsF a n)) : RSt Bb A (intsF a n).length c a W := by
  refine ⟨hb, fun i hi => ?_⟩
  obtain ⟨ad, e, h1⟩ := Kd.at_int (Kd.zbg hr).2.2 (i : Int) (by omega) (by omega)
  refine ⟨ad, e, ?_⟩
  rw [Int.toNat_natCast] at h1
  rw [h1]
  have : rd (intsF a n) (i : Int) = (a : Int) + (i : Int) := by
    unfold rd intsF
    rw [Int.toNat_natCast, List.getD_eq_getElem?_getD, List.getElem?_map, List.getElem?_range (by rwa [zdp] at hi)]
    rfl
  rw [this]
theorem opnd_res {L : List Tk} (hF : Fine L) {k a : Nat} {j : Job} (hj : startOk j) {r : Res} (h : run (CL L) k j a = some r) : resOk r := by
  cases r with
  | ok t q => exact (run_took hF.valid k j a _ hj h).2.1
  | bad e q => exact run_err _ _ _ _ _ _ h
set_option maxRecDepth 100000 in
set_option maxHeartbeats 8000000 in
theorem front_two {w0 : World} {L : List Tk} (hF : Fine L) {k : Nat} (ih : Jobs w0 L k) (a : Nat) (r : Res) (g : Nat) (w : World) (ha : a ≤ L.length) (h : run (CL L) (k + 1) (.front 2) a = some r) (hI : IsS64 w0 w g L a 0) (hB : Below w0.heap.size w0 w) (hT : Tabs w) :
    Calls Tryz.prog 64 #[.pointer (some ⟨g, 0, none⟩), .int .i64 2] w (jobPost w0 w g L r) := by
  obtain ⟨n, hn⟩ : ∃ n, n = lead 20 ((CL L).drop a) := ⟨_, rfl⟩
  have hrun : ∃ r1, run (CL L) k (.expr 3) (a + n) = some r1 ∧ r = wrapN (CL L) 6 a n r1 := by
    simp only [run] at h
    rw [if_pos (by decide), ← hn] at h
    cases h1 : run (CL L) k (.expr 3) (a + n) with
    | none => rw [h1] at h; cases h
    | some r1 => rw [h1] at h; injection h with h; exact ⟨r1, rfl, h.symm⟩
  obtain ⟨r1, hr1, rfl⟩ := hrun
  have han : a + n ≤ L.length := by have := lead_le' 20 (CL L) a (by rw [zcu]; exact ha); rw [zcu] at this; rw [hn]; exact this
  have hyes : ∀ i, i < n → decide (cdAt (CL L) (a + i) = 20) = true := fun i hi => decide_eq_true (lead_drop 20 (CL L) a i (by rw [← hn]; exact hi))
  have hno : decide (cdAt (CL L) (a + n) = 20) = false := decide_eq_false (by have := lead_stop 20 (by decide) ((CL L).drop a); rw [cdAt_drop, ← hn] at this; exact this)
  have hok := opnd_res hF (j := (.expr 3)) trivial hr1
  have HS0 := Lib.hid (FS.start hI hB 6)
  have hX : ∀ W : World, St w0 w W g L ((a + n : Nat) : Int) 0 → Calls Tryz.prog 29 #[.pointer (some ⟨g, 0, none⟩), .int .i64 3] W (jobPost w0 W g L r1) := fun W hs => (ih.ex 3 (a + n) r1 g W (by omega) (by omega) han hr1 hs.is hs.bel (hs.tabs hI hT))
  have HX := Lib.hid hX
  have Hyes := Lib.hid hyes
  have Hno := Lib.hid hno
  have Hok := Lib.hid hok
  have HF := Lib.hid hF
  have Han := Lib.hid (show a + n ≤ L.length ∧ L.length ≤ 200 from ⟨han, hF.len⟩)
  have hres : ∀ (v : Value) (ts : Array Value), ts[4]? = some v → ∀ W, (results Tryz.f64 ts).run Tryz.prog W = .ok v W := by
    intro v ts h W
    obtain ⟨hlt, he⟩ := Array.getElem?_eq_some_iff.1 h
    exact results_tmp rfl _ _ _ |>.trans (by simp only [Array.getD]; rw [dif_pos hlt]; exact congrArg (fun v => Result.ok v W) he)
  have Hres := Lib.hid hres
  clear hI hB hT h hn hr1 han hyes hno hok hX ih hF ha hres
  refine (callsIn_wide (n := 5)).1 (callsIn_of_wp_marks Tryz.func64 rfl trivial (wpIn_wide.2 ?_) rfl)
  simp only [Tryz.ntmps64, List.size_toArray, List.length_cons, List.length_nil, Nat.reduceAdd, Nat.reduceSub, Array.replicate_succ, Array.replicate_zero, List.push_toArray, List.append_toArray, List.nil_append, List.cons_append]
  go_upto_region 1 with (fail)
  go_region
  go_upto_block 0 with (fail)
  go_wp2_with (fail)
  go_loopg [8] n (fun kq v8 W' => ∃ (i q : Nat), zad (q = a + i ∧ i + kq = n) ∧ zad (Kd.R (Kd.int .i64) 3 W' (w.heap.size + 2) (fun _ => True) v8 (intsF a i)) ∧ zad (FS w0 w W' g L (q : Int) 0 6))
  case atStart => exact ⟨0, a, ⟨rfl, by omega⟩, ⟨Kd.R_nil _ _ _ _ _⟩, ⟨HS0.out⟩⟩
  case round =>
    obtain ⟨i, q, HQ, HR, HS⟩ := hrel
    obtain ⟨A8, c8, rfl⟩ := Kd.zbk HR.out
    have hbox := HS.out.box
    by_cases hi : i < n
    · have hb := Hyes.out i hi
      rw [← HQ.out.1] at hb
      have Hb := Lib.hid hb
      have Hi := Lib.hid hi
      have hwq : wrap64 ((q : Int) + 1) = (q : Int) + 1 := by have := Han.out; have := HQ.out; exact zb4 (by omega) (by omega)
      clear hb hi
      go_wp2_with (first
        | (go_at_call 86; (with_reducible refine (is_not HS.out.st true Hb.out).mono ?_); rintro e w1 ⟨rfl, hs, hk⟩; have HRn := zad.mk (zdg HS.out.st HR.out hk); have HSn := zad.mk (HS.out.keep hs hk); clear HS HR hs hk hbox; have HS := HSn; have HR := HRn; clear HSn HRn; obtain ⟨A1, c1, h0, h1, h2, f1, f2⟩ := HS.out.st.cells; have hbox := HS.out.box)
        | ((with_reducible refine zbe (b := .append) (xs := #[.tmp 20, .tmp 25]) rfl ?_); at_builtin; refine Kd.zb2 (Kd.int .i64) (w0 := w1) (w.heap.size + 2) rfl (.tmp 20) (.tmp 25) 24 3 (.int .i64 0) 8 rfl Tryz.underlying24 infoI rfl (by decide) (by omega) (.slice A8 (intsF a i).length c8) (intsF a i) (q : Int) [.int .i64 (q : Int)] (fun _ => True) (fun _ => False) rfl rfl ?aP (fun _ hk => hk.elim) (fun _ _ => trivial) ?aO ?aB ?aS ?aL ?_; (case aP => rfl); (case aO => exact HR.out); (case aB => exact Below.refl _ _); (case aS => exact HS.out.lt); (case aL => rw [zdp]; have := Han.out; have := Hi.out; omega); intro v1 w2 ho hb hg hat; have HRn := zad.mk ho; have HSn := zad.mk (HS.out.grown hg (fun r e => (own_ge HR.out r e).1)); clear HS HR hbox h0 h1 h2 f1 f2 ho hb hg hat; have HS := HSn; have HR := HRn; clear HSn HRn; obtain ⟨A1, c1, h0, h1, h2, f1, f2⟩ := HS.out.st.cells; have hbox := HS.out.box))
      go_roundg (n - (i + 1))
      case measure => have := HQ.out; have := Hi.out; omega
      case rel =>
        refine ⟨i + 1, q + 1, ⟨by have := HQ.out; omega, by have := HQ.out; have := Hi.out; omega⟩, ⟨?_⟩, ⟨HS.out.set1a ((q + 1 : Nat) : Int) ((q : Int) + 1) (by omega)⟩⟩
        rw [intsF_succ, show (a : Int) + (i : Int) = (q : Int) by have := HQ.out; omega]
        exact zdg HS.out.st HR.out (keep_set1 _ g _)
    · have hin : i = n := by have := HQ.out; omega
      subst hin
      have hq := HQ.out.1
      subst hq
      have Hi := Lib.hid hi
      clear hi
      go_wp2_with (first
        | (go_at_call 86; (with_reducible refine (is_not HS.out.st false Hno.out).mono ?_); rintro e w1 ⟨rfl, hs, hk⟩; have HRn := zad.mk (zdg HS.out.st HR.out hk); have HSn := zad.mk (HS.out.keep hs hk); clear HS HR hs hk hbox; have HS := HSn; have HR := HRn; clear HSn HRn; have hbox := HS.out.box)
        | (go_at_call 85; refine (rest_any hbox (HX.out _ HS.out.st)).mono ?_; rintro e w2 ⟨v2, rfl, hr, hs⟩; obtain ⟨A2, c2, rfl⟩ := Kd.zbk hr; have HRn := zad.mk (zdg HS.out.st HR.out hs.keep); have HN := zad.mk (Kd.zbp (base' := w.heap.size + 2) hr HS.out.lt); have HSn := zad.mk (HS.out.keep (HS.out.st.step hs) hs.keep); clear HS HR hs hr hbox; have HS := HSn; have HR := HRn; clear HSn HRn; have hbox := HS.out.box)
        | (go_at_call 87; refine (back_any _ A8 _ c8).mono ?_; rintro e w' ⟨rfl, rfl⟩))
      have b1 := Boxed.new w2 29 (.slice A2 (nodesR r1).length c2)
      have b2 := Boxed.new (w2.alloc (.cells #[.slice A2 (nodesR r1).length c2] 29)) 24 (.slice A8 (intsF a i).length c8)
      have hBS : BS w0 w (w2.alloc (.cells #[.slice A2 (nodesR r1).length c2] 29)) g w2.heap.size L 6 r1 (.slice A2 (nodesR r1).length c2) := ⟨HS.out.alloc _, b1, Kd.zav HN.out _, Hok.out⟩
      have hlt := HS.out.lt
      refine signs_step HF.out (Bb := w2.heap.size + 1) (.inr rfl) (hBS.alloc _) (rst_of (Bb := w2.heap.size + 1) (by rw [World.size_alloc] at b2; exact b2.cell) (Kd.zav (Kd.zav HR.out _) _)) (by rw [zdp]; exact Han.out.1) hlt (by omega) (by omega) (fun ad e => by have := own_ge HR.out ad.block (by rw [e]; rfl); omega) _ _ _ _ _ _ _ _ _ _ _ _ _ _ _ _ _ _ _ _ _ _ _ _ _ _ _ _ _ _ _ _ _ _ _ _ _ _ _ _ _ _ _ _ ?dn
      intro D W v' hD hK hBS'
      rw [zdp] at hBS'
      obtain ⟨A3, c3, rfl⟩ := Kd.zbk hBS'.row
      have hbc := hBS'.bx.cell
      have hend := hBS'.own (grownBy_putObj' W D (.deferred none)) (fun r e => by cases e; exact ⟨by simp at hD; omega, _, hK, rfl⟩)
      have HE := Lib.hid (show jobPost w0 w g L (wrapN (CL L) 6 a i r1) (.returned (.slice A3 (nodesR (wrapN (CL L) 6 a i r1)).length c3)) (W.putObj D (.deferred none)) from ⟨_, rfl, Kd.zbp hend.row (by omega), hend.fs.st⟩)
      have HK := Lib.hid hK
      clear hBS' hend hK b1 b2 hBS
      go_wp2_with fail
      exact leaves_one (Hres.out _ _ rfl) HK.out HE.out
set_option maxRecDepth 100000 in
set_option maxHeartbeats 8000000 in
theorem front_six {w0 : World} {L : List Tk} (hF : Fine L) {k : Nat} (ih : Jobs w0 L k) (a : Nat) (r : Res) (g : Nat) (w : World) (ha : a ≤ L.length) (h : run (CL L) (k + 1) (.front 6) a = some r) (hI : IsS64 w0 w g L a 0) (hB : Below w0.heap.size w0 w) (hT : Tabs w) :
    Calls Tryz.prog 64 #[.pointer (some ⟨g, 0, none⟩), .int .i64 6] w (jobPost w0 w g L r) := by
  obtain ⟨n, hn⟩ : ∃ n, n = lead 9 ((CL L).drop a) := ⟨_, rfl⟩
  have hrun : ∃ r1, run (CL L) k .prim (a + n) = some r1 ∧ r = wrapN (CL L) 5 a n r1 := by
    simp only [run] at h
    rw [if_neg (by decide), ← hn] at h
    cases h1 : run (CL L) k .prim (a + n) with
    | none => rw [h1] at h; cases h
    | some r1 => rw [h1] at h; injection h with h; exact ⟨r1, rfl, h.symm⟩
  obtain ⟨r1, hr1, rfl⟩ := hrun
  have han : a + n ≤ L.length := by have := lead_le' 9 (CL L) a (by rw [zcu]; exact ha); rw [zcu] at this; rw [hn]; exact this
  have hyes : ∀ i, i < n → decide (cdAt (CL L) (a + i) = 9) = true := fun i hi => decide_eq_true (lead_drop 9 (CL L) a i (by rw [← hn]; exact hi))
  have hno : decide (cdAt (CL L) (a + n) = 9) = false := decide_eq_false (by have := lead_stop 9 (by decide) ((CL L).drop a); rw [cdAt_drop, ← hn] at this; exact this)
  have hok := opnd_res hF (j := .prim) trivial hr1
  have HS0 := Lib.hid (FS.start hI hB 5)
  have hX : ∀ W : World, St w0 w W g L ((a + n : Nat) : Int) 0 → Calls Tryz.prog 84 #[.pointer (some ⟨g, 0, none⟩)] W (jobPost w0 W g L r1) := fun W hs => ih.pr (a + n) r1 g W han hr1 hs.is hs.bel (hs.tabs hI hT)
  have HX := Lib.hid hX
  have Hyes := Lib.hid hyes
  have Hno := Lib.hid hno
  have Hok := Lib.hid hok
  have HF := Lib.hid hF
  have Han := Lib.hid (show a + n ≤ L.length ∧ L.length ≤ 200 from ⟨han, hF.len⟩)
  have hres : ∀ (v : Value) (ts : Array Value), ts[4]? = some v → ∀ W, (results Tryz.f64 ts).run Tryz.prog W = .ok v W := by
    intro v ts h W
    obtain ⟨hlt, he⟩ := Array.getElem?_eq_some_iff.1 h
    exact results_tmp rfl _ _ _ |>.trans (by simp only [Array.getD]; rw [dif_pos hlt]; exact congrArg (fun v => Result.ok v W) he)
  have Hres := Lib.hid hres
  clear hI hB hT h hn hr1 han hyes hno hok hX ih hF ha hres
  refine (callsIn_wide (n := 5)).1 (callsIn_of_wp_marks Tryz.func64 rfl trivial (wpIn_wide.2 ?_) rfl)
  simp only [Tryz.ntmps64, List.size_toArray, List.length_cons, List.length_nil, Nat.reduceAdd, Nat.reduceSub, Array.replicate_succ, Array.replicate_zero, List.push_toArray, List.append_toArray, List.nil_append, List.cons_append]
  go_upto_region 1 with (fail)
  go_region
  go_upto_block 0 with (fail)
  go_wp2_with (fail)
  go_loopg [8] n (fun kq v8 W' => ∃ (i q : Nat), zad (q = a + i ∧ i + kq = n) ∧ zad (Kd.R (Kd.int .i64) 3 W' (w.heap.size + 2) (fun _ => True) v8 (intsF a i)) ∧ zad (FS w0 w W' g L (q : Int) 0 5))
  case atStart => exact ⟨0, a, ⟨rfl, by omega⟩, ⟨Kd.R_nil _ _ _ _ _⟩, ⟨HS0.out⟩⟩
  case round =>
    obtain ⟨i, q, HQ, HR, HS⟩ := hrel
    obtain ⟨A8, c8, rfl⟩ := Kd.zbk HR.out
    have hbox := HS.out.box
    by_cases hi : i < n
    · have hb := Hyes.out i hi
      rw [← HQ.out.1] at hb
      have Hb := Lib.hid hb
      have Hi := Lib.hid hi
      have hwq : wrap64 ((q : Int) + 1) = (q : Int) + 1 := by have := Han.out; have := HQ.out; exact zb4 (by omega) (by omega)
      clear hb hi
      go_wp2_with (first
        | (go_at_call 86; (with_reducible refine (is_minus HS.out.st true Hb.out).mono ?_); rintro e w1 ⟨rfl, hs, hk⟩; have HRn := zad.mk (zdg HS.out.st HR.out hk); have HSn := zad.mk (HS.out.keep hs hk); clear HS HR hs hk hbox; have HS := HSn; have HR := HRn; clear HSn HRn; obtain ⟨A1, c1, h0, h1, h2, f1, f2⟩ := HS.out.st.cells; have hbox := HS.out.box)
        | ((with_reducible refine zbe (b := .append) (xs := #[.tmp 20, .tmp 25]) rfl ?_); at_builtin; refine Kd.zb2 (Kd.int .i64) (w0 := w1) (w.heap.size + 2) rfl (.tmp 20) (.tmp 25) 24 3 (.int .i64 0) 8 rfl Tryz.underlying24 infoI rfl (by decide) (by omega) (.slice A8 (intsF a i).length c8) (intsF a i) (q : Int) [.int .i64 (q : Int)] (fun _ => True) (fun _ => False) rfl rfl ?aP (fun _ hk => hk.elim) (fun _ _ => trivial) ?aO ?aB ?aS ?aL ?_; (case aP => rfl); (case aO => exact HR.out); (case aB => exact Below.refl _ _); (case aS => exact HS.out.lt); (case aL => rw [zdp]; have := Han.out; have := Hi.out; omega); intro v1 w2 ho hb hg hat; have HRn := zad.mk ho; have HSn := zad.mk (HS.out.grown hg (fun r e => (own_ge HR.out r e).1)); clear HS HR hbox h0 h1 h2 f1 f2 ho hb hg hat; have HS := HSn; have HR := HRn; clear HSn HRn; obtain ⟨A1, c1, h0, h1, h2, f1, f2⟩ := HS.out.st.cells; have hbox := HS.out.box))
      go_roundg (n - (i + 1))
      case measure => have := HQ.out; have := Hi.out; omega
      case rel =>
        refine ⟨i + 1, q + 1, ⟨by have := HQ.out; omega, by have := HQ.out; have := Hi.out; omega⟩, ⟨?_⟩, ⟨HS.out.set1a ((q + 1 : Nat) : Int) ((q : Int) + 1) (by omega)⟩⟩
        rw [intsF_succ, show (a : Int) + (i : Int) = (q : Int) by have := HQ.out; omega]
        exact zdg HS.out.st HR.out (keep_set1 _ g _)
    · have hin : i = n := by have := HQ.out; omega
      subst hin
      have hq := HQ.out.1
      subst hq
      have Hi := Lib.hid hi
      clear hi
      go_wp2_with (first
        | (go_at_call 86; (with_reducible refine (is_minus HS.out.st false Hno.out).mono ?_); rintro e w1 ⟨rfl, hs, hk⟩; have HRn := zad.mk (zdg HS.out.st HR.out hk); have HSn := zad.mk (HS.out.keep hs hk); clear HS HR hs hk hbox; have HS := HSn; have HR := HRn; clear HSn HRn; have hbox := HS.out.box)
        | (go_at_call 84; refine (HX.out _ HS.out.st).mono ?_; rintro e w2 ⟨v2, rfl, hr, hs⟩; obtain ⟨A2, c2, rfl⟩ := Kd.zbk hr; have HRn := zad.mk (zdg HS.out.st HR.out hs.keep); have HN := zad.mk (Kd.zbp (base' := w.heap.size + 2) hr HS.out.lt); have HSn := zad.mk (HS.out.keep (HS.out.st.step hs) hs.keep); clear HS HR hs hr hbox; have HS := HSn; have HR := HRn; clear HSn HRn; have hbox := HS.out.box)
        | (go_at_call 87; refine (back_any _ A8 _ c8).mono ?_; rintro e w' ⟨rfl, rfl⟩))
      have b1 := Boxed.new w2 29 (.slice A2 (nodesR r1).length c2)
      have b2 := Boxed.new (w2.alloc (.cells #[.slice A2 (nodesR r1).length c2] 29)) 24 (.slice A8 (intsF a i).length c8)
      have hBS : BS w0 w (w2.alloc (.cells #[.slice A2 (nodesR r1).length c2] 29)) g w2.heap.size L 5 r1 (.slice A2 (nodesR r1).length c2) := ⟨HS.out.alloc _, b1, Kd.zav HN.out _, Hok.out⟩
      have hlt := HS.out.lt
      refine signs_step HF.out (Bb := w2.heap.size + 1) (.inl rfl) (hBS.alloc _) (rst_of (Bb := w2.heap.size + 1) (by rw [World.size_alloc] at b2; exact b2.cell) (Kd.zav (Kd.zav HR.out _) _)) (by rw [zdp]; exact Han.out.1) hlt (by omega) (by omega) (fun ad e => by have := own_ge HR.out ad.block (by rw [e]; rfl); omega) _ _ _ _ _ _ _ _ _ _ _ _ _ _ _ _ _ _ _ _ _ _ _ _ _ _ _ _ _ _ _ _ _ _ _ _ _ _ _ _ _ _ _ _ ?dn
      intro D W v' hD hK hBS'
      rw [zdp] at hBS'
      obtain ⟨A3, c3, rfl⟩ := Kd.zbk hBS'.row
      have hbc := hBS'.bx.cell
      have hend := hBS'.own (grownBy_putObj' W D (.deferred none)) (fun r e => by cases e; exact ⟨by simp at hD; omega, _, hK, rfl⟩)
      have HE := Lib.hid (show jobPost w0 w g L (wrapN (CL L) 5 a i r1) (.returned (.slice A3 (nodesR (wrapN (CL L) 5 a i r1)).length c3)) (W.putObj D (.deferred none)) from ⟨_, rfl, Kd.zbp hend.row (by omega), hend.fs.st⟩)
      have HK := Lib.hid hK
      clear hBS' hend hK b1 b2 hBS
      go_wp2_with fail
      exact leaves_one (Hres.out _ _ rfl) HK.out HE.out
end
section
open Go.Proofs.YtgmmngipnjmkfaaGreatDoor.Pure
theorem jobs_all {w0 : World} {L : List Tk} (hF : Fine L) (k : Nat) : Jobs w0 L k := by
  induction k using Nat.strongRecOn with
  | _ k ih =>
    cases k with
    | zero => exact ⟨fun s a r g w _ _ _ h => (by simp only [run] at h; cases h), fun s a r g w _ _ _ h => (by simp only [run] at h; cases h), fun s a r g w _ _ h => (by simp only [run] at h; cases h), fun a r g w _ h => (by simp only [run] at h; cases h)⟩
    | succ k =>
      refine ⟨fun s a r g w h1 h6 ha h hI hB hT => expr_walk hF (fun k' hk => ih k' (by omega)) s a r g w h1 h6 ha h hI hB hT, fun s a r g w h1 h6 ha h hI hB hT => opnd_walk (ih k (by omega)) s a r g w h1 h6 ha h hI hB hT, ?_, fun a r g w ha h hI hB hT => prim_walk hF (ih k (by omega)) a r g w ha h hI hB hT⟩
      rintro s a r g w (rfl | rfl) ha h hI hB hT
      · exact front_two hF (ih k (by omega)) a r g w ha h hI hB hT
      · exact front_six hF (ih k (by omega)) a r g w ha h hI hB hT
def fineB (L : List Tk) : Bool := decide (L.length ≤ 200) && L.all fun t => decide (0 ≤ t.f2 ∧ t.f2 ≤ 400 ∧ t.f1.size ≤ 140737488351232)
theorem fineB_iff {L : List Tk} : fineB L = true ↔ Fine L := by
  unfold fineB
  rw [Bool.and_eq_true, decide_eq_true_eq, List.all_eq_true]
  exact ⟨fun h => ⟨h.1, fun t ht => of_decide_eq_true (h.2 t ht)⟩, fun h => ⟨h.len, fun t ht => decide_eq_true (h.val t ht)⟩⟩
def resO : Option Res → Option (List Nd × Int × Int)
  | none => none
  | some r => some (nodesR r, atR r, errR r)
end
def zbm.f (k : Nat) (s0_0 : List (S33)) (s0_1 : Int) (s0_2 : Int) (a1 : Int) : Option ((List (S43)) × Int × Int) :=
  if s0_2 = 0 ∧ 0 ≤ s0_1 ∧ s0_1 ≤ (s0_0.length : Int) ∧ 1 ≤ a1 ∧ a1 ≤ 6 ∧ fineB s0_0 = true then resO (Go.Proofs.YtgmmngipnjmkfaaGreatDoor.Pure.run (CL s0_0) k (.expr a1.toNat) s0_1.toNat) else none
theorem zbm.mono : ∀ a0 a1 a2 a3 k, LeO (zbm.f k a0 a1 a2 a3) (zbm.f (k + 1) a0 a1 a2 a3) := by
  intro a0 a1 a2 a3 k
  unfold zbm.f
  by_cases h : a2 = 0 ∧ 0 ≤ a1 ∧ a1 ≤ (a0.length : Int) ∧ 1 ≤ a3 ∧ a3 ≤ 6 ∧ fineB a0 = true
  · rw [if_pos h, if_pos h]
    cases hr : Go.Proofs.YtgmmngipnjmkfaaGreatDoor.Pure.run (CL a0) k (.expr a3.toNat) a1.toNat with
    | none => intro x hx; cases hx
    | some r => rw [Go.Proofs.YtgmmngipnjmkfaaGreatDoor.Pure.run_le (CL a0) (Nat.le_succ k) hr]; exact fun x hx => hx
  · rw [if_neg h]; intro x hx; cases hx
theorem zbm.calls (k : Nat) (g : Nat) (s0_0 : List (S33)) (s0_1 : Int) (s0_2 : Int) (a1 : Int) (r1 : List (S43)) (r2 : Int) (r3 : Int) (w0 w : World) (hI : IsS64 w0 w g s0_0 s0_1 s0_2) (hB : Below w0.heap.size w0 w) (hT : Tabs w) (h : zbm.f k s0_0 s0_1 s0_2 a1 = some (r1, r2, r3)) :
    Calls Tryz.prog 29 #[.pointer (some ⟨g, 0, none⟩), .int .i64 a1] w fun e w' => ∃ v0_ : Value, e = .returned (v0_) ∧ Kd.R k43 43 w' w.heap.size (fun _ => True) v0_ r1 ∧ IsS64 w0 w' g s0_0 r2 r3 ∧ Below w0.heap.size w0 w' ∧ KeepBut w w' g none := by
  unfold zbm.f at h
  by_cases hc : s0_2 = 0 ∧ 0 ≤ s0_1 ∧ s0_1 ≤ (s0_0.length : Int) ∧ 1 ≤ a1 ∧ a1 ≤ 6 ∧ fineB s0_0 = true
  · rw [if_pos hc] at h
    obtain ⟨rfl, h0, h1, h2, h3, h4⟩ := hc
    obtain ⟨s, rfl⟩ : ∃ s : Nat, a1 = (s : Int) := ⟨a1.toNat, by omega⟩
    obtain ⟨a, rfl⟩ : ∃ a : Nat, s0_1 = (a : Int) := ⟨s0_1.toNat, by omega⟩
    rw [Int.toNat_natCast, Int.toNat_natCast] at h
    cases hr : Go.Proofs.YtgmmngipnjmkfaaGreatDoor.Pure.run (CL s0_0) k (.expr s) a with
    | none => rw [hr] at h; cases h
    | some r =>
      rw [hr] at h
      have e := Option.some.inj h
      injection e with e1 e2
      injection e2 with e2 e3
      subst e1; subst e2; subst e3
      refine ((jobs_all (fineB_iff.1 h4) k).ex s a r g w (by omega) (by omega) (by omega) hr hI hB hT).mono ?_
      rintro e w' ⟨v, h5, h6, h7⟩
      exact ⟨v, h5, h6, h7.is, h7.bel, h7.keep⟩
  · rw [if_neg hc] at h; cases h
end Go.Proofs.YtgmmngipnjmkfaaGreatDoor.Q
end
