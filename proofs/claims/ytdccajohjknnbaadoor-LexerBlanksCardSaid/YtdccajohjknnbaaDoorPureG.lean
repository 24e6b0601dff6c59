/- The reference's Join, Great, Same and Alike. -/
import Derived.Test.YtdccajohjknnbaaDoorPureD
import Derived.Test.YtdccajohjknnbaaDoorPureE
import Derived.Test.YtdccajohjknnbaaDoorQx8
namespace Go.Proofs.YtdccajohjknnbaaDoor.Pure
open Go.RowKit Go.Proofs.YtdccajohjknnbaaDoor.Hand Go.Proofs.YtdccajohjknnbaaDoor.Q Go.Proofs.YtdccajohjknnbaaDoorW.PrintWords Go.Proofs.YtdccajohjknnbaaDoorW.PrintLast Go.Proofs.YtdccajohjknnbaaDoorW.PrintMore
set_option linter.unusedVariables false
theorem great_l0 (l : List S30) (d : Nat) : ∀ (k i : Nat), 220 - i = d → i ≤ 220 → i ≤ l.length → d < k →
    ∃ b, tailwaterref03_Great.l0 k l (i : Int) = some b ∧ (b = false → l.length ≤ 220 ∧ ∀ t ∈ l.drop i, t.f1.size ≤ 500) := by
  induction d with
  | zero =>
    intro k i hd hi hl hk
    obtain ⟨k, rfl⟩ : ∃ m, k = m + 1 := ⟨k - 1, by omega⟩
    simp only [tailwaterref03_Great.l0]
    by_cases h : (i : Int) < (l.length : Int)
    · rw [if_pos h, if_pos (by omega)]; exact ⟨true, rfl, fun h => by cases h⟩
    · rw [if_neg h]
      refine ⟨false, rfl, fun _ => ⟨by omega, fun t ht => ?_⟩⟩
      rw [List.drop_of_length_le (by omega)] at ht; cases ht
  | succ d ih =>
    intro k i hd hi hl hk
    obtain ⟨k, rfl⟩ : ∃ m, k = m + 1 := ⟨k - 1, by omega⟩
    simp only [tailwaterref03_Great.l0]
    by_cases h : (i : Int) < (l.length : Int)
    · have hli : i < l.length := by omega
      have hw : wrap64 ((i : Int) + 1) = ((i + 1 : Nat) : Int) := by clear ih; unfold wrap64; omega
      rw [if_pos h, if_neg (by clear hw; omega), if_pos (by clear hw; omega), rd_get l i hli, hw]
      by_cases h5 : (l[i].f1.size : Int) > 500
      · rw [if_pos h5]; exact ⟨true, rfl, fun h => by cases h⟩
      · rw [if_neg h5]
        obtain ⟨b, hb, hf⟩ := ih k (i + 1) (by clear hw; omega) (by clear hw; omega) (by clear hw; omega) (by clear hw; omega)
        refine ⟨b, hb, fun e => ⟨(hf e).1, fun t ht => ?_⟩⟩
        rw [List.drop_eq_getElem_cons hli] at ht
        rcases List.mem_cons.1 ht with rfl | ht
        · clear hw; omega
        · exact (hf e).2 t ht
    · rw [if_neg h]
      refine ⟨false, rfl, fun _ => ⟨by omega, fun t ht => ?_⟩⟩
      rw [List.drop_of_length_le (by omega)] at ht; cases ht
theorem great_f (l : List S30) (k : Nat) (hk : 221 < k) : ∃ b, tailwaterref03_Great.f k l = some b ∧ (b = false → l.length ≤ 220 ∧ ∀ t ∈ l, t.f1.size ≤ 500) :=
  great_l0 l 220 k 0 rfl (by omega) (by omega) (by omega)
theorem refsame_l0 (l : List S30) (hl : l.length ≤ 1000000) (d : Nat) : ∀ (k i : Nat), l.length - i = d → i ≤ l.length → d < k → tailwaterref03_Same.l0 k l l (i : Int) = some true := by
  induction d with
  | zero =>
    intro k i hd hi hk
    obtain ⟨k, rfl⟩ : ∃ m, k = m + 1 := ⟨k - 1, by omega⟩
    simp only [tailwaterref03_Same.l0]; rw [if_neg (by omega)]
  | succ d ih =>
    intro k i hd hi hk
    obtain ⟨k, rfl⟩ : ∃ m, k = m + 1 := ⟨k - 1, by omega⟩
    have hih := ih k (i + 1) (by omega) (by omega) (by omega)
    have hw : wrap64 ((i : Int) + 1) = ((i + 1 : Nat) : Int) := by clear ih hih; unfold wrap64; omega
    simp only [tailwaterref03_Same.l0]
    rw [if_pos (by omega), if_pos (by omega), if_pos (by omega), if_neg (by simp), hw]
    exact hih
theorem refsame_f (l : List S30) (hl : l.length ≤ 1000000) (k : Nat) (hk : l.length < k) : tailwaterref03_Same.f k l l = some true := by
  unfold tailwaterref03_Same.f
  rw [if_pos rfl]
  exact refsame_l0 l hl l.length k 0 (by omega) (by omega) hk
/-- the texts of the first tokens, with blanks between -/
def J (l : List S30) (i : Nat) : List UInt8 := Lib.join ((l.take i).map fun t => t.f1.data.toList) [32]
theorem J_len (l : List S30) (hl : l.length ≤ 220) (hb : ∀ t ∈ l, t.f1.size ≤ 500) (i : Nat) : (J l i).length ≤ 111000 := by
  unfold J
  have h : ∀ x ∈ (l.take i).map (fun t => t.f1.data.toList), x.length ≤ 500 := fun x hx => by
    obtain ⟨z, hz, rfl⟩ := List.mem_map.1 hx
    rw [data_length]; exact hb z (List.mem_of_mem_take hz)
  have h1 := lens_le _ 500 h
  have h2 : ((l.take i).map fun t => t.f1.data.toList).length ≤ 220 := by rw [List.length_map, List.length_take]; omega
  generalize (l.take i).map (fun t => t.f1.data.toList) = xs at h1 h2 ⊢
  cases xs with
  | nil => exact Nat.zero_le _
  | cons x r =>
    rw [Lib.join_length]
    have : ([32] : List UInt8).length = 1 := rfl
    rw [this]
    rw [List.length_cons] at h1 h2
    omega
theorem J_zero (l : List S30) : J l 0 = [] := rfl
theorem J_succ (l : List S30) (i : Nat) (h : i < l.length) : J l (i + 1) = if i = 0 then l[i].f1.data.toList else J l i ++ 32 :: l[i].f1.data.toList := by
  unfold J
  rw [List.take_succ_eq_append_getElem h, List.map_append]
  by_cases h0 : i = 0
  · subst h0
    rw [if_pos rfl, List.take_zero]
    exact Lib.join_one _ _
  · rw [if_neg h0]
    cases hT : (l.take i).map (fun t => t.f1.data.toList) with
    | nil =>
      have := congrArg List.length hT
      rw [List.length_map, List.length_take, List.length_nil] at this
      omega
    | cons x r =>
      rw [List.cons_append, Lib.join_cons, Lib.join_cons]
      simp [Lib.joinTail]
theorem J_all (l : List S30) : ba (J l l.length) = joinB (l.map S30.f1) sp := by
  unfold J joinB ba
  rw [List.take_length, List.map_map]; rfl
theorem app_ba (a b : ByteArray) (x y : List UInt8) (ha : a.data.toList = x) (hb : b.data.toList = y) : a ++ b = ba (x ++ y) := ba_of (by rw [ByteArray.data_append, Array.toList_append, ha, hb])
theorem refjoin_l1 (l : List S30) (hl : l.length ≤ 220) (hb : ∀ t ∈ l, t.f1.size ≤ 500) (d : Nat) : ∀ (k i : Nat), l.length - i = d → i ≤ l.length → d < k →
    tailwaterref03_Join.l1 k l (ba (J l i)) (i : Int) = some (if (joinB (l.map S30.f1) sp).size > 400 then (em, 18) else (joinB (l.map S30.f1) sp, 0)) := by
  induction d with
  | zero =>
    intro k i hd hi hk
    obtain ⟨k, rfl⟩ : ∃ m, k = m + 1 := ⟨k - 1, by omega⟩
    obtain rfl : i = l.length := by omega
    simp only [tailwaterref03_Join.l1]
    rw [if_neg (by omega), J_all]
    by_cases c : (joinB (l.map S30.f1) sp).size > 400
    · rw [if_pos (by omega), if_pos c]; rfl
    · rw [if_neg (by omega), if_neg c]
  | succ d ih =>
    intro k i hd hi hk
    obtain ⟨k, rfl⟩ : ∃ m, k = m + 1 := ⟨k - 1, by omega⟩
    have hli : i < l.length := by omega
    have hJ := J_len l hl hb i
    have hz := hb l[i] (List.getElem_mem hli)
    have hih := ih k (i + 1) (by omega) (by omega) (by omega)
    rw [J_succ l i hli] at hih
    have hw : wrap64 ((i : Int) + 1) = ((i + 1 : Nat) : Int) := by clear ih hih; unfold wrap64; omega
    simp only [tailwaterref03_Join.l1]
    rw [if_pos (by omega), rd_get l i hli, hw]
    by_cases h0 : i = 0
    · subst h0
      rw [if_pos rfl] at hih
      have e : ba (J l 0) ++ l[0].f1 = ba l[0].f1.data.toList := app_ba _ _ [] _ rfl rfl
      rw [if_neg (by decide), if_pos (by decide), if_pos (by rw [ba_size, J_zero, List.length_nil]; omega), e]
      exact hih
    · rw [if_neg h0] at hih
      have e1 : ba (J l i) ++ (⟨#[32]⟩ : ByteArray) = ba (J l i ++ [32]) := app_ba _ _ _ _ rfl rfl
      have e2 : ba (J l i ++ [32]) ++ l[i].f1 = ba (J l i ++ 32 :: l[i].f1.data.toList) := (app_ba _ _ _ _ rfl rfl).trans (by rw [ba_data, List.append_assoc]; rfl)
      rw [if_pos (by omega), if_pos (by rw [ba_size]; omega), if_pos (by omega), e1, if_pos (by rw [ba_size, List.length_append]; simp only [List.length_cons, List.length_nil]; omega), e2]
      exact hih
theorem refjoin_l0 (l : List S30) (hl : l.length ≤ 220) (hb : ∀ t ∈ l, t.f1.size ≤ 500) (d : Nat) : ∀ (k i : Nat), l.length - i = d → i ≤ l.length → d + 2400 < k →
    tailwaterref03_Join.l0 k l (⟨#[]⟩ : ByteArray) (i : Int) = some (if (l.drop i).all (fun t => chkT t == 0) = true then (if (joinB (l.map S30.f1) sp).size > 400 then (em, 18) else (joinB (l.map S30.f1) sp, 0)) else (em, 8)) := by
  induction d with
  | zero =>
    intro k i hd hi hk
    obtain ⟨k, rfl⟩ : ∃ m, k = m + 1 := ⟨k - 1, by omega⟩
    have h := refjoin_l1 l hl hb l.length k 0 (by omega) (by omega) (by omega)
    simp only [tailwaterref03_Join.l0]
    rw [if_neg (by omega), List.drop_of_length_le (by omega), if_pos List.all_nil]
    exact h
  | succ d ih =>
    intro k i hd hi hk
    obtain ⟨k, rfl⟩ : ∃ m, k = m + 1 := ⟨k - 1, by omega⟩
    have hli : i < l.length := by omega
    have hz := hb l[i] (List.getElem_mem hli)
    have hih := ih k (i + 1) (by omega) (by omega) (by omega)
    have hv := valid_f k (by omega) l[i].f0 l[i].f1 l[i].f2 (by omega)
    have hw : wrap64 ((i : Int) + 1) = ((i + 1 : Nat) : Int) := by clear ih hih; unfold wrap64; omega
    rw [List.drop_eq_getElem_cons hli, List.all_cons]
    simp only [tailwaterref03_Join.l0]
    rw [if_pos (by omega), if_pos (by omega), rd_get l i hli, hv, Option.bind_some]
    by_cases c : chk l[i].f0 l[i].f1.data.toList = 0
    · have e : (chkT l[i] == 0) = true := beq_t c
      rw [if_pos (decide_eq_true c), e, Bool.true_and, hw]; exact hih
    · have e : (chkT l[i] == 0) = false := beq_f c
      rw [if_neg (by rw [decide_eq_false c]; decide), e, Bool.false_and]; rfl
theorem refjoin_f (l : List S30) (hl : l.length ≤ 220) (hb : ∀ t ∈ l, t.f1.size ≤ 500) (k : Nat) (hk : 2700 < k) : tailwaterref03_Join.f k l = some (jn l) := by
  unfold tailwaterref03_Join.f jn
  by_cases h : l.length > 200
  · rw [if_pos (by omega), if_pos h]; rfl
  · rw [if_neg (by omega), if_neg h]
    exact refjoin_l0 l hl hb l.length k 0 (by omega) (by omega) (by omega)
end Go.Proofs.YtdccajohjknnbaaDoor.Pure
