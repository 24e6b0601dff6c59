/- LexerNames: the chapter's examples, limits, texts that have no tokens, and errors (no argument); the plain law over the functions that the program computes. -/
import Derived.Test.YtdccajohjknnbaaDoorPureE
import Derived.Test.YtdccajohjknnbaaDoorQx5
namespace Go.Proofs.YtdccajohjknnbaaDoor.Pure
open Go.RowKit Go.Proofs.YtdccajohjknnbaaDoor.Hand Go.Proofs.YtdccajohjknnbaaDoor.Q Go.Proofs.YtdccajohjknnbaaDoorW.PrintWords Go.Proofs.YtdccajohjknnbaaDoorW.PrintLast Go.Proofs.YtdccajohjknnbaaDoorW.PrintMore
set_option linter.unusedVariables false
theorem jd (k : Nat) (hk : 402 ≤ k) (s t : ByteArray) (h : tailwaterlaw03_joined.f 402 s = some t) : tailwaterlaw03_joined.f k s = some t := (joined_fuel s k hk).trans h
theorem fl (k : Nat) (hk : 402 ≤ k) (s : ByteArray) (a e : Int) (h : tailwaterlaw03_fails.f 402 s a e = some true) : tailwaterlaw03_fails.f k s a e = some true := (fails_fuel s a e k hk).trans h
theorem many_l0 (x : ByteArray) (hx : x.size ≤ 100) (n : Nat) (hn : n ≤ 1000) (d : Nat) : ∀ (k i : Nat) (acc : List UInt8), n - i = d → i ≤ n → d < k → acc.length ≤ 100 * i →
    tailwaterlaw03_many.l0 k x (n : Int) (ba acc) (i : Int) = some (ba (acc ++ (List.replicate d x.data.toList).flatten)) := by
  induction d with
  | zero =>
    intro k i acc hd hi hk _
    obtain ⟨k, rfl⟩ : ∃ m, k = m + 1 := ⟨k - 1, by omega⟩
    rw [tailwaterlaw03_many.l0, if_neg (by omega)]
    simp
  | succ d ih =>
    intro k i acc hd hi hk ha
    obtain ⟨k, rfl⟩ : ∃ m, k = m + 1 := ⟨k - 1, by omega⟩
    have hxl : x.data.toList.length = x.size := data_length x
    have hih := ih k (i + 1) (acc ++ x.data.toList) (by omega) (by omega) (by omega) (by rw [List.length_append]; omega)
    have hw : wrap64 ((i : Int) + 1) = ((i + 1 : Nat) : Int) := by clear ih hih; unfold wrap64; omega
    rw [tailwaterlaw03_many.l0, if_pos (by omega), if_pos (by rw [ba_size]; omega), hw]
    rw [show ba acc ++ x = ba (acc ++ x.data.toList) from ba_of (by rw [ByteArray.data_append, Array.toList_append]; rfl), hih, List.append_assoc, List.replicate_succ, List.flatten_cons]
theorem many_f (k : Nat) (x : ByteArray) (hx : x.size ≤ 100) (n : Nat) (hn : n ≤ 1000) (hk : n < k) : tailwaterlaw03_many.f k x (n : Int) = some (ba (List.replicate n x.data.toList).flatten) :=
  many_l0 x hx n hn n k 0 [] rfl (by omega) hk (by simp)
theorem tok_one (R : List UInt8) : tok (49 :: 32 :: R) = (1, [49]) := by
  have h2 : kd 49 = 2 := by decide
  have h1 : kd 32 = 1 := by decide
  simp only [tok, if_pos h2]
  unfold run
  rw [List.takeWhile_cons_of_pos (p := fun b => kd b == 2) (by rw [h2]; rfl), List.takeWhile_cons_of_neg (p := fun b => kd b == 2) (by rw [h1]; decide)]
theorem scan_ones (j : Nat) : ∀ (a n : Nat), n + j = 199 → ∃ ts, Scan a n ((List.replicate j [49, 32]).flatten ++ [40, 40]) ts (a + 2 * j + 1) 4 := by
  induction j with
  | zero =>
    intro a n hn
    have e : tok [40, 40] = (3, [40]) := by decide +kernel
    refine ⟨⟨(tok [40, 40]).1, ba (tok [40, 40]).2, (a : Int)⟩ :: [], Scan.tok (c := 40) (r := [40]) (by decide) (by omega) ?_ ?_⟩
    · rw [e]; decide +kernel
    · rw [e]
      obtain rfl : n = 199 := by omega
      exact Scan.many (c := 40) (r := []) (by decide)
  | succ j ih =>
    intro a n hn
    obtain ⟨ts, hs⟩ := ih (a + 2) (n + 1) (by omega)
    have hin : (List.replicate (j + 1) [49, 32]).flatten ++ [40, 40] = (49 : UInt8) :: 32 :: ((List.replicate j [49, 32]).flatten ++ [40, 40]) := by
      rw [List.replicate_succ, List.flatten_cons]; rfl
    rw [hin]
    refine ⟨⟨(tok (49 :: 32 :: ((List.replicate j [49, 32]).flatten ++ [40, 40]))).1, ba (tok (49 :: 32 :: ((List.replicate j [49, 32]).flatten ++ [40, 40]))).2, (a : Int)⟩ :: ts, Scan.tok (by decide) (by omega) ?_ ?_⟩
    · rw [tok_one]; decide +kernel
    · rw [tok_one]
      refine Scan.blank (c := 32) (by decide) ?_
      rw [show a + 2 * (j + 1) + 1 = a + 2 + 2 * j + 1 by omega]
      exact hs
theorem names_ones (k : Nat) (hk : 401 < k) : tailwaterlaw03_fails.f k (ba (List.replicate 199 [49, 32]).flatten ++ (⟨#[40, 40]⟩ : ByteArray)) 399 4 = some true := by
  have e : ba (List.replicate 199 [49, 32]).flatten ++ (⟨#[40, 40]⟩ : ByteArray) = ba ((List.replicate 199 [49, 32]).flatten ++ [40, 40]) := ba_of (by rw [ByteArray.data_append, Array.toList_append]; rfl)
  have hlen : ((List.replicate 199 ([49, 32] : List UInt8)).flatten ++ [40, 40]).length = 400 := by kernel_rfl
  obtain ⟨ts, hs⟩ := scan_ones 199 0 0 rfl
  rw [e]
  unfold tailwaterlaw03_fails.f
  rw [all_f (ba ((List.replicate 199 [49, 32]).flatten ++ [40, 40])) (by rw [ba_size, hlen]; exact Nat.le_refl _) hs k (by rw [ba_size, hlen]; omega)]
  rfl
theorem names_great (k : Nat) : tailwaterlaw03_fails.f k (ba (List.replicate 401 [97]).flatten) 0 4 = some true := by
  have hlen : (List.replicate 401 ([97] : List UInt8)).flatten.length = 401 := by kernel_rfl
  unfold tailwaterlaw03_fails.f
  rw [all_great _ (by rw [ba_size, hlen]; decide)]
  rfl
theorem jn_bad (t : S30) (h : chkT t ≠ 0) : jn [t] = (em, 8) := by
  unfold jn
  rw [if_neg (by simp), if_neg]
  rw [List.all_cons, beq_f h]; decide
theorem names_l0 (x1 x2 : Bool) (x4 : Int) (l : List S30) (hl : l.length ≤ 1000) (hb : ∀ t ∈ l, t.f1.size ≤ 1000) (hc : ∀ t ∈ l, chkT t ≠ 0) (d : Nat) : ∀ (k i : Nat), l.length - i = d → i ≤ l.length → 201 ≤ k →
    tailwaterlaw03_LexerNames.l0 (k + d) x1 x2 x4 l (i : Int) = tailwaterlaw03_LexerNames.l0 k x1 x2 x4 l (l.length : Int) := by
  induction d with
  | zero => intro k i hd hi _; obtain rfl : i = l.length := by omega
            rfl
  | succ d ih =>
    intro k i hd hi hk
    have hli : i < l.length := by omega
    have hih := ih k (i + 1) (by omega) (by omega) hk
    have hw : wrap64 ((i : Int) + 1) = ((i + 1 : Nat) : Int) := by clear ih hih; unfold wrap64; omega
    have hone : (l.take (i + 1)).drop i = [l[i]] := by
      rw [List.take_succ_eq_append_getElem hli, List.drop_left' (by rw [List.length_take]; omega)]
    have hj := join_f [l[i]] (fun t ht => by
      obtain rfl := List.mem_singleton.1 ht
      have := hb l[i] (List.getElem_mem hli); omega) (k + d) (by omega)
    rw [jn_bad _ (hc _ (List.getElem_mem hli))] at hj
    rw [← hih, ← Nat.add_assoc]
    generalize k + d = q at hj
    rw [tailwaterlaw03_LexerNames.l0, hw, if_pos (by omega), if_pos (by omega), if_pos (by omega), if_pos (by omega), Int.toNat_natCast, Int.toNat_natCast, hone, hj, Option.bind_some, if_pos rfl]
def tokA : S30 := ⟨2, (⟨#[97]⟩ : ByteArray), 0⟩
def tokC : S30 := ⟨2, (⟨#[99, 111, 117, 110, 116]⟩ : ByteArray), 0⟩
theorem names_l1 (x1 x2 : Bool) (x4 : Int) (d : Nat) : ∀ (k i : Nat), i + d = 200 →
    tailwaterlaw03_LexerNames.l1 (k + d) x1 x2 x4 (List.replicate i tokA ++ List.replicate d z30) (i : Int) = tailwaterlaw03_LexerNames.l1 k x1 x2 x4 (List.replicate 200 tokA) 200 := by
  induction d with
  | zero => intro k i hd; obtain rfl : i = 200 := by omega
            rw [List.replicate_zero, List.append_nil]; rfl
  | succ d ih =>
    intro k i hd
    have hih := ih k (i + 1) (by omega)
    have hw : wrap64 ((i : Int) + 1) = ((i + 1 : Nat) : Int) := by clear ih hih; unfold wrap64; omega
    have hset : (List.replicate i tokA ++ List.replicate (d + 1) z30).set i tokA = List.replicate (i + 1) tokA ++ List.replicate d z30 := by
      rw [List.set_append_right _ _ (by rw [List.length_replicate]; exact Nat.le_refl _), List.length_replicate, Nat.sub_self, List.replicate_succ (n := d), List.set_cons_zero, List.replicate_succ' (n := i), List.append_assoc]; rfl
    rw [← hih, ← Nat.add_assoc]
    generalize k + d = q
    rw [tailwaterlaw03_LexerNames.l1, hw, if_pos (by omega), if_pos (by omega), if_pos (by rw [List.length_append, List.length_replicate, List.length_replicate]; omega), Int.toNat_natCast]
    exact congrArg (fun x => tailwaterlaw03_LexerNames.l1 q x1 x2 x4 x ((i + 1 : Nat) : Int)) hset
theorem join_size (t : S30) (n : Nat) : (joinB ((t :: List.replicate n tokA).map S30.f1) sp).size = n + (t.f1.size + n) := by
  unfold joinB
  have : ∀ l : List UInt8, (⟨l.toArray⟩ : ByteArray).size = l.length := fun l => ba_size l
  rw [this, List.map_cons, List.map_cons, Lib.join_length]
  have h1 : sp.data.toList.length = 1 := rfl
  have h2 : Lib.lens (t.f1.data.toList :: ((List.replicate n tokA).map S30.f1).map (·.data.toList)) = t.f1.size + n := by
    rw [List.map_replicate, List.map_replicate]
    simp only [Lib.lens, List.map_cons, List.sum_cons, List.map_replicate, List.sum_replicate_nat]
    rw [data_length]
    have : (tokA.f1.data.toList).length = 1 := rfl
    rw [this]; omega
  rw [h1, h2, List.length_map, List.length_map, List.length_replicate]; omega
theorem all_tokA (n : Nat) : (List.replicate n tokA).all (fun t => chkT t == 0) = true := by
  rw [List.all_eq_true]
  intro t ht
  rw [List.eq_of_mem_replicate ht]
  exact (by kernel_rfl : (chkT tokA == 0) = true)
theorem names_end (k : Nat) (hk : 402 ≤ k) : tailwaterlaw03_LexerNames.l1 (k + 1) true true 4 (List.replicate 200 tokA) 200 = some true := by
  have hA : lexer_Join.f k (List.replicate 200 tokA) = some (joinB ((List.replicate 200 tokA).map S30.f1) sp, 0) := by
    rw [join_f _ (fun t ht => by rw [List.eq_of_mem_replicate ht]; exact (by decide : tokA.f1.size ≤ 1000000)) k (by omega)]
    unfold jn
    rw [if_neg (by rw [List.length_replicate]; decide), if_pos (all_tokA 200), if_neg]
    have := join_size tokA 199
    rw [show (List.replicate 200 tokA) = tokA :: List.replicate 199 tokA from List.replicate_succ, this]
    decide
  have hC : lexer_Join.f k ((List.replicate 200 tokA).set 0 tokC) = some (em, 18) := by
    rw [show (List.replicate 200 tokA).set 0 tokC = tokC :: List.replicate 199 tokA from rfl]
    rw [join_f _ (fun t ht => by
      rcases List.mem_cons.1 ht with rfl | ht
      · exact (by decide : tokC.f1.size ≤ 1000000)
      · rw [List.eq_of_mem_replicate ht]; exact (by decide : tokA.f1.size ≤ 1000000)) k (by omega)]
    unfold jn
    rw [if_neg (by rw [List.length_cons, List.length_replicate]; decide), if_pos, if_pos]
    · rw [join_size]; decide
    · rw [List.all_cons, all_tokA, Bool.and_true]
      exact (by kernel_rfl : (chkT tokC == 0) = true)
  have hS : (joinB ((List.replicate 200 tokA).map S30.f1) sp).size = 399 := join_size tokA 199
  have hr : rd_T30 (List.replicate 200 tokA) 0 = tokA := rfl
  have hC' : lexer_Join.f k ((List.replicate 200 tokA).set (0 : Int).toNat ⟨(rd_T30 (List.replicate 200 tokA) 0).f0, (⟨#[99, 111, 117, 110, 116]⟩ : ByteArray), (rd_T30 (List.replicate 200 tokA) 0).f2⟩) = some (em, 18) := hC
  rw [tailwaterlaw03_LexerNames.l1, if_neg (by decide), hA, Option.bind_some, if_pos (by rw [List.length_replicate]; decide), hC', Option.bind_some]
  dsimp only
  rw [hS, alive_any k hk]; rfl
def badToks : List S30 := [(⟨0, (⟨#[]⟩ : ByteArray), 0⟩ : S30), (⟨1, (⟨#[]⟩ : ByteArray), 0⟩ : S30), (⟨1, (⟨#[97]⟩ : ByteArray), 0⟩ : S30), (⟨2, (⟨#[49]⟩ : ByteArray), 0⟩ : S30), (⟨2, (⟨#[101]⟩ : ByteArray), 0⟩ : S30), (⟨3, (⟨#[33]⟩ : ByteArray), 0⟩ : S30), (⟨3, (⟨#[60, 61, 61]⟩ : ByteArray), 0⟩ : S30), (⟨4, (⟨#[97]⟩ : ByteArray), 0⟩ : S30), (⟨3, (⟨#[]⟩ : ByteArray), 0⟩ : S30), (⟨1, (⟨#[32, 49]⟩ : ByteArray), 0⟩ : S30), (⟨1, (⟨#[57, 50, 50, 51, 51, 55, 50, 48, 51, 54, 56, 53, 52, 55, 55, 53, 56, 48, 56]⟩ : ByteArray), 0⟩ : S30)]
theorem names_j1 : tailwaterlaw03_LexerNames.j1 1498 true true = some true := by
  have hz : lexer_Join.f 1497 (List.replicate 201 z30) = some (em, 4) := by
    unfold lexer_Join.f
    rw [if_pos (by rw [List.length_replicate]; decide)]; rfl
  have hb : ∀ t ∈ badToks, t.f1.size ≤ 1000 := by
    have : badToks.all (fun t => decide (t.f1.size ≤ 1000)) = true := by kernel_rfl
    intro t ht; have := List.all_eq_true.1 this t ht; simpa using this
  have hc : ∀ t ∈ badToks, chkT t ≠ 0 := by
    have : badToks.all (fun t => chkT t != 0) = true := by kernel_rfl
    intro t ht; have := List.all_eq_true.1 this t ht; simpa using this
  have hlen : badToks.length = 11 := rfl
  have h0 := names_l0 true true 4 badToks (by omega) hb hc 11 1486 0 (by omega) (by omega) (by omega)
  have h1 := names_l1 true true 4 200 1285 0 (by omega)
  rw [List.replicate_zero, List.nil_append] at h1
  rw [tailwaterlaw03_LexerNames.j1, if_pos (by decide), hz, Option.bind_some]
  refine (show tailwaterlaw03_LexerNames.l0 1497 true true 4 badToks 0 = _ from h0).trans ?_
  rw [hlen, tailwaterlaw03_LexerNames.l0, if_neg (by rw [hlen]; decide), if_pos (by decide)]
  exact h1.trans (names_end 1284 (by omega))
set_option maxRecDepth 100000 in
theorem names_j0 : tailwaterlaw03_LexerNames.j0 1499 true = some true := by
  have m1 := many_f 1498 (⟨#[97]⟩ : ByteArray) (by decide) 401 (by omega) (by omega)
  have m2 := many_f 1498 (⟨#[49, 32]⟩ : ByteArray) (by decide) 199 (by omega) (by omega)
  have hsz : (ba (List.replicate 199 [49, 32]).flatten).size + 2 ≤ 9223372036854775807 := by
    have : (List.replicate 199 ([49, 32] : List UInt8)).flatten.length = 398 := by kernel_rfl
    rw [ba_size, this]; decide
  rw [tailwaterlaw03_LexerNames.j0]
  rw [show tailwaterlaw03_many.f 1498 (⟨#[97]⟩ : ByteArray) 401 = _ from m1, Option.bind_some, show tailwaterlaw03_fails.f 1498 (ba (List.replicate 401 (⟨#[97]⟩ : ByteArray).data.toList).flatten) 0 4 = some true from names_great 1498, Option.bind_some, if_pos rfl]
  rw [show tailwaterlaw03_many.f 1498 (⟨#[49, 32]⟩ : ByteArray) 199 = _ from m2, Option.bind_some, if_pos hsz]
  rw [show tailwaterlaw03_fails.f 1498 (ba (List.replicate 199 (⟨#[49, 32]⟩ : ByteArray).data.toList).flatten ++ (⟨#[40, 40]⟩ : ByteArray)) 399 4 = some true from names_ones 1498 (by omega), Option.bind_some, if_pos rfl]
  rw [fl 1498 (by omega) _ 0 32 (by kernel_rfl), Option.bind_some, if_pos rfl, fl 1498 (by omega) _ 2 32 (by kernel_rfl), Option.bind_some, if_pos rfl, fl 1498 (by omega) _ 1 32 (by kernel_rfl), Option.bind_some, if_pos rfl]
  rw [fl 1498 (by omega) _ 2 16 (by kernel_rfl), Option.bind_some, if_pos rfl, fl 1498 (by omega) _ 10 32 (by kernel_rfl), Option.bind_some, if_pos rfl, fl 1498 (by omega) _ 1 32 (by kernel_rfl), Option.bind_some]
  exact names_j1
set_option maxRecDepth 100000 in
theorem LexerNames : tailwaterlaw03_LexerNames.Pure := by
  refine ⟨1499, ?_⟩
  have g : ∀ l : List UInt8, (ba l).toList = l := fun l => by rw [ByteArray.toList_eq, ba_data]
  unfold tailwaterlaw03_LexerNames.f
  rw [jd 1499 (by omega) _ (ba []) (by kernel_rfl), Option.bind_some, g, if_pos rfl, jd 1499 (by omega) _ (ba []) (by kernel_rfl), Option.bind_some, g, if_pos rfl]
  rw [jd 1499 (by omega) _ (ba [60, 60, 32, 61, 32, 60]) (by kernel_rfl), Option.bind_some, g, if_pos rfl, jd 1499 (by omega) _ (ba [97, 32, 60, 32, 45, 32, 98]) (by kernel_rfl), Option.bind_some, g, if_pos rfl]
  rw [jd 1499 (by omega) _ (ba [45, 32, 45, 32, 49]) (by kernel_rfl), Option.bind_some, g, if_pos rfl, jd 1499 (by omega) _ (ba [63]) (by kernel_rfl), Option.bind_some, g, if_pos rfl]
  rw [jd 1499 (by omega) _ (ba [98, 121, 32, 107, 101, 121]) (by kernel_rfl), Option.bind_some, g, if_pos rfl, jd 1499 (by omega) _ (ba [97, 32, 49, 32, 98, 32, 50]) (by kernel_rfl), Option.bind_some, g, if_pos rfl]
  rw [jd 1499 (by omega) _ (ba [33, 61, 32, 33, 61]) (by kernel_rfl), Option.bind_some, g, beq_self_eq_true]
  exact names_j0
end Go.Proofs.YtdccajohjknnbaaDoor.Pure
