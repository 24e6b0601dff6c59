/- The card of the statement, from the lemmas of the texts that this one imports (this text and those were cut to what the proof uses, by wip/trim.py). -/
import Derived.Below
import Derived.Carry
import Derived.WalkKit
import Derived.OpenShut
import Derived.ProofKit
import Derived.ChangeOld
import Derived.SizedLaws
import Derived.ChangeSame
import Derived.Deep.Grids
import Derived.ShutString
import Derived.WideShapes
import Derived.Deep.Fields
import Derived.Deep.Slices
import Derived.Lib.LaidTab
import Derived.Lib.SmallJoins
import Derived.Deep.DeepHandedRow
import Derived.Deep.DeepWitnessRowRef
import Derived.Test.YtgmmngipnjmkfaaGreatDoorTie
import Derived.Test.YtgmmngipnjmkfaaGreatDoorCards
import Derived.Test.YtgmmngipnjmkfaaGreatDoorEr3
import Derived.Test.YtgmmngipnjmkfaaGreatDoorEr13
import Derived.Test.YtgmmngipnjmkfaaGreatDoorEr14
section
namespace Go.Proofs.YtgmmngipnjmkfaaGreatDoor.Pure
open Go.RowKit Go.Proofs.YtgmmngipnjmkfaaGreatDoor.Hand Go.Proofs.YtgmmngipnjmkfaaGreatDoor.Q Go.Proofs.YtgmmngipnjmkfaaGreatDoorW.PrintWords Go.Proofs.YtgmmngipnjmkfaaGreatDoorW.PrintLast Go.Proofs.YtgmmngipnjmkfaaGreatDoorW.PrintMore
open Go.Proofs.YtgmmngipnjmkfaaGreatDoor.PureL (ba ba_size ba_data tkOf plT)
set_option linter.unusedVariables false
theorem big_succ (k : Nat) (h : 400000000000000 < k) : ∃ m, k = m + 1 ∧ 400000000000000 ≤ m := ⟨k - 1, by omega, by omega⟩
theorem posAt_app (L M : List Tk) (i : Nat) (h : i < L.length) : posAt (CL (L ++ M)) i = posAt (CL L) i := by
  unfold posAt CL
  rw [List.getElem?_map, List.getElem?_map, List.getElem?_append_left h]
theorem behind_noop (b0 : Int) (b1 : ByteArray) (b2 : Int) (h : b0 = 1 ∨ b1.toList = [107] ∨ b1.toList = [41] ∨ b1.toList = [40]) : PureL.NoOp [tkOf ⟨b0, b1, b2⟩] := by
  intro c v r e
  have hc : (tkOf ⟨b0, b1, b2⟩).1 = c := by injection e with e _; rw [e]
  subst hc
  show ¬ (7 ≤ (cT ⟨b0, b1, b2⟩).c ∧ (cT ⟨b0, b1, b2⟩).c ≤ 19)
  unfold cT
  by_cases h1 : b0 = 1
  · rw [if_pos h1]; show ¬ (7 ≤ 1 ∧ 1 ≤ 19); decide
  · rw [if_neg h1]
    have h2 := h.resolve_left h1
    simp only [ByteArray.toList_eq] at h2
    show ¬ (7 ≤ codeS b1.data.toList ∧ codeS b1.data.toList ≤ 19)
    rcases h2 with h2 | h2 | h2 <;> rw [h2] <;> decide
structure Case (t : Tr) (F : List Tk) (B : Tk) (ts : List Tk) : Prop where
  ok : t.ok
  front : F.length ≤ 30
  few : ts.length ≤ 150
  good : PureL.Good (F ++ [B])
  goodT : PureL.Good ts
  toks : ts.map tkOf = (5, 0) :: (tk t ++ [(6, 0)])
theorem Case.len {t : Tr} {F ts : List Tk} {B : Tk} (h : Case t F B ts) : ts.length = (tk t).length + 2 := by rw [← List.length_map (f := tkOf), h.toks]; simp
theorem Case.all {t : Tr} {F ts : List Tk} {B : Tk} (h : Case t F B ts) : PureL.Good (F ++ ts) :=
  ⟨by rw [List.length_append]; have := h.front; have := h.few; omega, fun x hx => (List.mem_append.1 hx).elim (fun hx => h.good.tok x (List.mem_append_left _ hx)) (fun hx => h.goodT.tok x hx)⟩
theorem Case.more {t : Tr} {F ts : List Tk} {B : Tk} (h : Case t F B ts) : PureL.Good (F ++ ts ++ [B]) :=
  ⟨by rw [List.length_append, List.length_append]; have := h.front; have := h.few; simp; omega, fun x hx => (List.mem_append.1 hx).elim (fun hx => h.all.tok x hx) (fun hx => h.good.tok x (List.mem_append_right _ hx))⟩
theorem Case.parse {t : Tr} {F ts : List Tk} {B : Tk} (h : Case t F B ts) (k : Nat) (hk : 5000 ≤ k) : za5.f k (F ++ ts) (F.length : Int) = some ((plT (F ++ ts) t (F.length + 1)).flat 0, ((F ++ ts).length : Int), 0) := by
  have := PureL.parse_br h.ok h.all (ds := F.map tkOf) (es := []) (by rw [List.map_append, h.toks]) PureL.noop_nil k hk
  rw [List.length_map] at this
  rw [this, List.length_append, h.len, Nat.add_assoc]
theorem Case.parse2 {t : Tr} {F ts : List Tk} {B : Tk} (h : Case t F B ts) (hb : PureL.NoOp [tkOf B]) (k : Nat) (hk : 5000 ≤ k) : za5.f k (F ++ ts ++ [B]) (F.length : Int) = some ((plT (F ++ ts) t (F.length + 1)).flat 0, ((F ++ ts).length : Int), 0) := by
  have := PureL.parse_br h.ok h.more (ds := F.map tkOf) (es := [tkOf B]) (by rw [List.map_append, List.map_append, h.toks]; simp) hb k hk
  rw [List.length_map] at this
  rw [this, List.length_append, h.len, Nat.add_assoc]
  have e : plT (F ++ ts ++ [B]) t (F.length + 1) = plT (F ++ ts) t (F.length + 1) := pl_congr t _ (fun i h1 h2 => posAt_app _ _ i (by rw [List.length_append, h.len]; omega))
  rw [e]
theorem brackets_j4 {t : Tr} {F ts : List Tk} {b0 : Int} {b1 : ByteArray} {b2 : Int} (h : Case t F ⟨b0, b1, b2⟩ ts) (k : Nat) (hk : 400000000000000 ≤ k) (b : Bool) (hb : b = true → b0 = 1 ∨ b1.toList = [107] ∨ b1.toList = [41] ∨ b1.toList = [40]) :
    zae.j4 (k + 1) F (F ++ ts) ((plT (F ++ ts) t (F.length + 1)).flat 0) ((F ++ ts).length : Int) b b0 b1 b2 = some true := by
  have hal := PureL.alive_any k (by omega)
  simp only [zae.j4]
  cases b with
  | false => rw [if_neg (by decide), hal]; rfl
  | true =>
    have hm := h.more.len
    rw [List.length_append] at hm
    simp only [if_true, Option.bind_some]
    rw [if_pos (by simp only [List.length_cons, List.length_nil] at hm ⊢; omega), h.parse2 (behind_noop b0 b1 b2 (hb rfl)) k (by omega)]
    simp only [Option.bind_some, if_true]
    rw [PureL.equal_f _ (by rw [Tr.zcb, (PureL.plT_sim _ t _).size]; have := h.ok.2.1; omega) k (by omega)]
    simp only [Option.bind_some, if_true]
    rw [hal]; rfl
theorem brackets_j3 {t : Tr} {F ts : List Tk} {b0 : Int} {b1 : ByteArray} {b2 : Int} (h : Case t F ⟨b0, b1, b2⟩ ts) (k : Nat) (hk : 400000000000001 ≤ k) :
    zae.j3 (k + 1) F (F ++ ts) ((plT (F ++ ts) t (F.length + 1)).flat 0) ((F ++ ts).length : Int) false b0 b1 b2 = some true := by
  obtain ⟨k, rfl, hk2⟩ := big_succ k (by omega)
  have hj := fun b hb => brackets_j4 h k hk2 b hb
  simp only [zae.j3]
  rw [if_neg (by decide)]
  by_cases h1 : b0 = 1
  · rw [if_pos h1]; exact hj true (fun _ => .inl h1)
  rw [if_neg h1]
  by_cases h2 : b1.toList = [107]
  · rw [if_pos h2]; exact hj true (fun _ => .inr (.inl h2))
  rw [if_neg h2]
  by_cases h3 : b1.toList = [41]
  · rw [if_pos h3]; exact hj true (fun _ => .inr (.inr (.inl h3)))
  rw [if_neg h3]
  exact hj _ (fun e => .inr (.inr (.inr (by simpa using e))))
theorem brackets_j2 {t : Tr} {F ts : List Tk} {b0 : Int} {b1 : ByteArray} {b2 : Int} (ht : t.ok) (b : Bool) (h : b = false → Case t F ⟨b0, b1, b2⟩ ts) (k : Nat) (hk : 400000000000002 ≤ k) :
    zae.j2 (k + 1) (t.flat 0) F ts 0 b b0 b1 b2 = some true := by
  have hal := PureL.alive_any k (by omega)
  simp only [zae.j2]
  cases b with
  | true => simp only [if_true]; rw [hal]; rfl
  | false =>
    have h := h rfl
    obtain ⟨k, rfl, hk2⟩ := big_succ k (by omega)
    have hl := h.all.len
    rw [List.length_append] at hl
    simp only [Option.bind_some, List.nil_append, List.length_nil]
    rw [if_neg (by decide), if_pos (by omega), if_pos (by omega), h.parse (k + 1) (by omega)]
    simp only [Option.bind_some]
    rw [PureL.nsame_f ht (PureL.plT_ok h.all ht _) (PureL.plT_sim _ t _)]
    simp only [Option.bind_some, if_true]
    rw [bne_self_eq_false]
    exact brackets_j3 h k (by omega)
theorem brackets_j0 {t : Tr} {F : List Tk} {b0 : Int} {b1 : ByteArray} {b2 : Int} (ht : t.ok) (hF : F.length ≤ 30) (hg : PureL.Good (F ++ [⟨b0, b1, b2⟩])) (k : Nat) (hk : 400000000000010 ≤ k) :
    zae.j0 (k + 1) (t.flat 0) F false b0 b1 b2 = some true := by
  simp only [zae.j0]
  rw [if_neg (by decide), PureL.text_tree ht]
  simp only [Option.bind_some, if_true]
  obtain ⟨k, rfl, hk2⟩ := big_succ k (by omega)
  have hal := PureL.alive_any k (by omega)
  simp only [zae.j1]
  rw [ba_size]
  by_cases h390 : (tbytes t false).length ≤ 390
  · rw [decide_eq_false (by omega), if_neg (by decide)]
    have hsz : ((⟨#[40]⟩ : ByteArray) ++ ba (tbytes t false)).size = 1 + (tbytes t false).length := by rw [ByteArray.size_append, ba_size]; rfl
    rw [if_pos (by omega), hsz, if_pos (by omega)]
    have hba : ((⟨#[40]⟩ : ByteArray) ++ ba (tbytes t false)) ++ (⟨#[41]⟩ : ByteArray) = ba (40 :: (tbytes t false ++ [41])) := by
      apply PureL.ba_of
      rw [ByteArray.data_append, ByteArray.data_append, Array.toList_append, Array.toList_append]
      rfl
    have hcs := PureL.tk_small ht.2.1
    obtain ⟨ts, ha, hm, hgt⟩ := PureL.reads_all (PureL.Reads.bracket ((PureL.reads_tree t ht.1).1 [41] (PureL.ends_rp []))) (by simp; omega) (by simp; omega)
    rw [hba, ha k (by omega)]
    simp only [Option.bind_some, if_true]
    obtain ⟨k, rfl, hk3⟩ := big_succ k (by omega)
    refine brackets_j2 ht _ (fun h => ⟨ht, hF, ?_, hg, hgt, hm⟩) k (by omega)
    have := of_decide_eq_false h
    omega
  · rw [decide_eq_true (by omega)]; simp only [if_true]; rw [hal]; rfl
theorem brackets_t (l : List Nd) (F : List Tk) (b0 : Int) (b1 : ByteArray) (b2 : Int) (k : Nat) (hk : 400000000000010 ≤ k) : zae.j0 (k + 1) l F true b0 b1 b2 = some true := by
  simp only [zae.j0]
  rw [if_pos trivial, PureL.alive_any k (by omega)]; rfl
theorem brackets_k (k : Nat) (hk : 400000000000010 ≤ k) (l : List Nd) (hf : ∀ x ∈ l, x.f1 ≤ 9223372036854775807) (F : List Tk) (hz : ∀ x ∈ F, x.f1.size ≤ 140737488351232) (b0 : Int) (b1 : ByteArray) (b2 : Int) (hb : b1.size ≤ 140737488351232) :
    zae.f (k + 1) l F b0 b1 b2 = some true := by
  unfold zae.f zb2.f
  simp only [Option.bind_some]
  split
  · exact brackets_t l F b0 b1 b2 k hk
  · obtain ⟨c, hc, h0⟩ := check_ref l hf (k + 1) (by omega)
    rw [hc]
    simp only [Option.bind_some]
    by_cases hc0 : c = 0
    · obtain ⟨t, ht, rfl⟩ := h0 hc0
      rw [if_pos hc0]
      by_cases h30 : (F.length : Int) > 30
      · rw [if_pos h30]; exact brackets_t _ F b0 b1 b2 k hk
      · rw [if_neg h30]
        simp only [List.nil_append, List.length_nil, List.length_cons]
        rw [if_pos (by omega), if_pos (by omega)]
        obtain ⟨c2, hc2, hg⟩ := PureL.asked_f (F ++ [⟨b0, b1, b2⟩]) (fun x hx => (List.mem_append.1 hx).elim (hz x) (fun hx => by rw [List.mem_singleton.1 hx]; exact hb)) 0 (k + 1) (by omega)
        rw [hc2]
        simp only [Option.bind_some]
        by_cases hc3 : c2 = 0
        · rw [hc3]; exact brackets_j0 ht (by omega) (hg hc3).1 k hk
        · rw [show (c2 != 0) = true by simpa using hc3]; exact brackets_t _ F b0 b1 b2 k hk
    · rw [if_neg hc0]; exact brackets_t l F b0 b1 b2 k hk
theorem ExprsBrackets_walk (A0 : Option Addr) (c0 : Nat) (l0 : List Nd) (hf : ∀ x ∈ l0, x.f1 ≤ 9223372036854775807) (A1 : Option Addr) (c1 : Nat) (l1 : List Tk) (hz : ∀ x ∈ l1, x.f1.size ≤ reachBytes) (b0 : Int) (b1 : ByteArray) (b2 : Int) (hb : b1.size ≤ reachBytes) (w : World) (hc0 : l0.length ≤ c0) (hr0 : Kd.C k43 w A0 l0.length l0) (hc1 : l1.length ≤ c1) (hr1 : Kd.C k33 w A1 l1.length l1) (hT : Tabs w) :
    Calls Tryz.prog 6 #[.slice A0 l0.length c0, .slice A1 l1.length c1, .agg #[.int .u8 b0, .string b1, .int .i64 b2]] w fun e w' => e = .returned (.bool true) ∧ Below w.heap.size w w' :=
  zae.calls (1000000000000000 + 1) A0 c0 l0 A1 c1 l1 b0 b1 b2 true w hr0 hc0 hr1 hc1 hT (brackets_k 1000000000000000 (by decide) l0 hf l1 hz b0 b1 b2 hb)
end Go.Proofs.YtgmmngipnjmkfaaGreatDoor.Pure
end
section
namespace Go.Proofs.YtgmmngipnjmkfaaGreatDoor.Pure
open Go.ChangeShapes Go.WideShapes Go.Deep Go.RowKit Go.Proofs.YtgmmngipnjmkfaaGreatDoor.Q Go.Proofs.YtgmmngipnjmkfaaGreatDoorW.PrintWords
set_option maxRecDepth 100000 in
theorem open_nodes {H : Type} {enc : TypeId × Value → H} {w : World} {b : Nat} {v : Value} {d : DataW H} {p : List MemPlace}
    (hv : Value.okWide Tryz.prog w .any b 29 v) (h : DataW.Trod enc Tryz.prog w 0 (fun _ => true) true 29 v d p) :
    ∃ (A : Option Addr) (c : Nat) (l : List S43), v = .slice A l.length c ∧ l.length ≤ c ∧ Kd.C k43 w A l.length l ∧ ∀ x ∈ l, x.f1 ≤ 9223372036854775807 := by
  obtain ⟨a, len, cap, rfl⟩ := okWide_slice Tryz.underlying29 hv
  obtain ⟨fuel, hf⟩ := h
  rcases open_slice Tryz.underlying29 hf with ⟨h0, _⟩ | ⟨ad, len', cap', m, n, D, Pl, h0, _, hl, hm, hmm, _, hi⟩
  · have h0 : Value.slice a len cap = .slice none 0 0 := List.head_eq_of_cons_eq (show [Value.slice a len cap] = [.slice none 0 0] from h0)
    injection h0 with h1 h2 h3
    subst h1; subst h2; subst h3
    exact ⟨none, 0, [], rfl, Nat.le_refl _, Kd.C_nil _ w, fun x hx => by cases hx⟩
  · have h0 : Value.slice a len cap = .slice (some ad) len' cap' := List.head_eq_of_cons_eq (show [Value.slice a len cap] = [.slice (some ad) len' cap'] from h0)
    injection h0 with h1 h2 h3
    subst h1; subst h2; subst h3
    have hC : Tryz.prog.cellsOf 43 = 5 := by kernel_rfl
    have hall : ∀ i, i < len → ∃ x : S43, (w.cell? (ad.add (i * 5 + 0)) = some (.int .u8 x.f0) ∧ w.cell? (ad.add (i * 5 + 1)) = some (.int .i64 x.f1) ∧ w.cell? (ad.add (i * 5 + 2)) = some (.int .i64 x.f2) ∧ w.cell? (ad.add (i * 5 + 3)) = some (.int .i64 x.f3) ∧ w.cell? (ad.add (i * 5 + 4)) = some (.int .i64 x.f4)) ∧ x.f1 ≤ 9223372036854775807 := by
      intro i hil
      obtain ⟨cs, hc, ht⟩ := hi i (by rw [hmm]; simp only [if_true]; omega)
      rw [hC] at hc
      obtain ⟨ys, n', _, _, _, hyl, hfl⟩ := DataW.trod_struct Tryz.underlying43 ht
      obtain ⟨_, hcl, hat⟩ := World.cells?_some hc
      match cs, hcl, ys, hyl with
      | [c0, c1, c2, c3, c4], _, [y0, y1, y2, y3, y4], _ =>
        have g0 := hfl 0 _ rfl
        have g1 := hfl 1 _ rfl
        have g2 := hfl 2 _ rfl
        have g3 := hfl 3 _ rfl
        have g4 := hfl 4 _ rfl
        obtain ⟨x0, e0, _, _⟩ := DataW.trod_int Tryz.underlying5 (g0 : _ = some y0)
        obtain ⟨x1, e1, _, b1⟩ := DataW.trod_int Tryz.underlying2 (g1 : _ = some y1)
        obtain ⟨x2, e2, _, _⟩ := DataW.trod_int Tryz.underlying3 (g2 : _ = some y2)
        obtain ⟨x3, e3, _, _⟩ := DataW.trod_int Tryz.underlying3 (g3 : _ = some y3)
        obtain ⟨x4, e4, _, _⟩ := DataW.trod_int Tryz.underlying3 (g4 : _ = some y4)
        have u0 : c0 = .int .u8 x0 := List.head_eq_of_cons_eq (show [c0] = [.int .u8 x0] from e0)
        have u1 : c1 = .int .i64 x1 := List.head_eq_of_cons_eq (show [c1] = [.int .i64 x1] from e1)
        have u2 : c2 = .int .i64 x2 := List.head_eq_of_cons_eq (show [c2] = [.int .i64 x2] from e2)
        have u3 : c3 = .int .i64 x3 := List.head_eq_of_cons_eq (show [c3] = [.int .i64 x3] from e3)
        have u4 : c4 = .int .i64 x4 := List.head_eq_of_cons_eq (show [c4] = [.int .i64 x4] from e4)
        clear e0 e1 e2 e3 e4 g0 g1 g2 g3 g4 hfl ht
        subst u0; subst u1; subst u2; subst u3; subst u4
        have a0 := hat 0 (by omega); have a1 := hat 1 (by omega); have a2 := hat 2 (by omega); have a3 := hat 3 (by omega); have a4 := hat 4 (by omega)
        rw [Go.Deep.add_add] at a0 a1 a2 a3 a4
        have b2 : x1 ≤ 9223372036854775807 := of_decide_eq_true (Bool.and_eq_true_iff.1 (show (decide (_ ≤ x1) && decide (x1 ≤ _)) = true from b1)).2
        exact ⟨⟨x0, x1, x2, x3, x4⟩, ⟨a0, a1, a2, a3, a4⟩, b2⟩
    have hX : ∃ X : Nat → S43, ∀ i, i < len → (w.cell? (ad.add (i * 5 + 0)) = some (.int .u8 (X i).f0) ∧ w.cell? (ad.add (i * 5 + 1)) = some (.int .i64 (X i).f1) ∧ w.cell? (ad.add (i * 5 + 2)) = some (.int .i64 (X i).f2) ∧ w.cell? (ad.add (i * 5 + 3)) = some (.int .i64 (X i).f3) ∧ w.cell? (ad.add (i * 5 + 4)) = some (.int .i64 (X i).f4)) ∧ (X i).f1 ≤ 9223372036854775807 :=
      ⟨fun i => if hh : i < len then Classical.choose (hall i hh) else z43, fun i hh => by simp only [dif_pos hh]; exact Classical.choose_spec (hall i hh)⟩
    obtain ⟨X, hX⟩ := hX
    have hlen : ((List.range len).map X).length = len := by simp
    refine ⟨some ad, cap, (List.range len).map X, by rw [hlen], by rw [hlen]; exact hl, ?_, fun x hx => ?_⟩
    · rw [hlen]
      refine ⟨hlen, by unfold maxLen at hm; omega, fun _ => ⟨ad, rfl, fun j x hj => ?_⟩⟩
      have hjl : j < len := by
        rcases Nat.lt_or_ge j len with q | q
        · exact q
        · rw [List.getElem?_eq_none (by rw [hlen]; exact q)] at hj; cases hj
      have hxe : x = X j := by
        rw [List.getElem?_map, List.getElem?_range hjl] at hj
        exact (Option.some.inj hj).symm
      subst hxe
      obtain ⟨⟨q0, q1, q2, q3, q4⟩, _⟩ := hX j hjl
      refine ⟨_, rfl, k43_mk w (X j), fun i u hu => ?_⟩
      show w.cell? (ad.add (j * 5 + i)) = some u
      match i, hu with
      | 0, hu => rw [q0]; exact hu
      | 1, hu => rw [q1]; exact hu
      | 2, hu => rw [q2]; exact hu
      | 3, hu => rw [q3]; exact hu
      | 4, hu => rw [q4]; exact hu
    · obtain ⟨i, hi', rfl⟩ := List.mem_map.1 hx
      exact (hX i (List.mem_range.1 hi')).2
end Go.Proofs.YtgmmngipnjmkfaaGreatDoor.Pure
end
section
namespace Go.Proofs.YtgmmngipnjmkfaaGreatDoor.Pure
open Go.ChangeShapes Go.WideShapes Go.Deep Go.RowKit Go.Proofs.YtgmmngipnjmkfaaGreatDoor.Q Go.Proofs.YtgmmngipnjmkfaaGreatDoor.Hand Go.Proofs.YtgmmngipnjmkfaaGreatDoorW.PrintWords Go.Lib
theorem weights_mem {H : Type} {P : Program} {e : TypeId} {d : DataW H} : ∀ {l : List (DataW H)}, d ∈ l → ∀ n ∈ d.weights P e, n ∈ DataW.weightsAll P e l
  | x :: r, hd, n, hn => by
    simp only [DataW.weightsAll, List.mem_append]
    rcases List.mem_cons.1 hd with rfl | h
    · exact Or.inl hn
    · exact Or.inr (weights_mem h n hn)
set_option maxRecDepth 100000 in
theorem open_tokensZ {H : Type} {enc : TypeId × Value → H} {w : World} {b : Nat} {v : Value} {d : DataW H} {p : List MemPlace}
    (hv : Value.okWide Tryz.prog w .any b 25 v) (hz : ∀ n ∈ DataW.weights Tryz.prog 25 d, n ≤ reachBytes) (h : DataW.Trod enc Tryz.prog w 0 (fun _ => true) true 25 v d p) :
    ∃ (A : Option Addr) (c : Nat) (l : List S33), v = .slice A l.length c ∧ l.length ≤ c ∧ Kd.C k33 w A l.length l ∧ ∀ x ∈ l, x.f1.size ≤ reachBytes := by
  obtain ⟨a, len, cap, rfl⟩ := okWide_slice Tryz.underlying25 hv
  obtain ⟨fuel, hf⟩ := h
  rcases open_slice Tryz.underlying25 hf with ⟨h0, _⟩ | ⟨ad, len', cap', m, n, D, Pl, h0, _, hl, hm, hmm, hd, hi⟩
  · have h0 : Value.slice a len cap = .slice none 0 0 := List.head_eq_of_cons_eq (show [Value.slice a len cap] = [.slice none 0 0] from h0)
    injection h0 with h1 h2 h3
    subst h1; subst h2; subst h3
    exact ⟨none, 0, [], rfl, Nat.le_refl _, Kd.C_nil _ w, fun x hx => by cases hx⟩
  · have h0 : Value.slice a len cap = .slice (some ad) len' cap' := List.head_eq_of_cons_eq (show [Value.slice a len cap] = [.slice (some ad) len' cap'] from h0)
    injection h0 with h1 h2 h3
    subst h1; subst h2; subst h3
    have hC : Tryz.prog.cellsOf 33 = 3 := by kernel_rfl
    have hd1 := (Prod.mk.inj hd).1
    subst hd1
    have hall : ∀ i, i < len → ∃ x : S33, (w.cell? (ad.add (i * 3 + 0)) = some (.int .u8 x.f0) ∧ w.cell? (ad.add (i * 3 + 1)) = some (.string x.f1) ∧ w.cell? (ad.add (i * 3 + 2)) = some (.int .i64 x.f2)) ∧ x.f1.size ≤ reachBytes := by
      intro i hil
      obtain ⟨cs, hc, ht⟩ := hi i (by rw [hmm]; simp only [if_true]; omega)
      rw [hC] at hc
      obtain ⟨ys, n', _, hDi, _, hyl, hfl⟩ := DataW.trod_struct Tryz.underlying33 ht
      have hDi1 := (Prod.mk.inj hDi).1
      have hzi : ∀ q ∈ DataW.weights Tryz.prog 33 (D i), q ≤ reachBytes := fun q hq => hz q (by
        simp only [DataW.weights, Tryz.underlying25, List.mem_cons, List.mem_append]
        exact .inr (.inl (weights_mem (List.mem_map_of_mem (List.mem_range.2 hil)) q hq)))
      obtain ⟨_, hcl, hat⟩ := World.cells?_some hc
      match cs, hcl, ys, hyl with
      | [c0, c1, c2], _, [y0, y1, y2], _ =>
        have g0 := hfl 0 _ rfl
        have g1 := hfl 1 _ rfl
        have g2 := hfl 2 _ rfl
        obtain ⟨x0, e0, _, _⟩ := DataW.trod_int Tryz.underlying5 (g0 : _ = some y0)
        obtain ⟨x1, e1, f1, _⟩ := DataW.trod_string Tryz.underlying9 (g1 : _ = some y1)
        obtain ⟨x2, e2, _, _⟩ := DataW.trod_int Tryz.underlying3 (g2 : _ = some y2)
        have u0 : c0 = .int .u8 x0 := List.head_eq_of_cons_eq (show [c0] = [.int .u8 x0] from e0)
        have u1 : c1 = .string x1 := List.head_eq_of_cons_eq (show [c1] = [.string x1] from e1)
        have u2 : c2 = .int .i64 x2 := List.head_eq_of_cons_eq (show [c2] = [.int .i64 x2] from e2)
        have hs1 : x1.size ≤ reachBytes := by
          rw [← zbs]
          refine hzi _ ?_
          rw [hDi1, f1]
          simp [DataW.weights, DataW.weightsEach, Tryz.underlying33]
        clear e0 e1 e2 f1 g0 g1 g2 hfl ht
        subst u0; subst u1; subst u2
        have a0 := hat 0 (by omega); have a1 := hat 1 (by omega); have a2 := hat 2 (by omega)
        rw [Go.Deep.add_add] at a0 a1 a2
        exact ⟨⟨x0, x1, x2⟩, ⟨a0, a1, a2⟩, hs1⟩
    have hX : ∃ X : Nat → S33, ∀ i, i < len → (w.cell? (ad.add (i * 3 + 0)) = some (.int .u8 (X i).f0) ∧ w.cell? (ad.add (i * 3 + 1)) = some (.string (X i).f1) ∧ w.cell? (ad.add (i * 3 + 2)) = some (.int .i64 (X i).f2)) ∧ (X i).f1.size ≤ reachBytes :=
      ⟨fun i => if hh : i < len then Classical.choose (hall i hh) else z33, fun i hh => by simp only [dif_pos hh]; exact Classical.choose_spec (hall i hh)⟩
    obtain ⟨X, hX⟩ := hX
    have hlen : ((List.range len).map X).length = len := by simp
    refine ⟨some ad, cap, (List.range len).map X, by rw [hlen], by rw [hlen]; exact hl, ?_, fun x hx => by
      obtain ⟨i, hi', rfl⟩ := List.mem_map.1 hx
      exact (hX i (List.mem_range.1 hi')).2⟩
    rw [hlen]
    refine ⟨hlen, by unfold maxLen at hm; omega, fun _ => ⟨ad, rfl, fun j x hj => ?_⟩⟩
    have hjl : j < len := by
      rcases Nat.lt_or_ge j len with q | q
      · exact q
      · rw [List.getElem?_eq_none (by rw [hlen]; exact q)] at hj; cases hj
    have hxe : x = X j := by
      rw [List.getElem?_map, List.getElem?_range hjl] at hj
      exact (Option.some.inj hj).symm
    subst hxe
    obtain ⟨⟨q0, q1, q2⟩, _⟩ := hX j hjl
    refine ⟨_, rfl, k33_mk w (X j), fun i u hu => ?_⟩
    show w.cell? (ad.add (j * 3 + i)) = some u
    match i, hu with
    | 0, hu => rw [q0]; exact hu
    | 1, hu => rw [q1]; exact hu
    | 2, hu => rw [q2]; exact hu
set_option maxRecDepth 100000 in
theorem open_token {H : Type} {enc : TypeId × Value → H} {w : World} {b : Nat} {v : Value} {d : DataW H} {p : List MemPlace}
    (hv : Value.okWide Tryz.prog w .any b 33 v) (hz : ∀ n ∈ DataW.weights Tryz.prog 33 d, n ≤ reachBytes) (h : DataW.Trod enc Tryz.prog w 0 (fun _ => true) true 33 v d p) :
    ∃ (x0 : Int) (x1 : ByteArray) (x2 : Int), v = .agg #[.int .u8 x0, .string x1, .int .i64 x2] ∧ x1.size ≤ reachBytes := by
  obtain ⟨v0, v1, v2, y0, y1, y2, n, rfl, rfl, _, h0, h1, h2⟩ := Go.Joins.open_agg3 Tryz.underlying33 (by kernel_rfl) (by kernel_rfl) hv h
  obtain ⟨x0, e0, _, _⟩ := DataW.trod_int Tryz.underlying5 h0
  obtain ⟨x1, e1, f1, _⟩ := DataW.trod_string Tryz.underlying9 h1
  obtain ⟨x2, e2, _, _⟩ := DataW.trod_int Tryz.underlying3 h2
  have u0 : v0 = .int .u8 x0 := List.head_eq_of_cons_eq (show [v0] = [.int .u8 x0] from e0)
  have u1 : v1 = .string x1 := List.head_eq_of_cons_eq (show [v1] = [.string x1] from e1)
  have u2 : v2 = .int .i64 x2 := List.head_eq_of_cons_eq (show [v2] = [.int .i64 x2] from e2)
  subst u0; subst u1; subst u2
  refine ⟨x0, x1, x2, rfl, ?_⟩
  rw [← zbs]
  refine hz _ ?_
  rw [f1]
  simp [DataW.weights, DataW.weightsEach, Tryz.underlying33]
end Go.Proofs.YtgmmngipnjmkfaaGreatDoor.Pure
end
section
namespace Go.Proofs.YtgmmngipnjmkfaaGreatDoor.exprsBrackets
open Go.ChangeShapes Go.WideShapes Go.ChangeAt Go.RowKit
open Go.ChangeMaps (open_string shut_string)
set_option linter.unusedVariables false
theorem own : ownKnob Tryz.prog.godebug = none := by kernel_rfl
theorem laidOut : laidOutB Tryz.prog = true := by kernel_rfl
set_option maxRecDepth 100000 in
theorem contract (H : Type) (enc : TypeId × Value → H) (W : World) (base : Nat) (args : Array Value) (ds gs : List (DataW H)) (before : List MemPlace)
    (hval0 : ∀ (j : Nat) t v, Tryz.f6.params[j]? = some t → args[j]? = some v → Value.okWide Tryz.prog W .any base t v)
    (hW : DataW.Whole enc Tryz.prog Tryz.f6.params.toList Rows.exprsBracketsSpec.vars false W args.toList ds gs before)
    (hsz : (DataW.weightsEach Tryz.prog (Tryz.f6.params.toList ++ Rows.exprsBracketsSpec.plain.varTypes Tryz.prog) (ds ++ gs)).all (· ≤ reachBytes) = true)
    (hL : laidMetH Tryz.prog Rows.exprsBracketsRow.laid W) :
    Calls Tryz.prog 6 args W fun e W' => ∃ v, e = .returned v ∧ Rows.exprsBracketsSpec.post enc Tryz.prog Tryz.f6 false true false false W args v W' := by
  have hT : Hand.Tabs W := Hand.tabs_of hL
  have hval : ∀ (j : Nat) t v, Tryz.f6.params[j]? = some t → args[j]? = some v → Value.okWide Tryz.prog W .any base t v := hval0
  have hW' := hW
  obtain ⟨p, q, hA0, hV, rfl, hfz, hnd⟩ := hW
  have hA : DataW.TrodAll enc Tryz.prog W 0 (fun _ => true) true Tryz.f6.params.toList args.toList ds p := hA0
  rw [Tryz.params6] at hA hval hsz
  obtain ⟨v0, vs0, d0, ds0, p0, q0, hargs, rfl, rfl, h0, r0⟩ := trodAll_cons hA
  obtain ⟨v1, vs1, d1, ds1, p1, q1, rfl, rfl, rfl, h1, r1⟩ := trodAll_cons r0
  obtain ⟨v2, vs2, d2, ds2, p2, q2, rfl, rfl, rfl, h2, r2⟩ := trodAll_cons r1
  obtain ⟨rfl, rfl, rfl⟩ := trodAll_nil r2
  obtain rfl : args = #[v0, v1, v2] := by cases args; simp_all
  obtain ⟨rfl, rfl⟩ := trodVars_none hV
  have k0 := h0
  have lt0 : ∀ x ∈ p0, x.block < W.heap.size := by obtain ⟨m, hm⟩ := k0; exact DataW.trod_lt m _ _ _ hm
  obtain ⟨A0, c0, l0, rfl, hc0, hr0, f0⟩ := Pure.open_nodes (hval 0 29 v0 rfl rfl) h0
  have z1 : ∀ n ∈ DataW.weights Tryz.prog 25 d1, n ≤ reachBytes := fun n hn => of_decide_eq_true (List.all_eq_true.1 hsz n (DataW.weights_mem_each (j := 1) rfl rfl n hn))
  have k1 := h1
  have lt1 : ∀ x ∈ p1, x.block < W.heap.size := by obtain ⟨m, hm⟩ := k1; exact DataW.trod_lt m _ _ _ hm
  obtain ⟨A1, c1, l1, rfl, hc1, hr1, f1⟩ := Pure.open_tokensZ (hval 1 25 v1 rfl rfl) z1 h1
  have z2 : ∀ n ∈ DataW.weights Tryz.prog 33 d2, n ≤ reachBytes := fun n hn => of_decide_eq_true (List.all_eq_true.1 hsz n (DataW.weights_mem_each (j := 2) rfl rfl n hn))
  have k2 := h2
  have lt2 : ∀ x ∈ p2, x.block < W.heap.size := by obtain ⟨m, hm⟩ := k2; exact DataW.trod_lt m _ _ _ hm
  obtain ⟨x2, s2, y2, rfl, e2⟩ := Pure.open_token (hval 2 33 v2 rfl rfl) z2 h2
  clear hA0 hval0 hsz
  refine (Pure.ExprsBrackets_walk A0 c0 l0 f0 A1 c1 l1 f1 x2 s2 y2 e2 W hc0 hr0 hc1 hr1 hT).mono fun e W' ⟨he, bel⟩ => ?_
  subst he
  exact ⟨_, rfl, _, _, _, [], _, [], hW', trodAll_mk1 (shut_bool Tryz.underlying4 _), (trodAll_cons_mk (Below.trod laidOut (by kernel_rfl) (of_decide_eq_true (by kernel_rfl)) k0 bel lt0) (trodAll_cons_mk (Below.trod laidOut (by kernel_rfl) (of_decide_eq_true (by kernel_rfl)) k1 bel lt1) (trodAll_cons_mk (Below.trod laidOut (by kernel_rfl) (of_decide_eq_true (by kernel_rfl)) k2 bel lt2) trodAll_mk0))), rfl, bel.frame _, fun h => by cases h⟩
theorem reads (os : Os) {H : Type} (enc : TypeId × Value → H) : ∃ places, DataW.whole enc Tryz.prog ((Hand.laidWorld os).forCall (fun _ _ => 0) ⟨#[], #[.slice none 0 0, .slice none 0 0, .agg #[.int .u8 0, .string ⟨#[]⟩, .int .i64 0]], []⟩).memory Tryz.f6.params.toList Rows.exprsBracketsSpec.vars false (#[.slice none 0 0, .slice none 0 0, .agg #[.int .u8 0, .string ⟨#[]⟩, .int .i64 0]] : Array Value).toList 8 = some ([.nil, .nil, .agg [.lit (.int .u8 0), .lit (.string []), .lit (.int .i64 0)]], [], places) :=
  ⟨[], by kernel_rfl⟩
set_option maxRecDepth 100000 in
theorem lifted (os : Os) (started : os.Started) (H : Type) (enc : TypeId × Value → H) (F : Stop.Interp) :
    ReturnsInHanded {} Tryz.checked os 6 .any ((OpenSpec.ofChange Rows.exprsBracketsSpec).preRow enc Tryz.prog Tryz.f6 Rows.exprsBracketsRow.domain false Rows.exprsBracketsRow.laid) (((OpenSpec.ofChange Rows.exprsBracketsSpec).at F).post enc Tryz.prog Tryz.f6 false true false false) := by
  obtain ⟨places, hx⟩ := reads os enc
  refine returnsInHanded_of_row (C := Tryz.checked) (s := OpenSpec.ofChange Rows.exprsBracketsSpec) own started (by kernel_rfl) Tryz.func6
    (witness_row_atRef (enc := enc) (C := Tryz.checked) false (Hand.laidWorld os) #[.slice none 0 0, .slice none 0 0, .agg #[.int .u8 0, .string ⟨#[]⟩, .int .i64 0]] rfl (by kernel_rfl) (by kernel_rfl) (by kernel_rfl)
      (OpenSpec.preRow_of_cond 8 hx (by kernel_rfl) (fun k hk => by cases hk) (by kernel_rfl) (Hand.laid_met os _))) ?_
  intro W base args ds gs before hval hW _ _ hsz hL _ _
  exact contract H enc W base args ds gs before hval hW hsz hL
theorem said : Rows.ExprsBracketsSaid :=
  OpenClaim.holds_of_cond 6 Tryz.f6 rfl rfl rfl rfl rfl rfl rfl ⟨rfl, rfl, rfl, rfl, rfl⟩ rfl rfl rfl rfl rfl (by kernel_rfl) Tryz.func6 (by kernel_rfl)
    (of_decide_eq_true (by kernel_rfl)) (by unfold Func.isWrapper; first | (rw [if_pos (by decide +kernel)]; kernel_rfl) | (rw [if_neg (by decide +kernel)]; exact ⟨rfl, rfl⟩))
    (fun os started H enc _ F => by rw [OpenClaim.pre_eq_preRow]; exact lifted os started H enc F)
theorem plain (f : FuncId) (fn : Func) (hf : Tryz.pinned.checked.prog.funcNamed "tailwater/tailwaterlaw05.ExprsBrackets" = some f) (hfn : Tryz.pinned.checked.prog.funcs[f]? = some fn) :
    true = Tryz.pinned.checked.prog.looks [] ∧ ∀ (j : Nat) t, fn.params[j]? = some t → Tryz.pinned.checked.prog.wantsStandIn t = false := by
  obtain rfl : f = 6 := Option.some.inj ((show Tryz.prog.funcNamed "tailwater/tailwaterlaw05.ExprsBrackets" = some 6 by kernel_rfl).symm.trans hf) |>.symm
  obtain rfl : fn = Tryz.f6 := (Option.some.inj (Tryz.func6.symm.trans hfn)).symm
  refine ⟨by kernel_rfl, fun j t ht => ?_⟩
  rw [Tryz.params6] at ht
  have hm := Array.mem_of_getElem? ht
  have hm2 : t = 29 ∨ t = 25 ∨ t = 33 := by simpa using hm
  rcases hm2 with rfl | rfl | rfl
  · exact (show Tryz.prog.wantsStandIn 29 = false by kernel_rfl)
  · exact (show Tryz.prog.wantsStandIn 25 = false by kernel_rfl)
  · exact (show Tryz.prog.wantsStandIn 33 = false by kernel_rfl)
theorem card : Rows.ExprsBracketsCardSaid :=
  Claim7.holds_tied_plain_at .later [] _ _ _ _ said (fun _ h => by cases h) (by kernel_rfl) (fun _ h => by cases h) exprsBrackets_row_tie rfl ⟨rfl, rfl⟩ (by kernel_rfl) rfl plain (by kernel_rfl)
#print axioms card
end Go.Proofs.YtgmmngipnjmkfaaGreatDoor.exprsBrackets
namespace Go.Proofs.YtgmmngipnjmkfaaGreatDoor
theorem exprsBrackets_holds : Rows.ExprsBracketsCardSaid := exprsBrackets.card
end Go.Proofs.YtgmmngipnjmkfaaGreatDoor
end
