/- chars.Word: for every text it tells whether it is one of the 29 words (the table of blanks as laid). -/
import Derived.Test.YtdccajohjknnbaaDoorHandE
namespace Go.Proofs.YtdccajohjknnbaaDoor.Hand
open Go.RowKit Go.Shelf
attribute [local go_sem] Oper.semAt_some
def words0 : List ByteArray := [⟨#[115, 101, 108, 101, 99, 116]⟩, ⟨#[102, 114, 111, 109]⟩, ⟨#[119, 104, 101, 114, 101]⟩, ⟨#[119, 105, 110, 100, 111, 119]⟩, ⟨#[98, 121]⟩, ⟨#[107, 101, 121]⟩, ⟨#[108, 97, 116, 101]⟩, ⟨#[100, 114, 111, 112]⟩, ⟨#[115, 105, 100, 101]⟩]
theorem flds0 : flds grp0 0 none = words0 := by kernel_rfl
def words1 : List ByteArray := [⟨#[99, 111, 117, 110, 116]⟩, ⟨#[115, 117, 109]⟩, ⟨#[109, 105, 110]⟩, ⟨#[109, 97, 120]⟩, ⟨#[97, 110, 100]⟩, ⟨#[111, 114]⟩, ⟨#[110, 111, 116]⟩]
theorem flds1 : flds grp1 0 none = words1 := by kernel_rfl
def words2 : List ByteArray := [⟨#[117, 110, 105, 111, 110]⟩, ⟨#[106, 111, 105, 110]⟩, ⟨#[116, 117, 109, 98, 108, 101]⟩, ⟨#[115, 108, 105, 100, 101]⟩, ⟨#[101, 118, 101, 114, 121]⟩, ⟨#[115, 101, 115, 115, 105, 111, 110]⟩]
theorem flds2 : flds grp2 0 none = words2 := by kernel_rfl
def words3 : List ByteArray := [⟨#[97]⟩, ⟨#[98]⟩, ⟨#[99]⟩, ⟨#[100]⟩, ⟨#[107]⟩, ⟨#[116]⟩, ⟨#[118]⟩]
theorem flds3 : flds grp3 0 none = words3 := by kernel_rfl
def wordList : List ByteArray := words0 ++ (words1 ++ (words2 ++ words3))
def isWord (s : ByteArray) : Bool := wordList.any fun x => x.data.toList == s.data.toList
theorem heap_last (W : World) (s : ByteArray) : (W.alloc (.cells #[.string s] 9)).cell? ⟨W.heap.size, 0, none⟩ = some (.string s) := (Boxed.new W 9 (.string s)).cell
theorem isWord_iff {s : ByteArray} : isWord s = true ↔ s ∈ wordList := by
  unfold isWord
  rw [List.any_eq_true]
  constructor
  · rintro ⟨x, hx, h⟩
    rw [beq_iff_eq] at h
    have e : x = s := by cases x; cases s; simpa using h
    exact e ▸ hx
  · exact fun h => ⟨s, h, by simp⟩
theorem word_yes {s : ByteArray} (h : s ∈ words0 ∨ s ∈ words1 ∨ s ∈ words2 ∨ s ∈ words3) : isWord s = true := by
  rw [isWord_iff]; unfold wordList; simp only [List.mem_append]; exact h
theorem word_no {s : ByteArray} (h0 : s ∉ words0) (h1 : s ∉ words1) (h2 : s ∉ words2) (h3 : s ∉ words3) : isWord s = false := by
  rw [Bool.eq_false_iff, ne_eq, isWord_iff]; unfold wordList; simp only [List.mem_append, not_or]; exact ⟨h0, h1, h2, h3⟩
set_option maxHeartbeats 8000000 in
set_option maxRecDepth 100000 in
theorem word_any (s : ByteArray) (w : World) (hT : Spaces w) (hG : 0 < w.heap.size) :
    Calls Tryd.prog 32 #[.string s] w fun e w' => e = .returned (.bool (isWord s)) ∧ Below w.heap.size w w' := by
  refine (callsIn_wide (n := 5)).1 (callsIn_of_wp_marks Tryd.func32 rfl trivial (wpIn_wide.2 ?_) rfl)
  simp only [Tryd.ntmps32, List.size_toArray, List.length_cons, List.length_nil, Nat.reduceAdd, Nat.reduceSub, Array.replicate_succ, Array.replicate_zero, List.push_toArray, List.append_toArray, List.nil_append, List.cons_append]
  have i0 : ∀ w, (Instr.index 76 (.agg #[.string ⟨#[115, 101, 108, 101, 99, 116, 32, 102, 114, 111, 109, 32, 119, 104, 101, 114, 101, 32, 119, 105, 110, 100, 111, 119, 32, 98, 121, 32, 107, 101, 121, 32, 108, 97, 116, 101, 32, 100, 114, 111, 112, 32, 115, 105, 100, 101]⟩, .string ⟨#[99, 111, 117, 110, 116, 32, 115, 117, 109, 32, 109, 105, 110, 32, 109, 97, 120, 32, 97, 110, 100, 32, 111, 114, 32, 110, 111, 116]⟩, .string ⟨#[117, 110, 105, 111, 110, 32, 106, 111, 105, 110, 32, 116, 117, 109, 98, 108, 101, 32, 115, 108, 105, 100, 101, 32, 101, 118, 101, 114, 121, 32, 115, 101, 115, 115, 105, 111, 110]⟩, .string ⟨#[97, 32, 98, 32, 99, 32, 100, 32, 107, 32, 116, 32, 118]⟩]) (.int .i64 0)).run Tryd.prog w = .ok (.string grp0) w := fun _ => by kernel_rfl
  have i1 : ∀ w, (Instr.index 76 (.agg #[.string ⟨#[115, 101, 108, 101, 99, 116, 32, 102, 114, 111, 109, 32, 119, 104, 101, 114, 101, 32, 119, 105, 110, 100, 111, 119, 32, 98, 121, 32, 107, 101, 121, 32, 108, 97, 116, 101, 32, 100, 114, 111, 112, 32, 115, 105, 100, 101]⟩, .string ⟨#[99, 111, 117, 110, 116, 32, 115, 117, 109, 32, 109, 105, 110, 32, 109, 97, 120, 32, 97, 110, 100, 32, 111, 114, 32, 110, 111, 116]⟩, .string ⟨#[117, 110, 105, 111, 110, 32, 106, 111, 105, 110, 32, 116, 117, 109, 98, 108, 101, 32, 115, 108, 105, 100, 101, 32, 101, 118, 101, 114, 121, 32, 115, 101, 115, 115, 105, 111, 110]⟩, .string ⟨#[97, 32, 98, 32, 99, 32, 100, 32, 107, 32, 116, 32, 118]⟩]) (.int .i64 1)).run Tryd.prog w = .ok (.string grp1) w := fun _ => by kernel_rfl
  have i2 : ∀ w, (Instr.index 76 (.agg #[.string ⟨#[115, 101, 108, 101, 99, 116, 32, 102, 114, 111, 109, 32, 119, 104, 101, 114, 101, 32, 119, 105, 110, 100, 111, 119, 32, 98, 121, 32, 107, 101, 121, 32, 108, 97, 116, 101, 32, 100, 114, 111, 112, 32, 115, 105, 100, 101]⟩, .string ⟨#[99, 111, 117, 110, 116, 32, 115, 117, 109, 32, 109, 105, 110, 32, 109, 97, 120, 32, 97, 110, 100, 32, 111, 114, 32, 110, 111, 116]⟩, .string ⟨#[117, 110, 105, 111, 110, 32, 106, 111, 105, 110, 32, 116, 117, 109, 98, 108, 101, 32, 115, 108, 105, 100, 101, 32, 101, 118, 101, 114, 121, 32, 115, 101, 115, 115, 105, 111, 110]⟩, .string ⟨#[97, 32, 98, 32, 99, 32, 100, 32, 107, 32, 116, 32, 118]⟩]) (.int .i64 2)).run Tryd.prog w = .ok (.string grp2) w := fun _ => by kernel_rfl
  have i3 : ∀ w, (Instr.index 76 (.agg #[.string ⟨#[115, 101, 108, 101, 99, 116, 32, 102, 114, 111, 109, 32, 119, 104, 101, 114, 101, 32, 119, 105, 110, 100, 111, 119, 32, 98, 121, 32, 107, 101, 121, 32, 108, 97, 116, 101, 32, 100, 114, 111, 112, 32, 115, 105, 100, 101]⟩, .string ⟨#[99, 111, 117, 110, 116, 32, 115, 117, 109, 32, 109, 105, 110, 32, 109, 97, 120, 32, 97, 110, 100, 32, 111, 114, 32, 110, 111, 116]⟩, .string ⟨#[117, 110, 105, 111, 110, 32, 106, 111, 105, 110, 32, 116, 117, 109, 98, 108, 101, 32, 115, 108, 105, 100, 101, 32, 101, 118, 101, 114, 121, 32, 115, 101, 115, 115, 105, 111, 110]⟩, .string ⟨#[97, 32, 98, 32, 99, 32, 100, 32, 107, 32, 116, 32, 118]⟩]) (.int .i64 3)).run Tryd.prog w = .ok (.string grp3) w := fun _ => by kernel_rfl
  have hTW : ∀ W, Below w.heap.size w W → Spaces W := fun W h => hT.below h hG
  have HT := Lib.hid hTW
  clear hTW hT
  have hres : ∀ (b : Bool) (ts : Array Value), ts[2]? = some (.bool b) → ∀ W, (results Tryd.f32 ts).run Tryd.prog W = .ok (.bool b) W := by
    intro b ts h W
    obtain ⟨hlt, he⟩ := Array.getElem?_eq_some_iff.1 h
    exact results_tmp rfl _ _ _ |>.trans (by simp only [Array.getD]; rw [dif_pos hlt]; exact congrArg (fun v => Result.ok v W) he)
  go_wp2_with fail
  go_step3
  go_wp2_with fail
  go_step3
  go_wp2_with fail
  have S0 : St s w false [] ((w.alloc (.cells #[.string s] 9)).alloc (.cells #[.bool false] 4)) := by
    have b1 := Boxed.new w 9 (.string s)
    have b2 := Boxed.new (w.alloc (.cells #[.string s] 9)) 4 (.bool false)
    rw [World.size_alloc] at b2
    exact ⟨(b1.alloc _).cell, b2.cell, b2.frozen, ((Below.refl _ w).alloc (Nat.le_refl _) _).alloc (by simp) _, ⟨by simp, by simp, by simp⟩⟩
  refine wp_loop_rounds 5 ?_
  rw [rounds_succ]
  go_wp2_with fail
  refine (callsIn_wide.1 (fieldsSeq_in Fence.wide 5 trivial rfl grp0 _)).mono ?_
  rintro e w' ⟨rfl, rfl⟩
  go_wp2_with fail
  have S0' := S0.more (.cells #[.string grp0] 9)
  refine group_step s grp0 w _ (w.heap.size + 1 + 1) (by decide) asc0 (by simp) hG (by rw [show w.heap.size + 1 + 1 = ((w.alloc (.cells #[.string s] 9)).alloc (.cells #[.bool false] 4)).heap.size by simp]; exact heap_last _ _) (HT.out _ S0'.bel) [] S0' _ _ _ _ _ _ _ _ _ _ _ _ _ _ _ _ _ ?done0 ?stop0
  case stop0 =>
    intro D1 W1 hD1 hin S1
    rw [flds0] at hin
    have hw := word_yes (.inl hin)
    have Hw := Lib.hid hw
    have hfnd := S1.fnd
    clear hw
    go_wp2_with fail
    exact leaves_marks (hres true _ rfl) (fun W h => ⟨by rw [Hw.out], h⟩) [D1] _ S1.mrk S1.bel
  case done0 =>
  intro D1 W1 hD1 hn0 S1
  rw [flds0] at hn0
  have Hn0 := Lib.hid hn0
  clear hn0
  go_wp2_with fail
  rw [rounds_succ]
  go_wp2_with fail
  refine (callsIn_wide.1 (fieldsSeq_in Fence.wide 5 trivial rfl grp1 _)).mono ?_
  rintro e w' ⟨rfl, rfl⟩
  go_wp2_with fail
  have S1' := S1.more (.cells #[.string grp1] 9)
  refine group_step s grp1 w _ W1.heap.size (by decide) asc1 (by simp) hG (heap_last _ _) (HT.out _ S1'.bel) [D1] S1' _ _ _ _ _ _ _ _ _ _ _ _ _ _ _ _ _ ?done1 ?stop1
  case stop1 =>
    intro D2 W2 hD2 hin S2
    rw [flds1] at hin
    have hw := word_yes (.inr (.inl hin))
    have Hw := Lib.hid hw
    have hfnd := S2.fnd
    clear hw
    go_wp2_with fail
    exact leaves_marks (hres true _ rfl) (fun W h => ⟨by rw [Hw.out], h⟩) [D2, D1] _ S2.mrk S2.bel
  case done1 =>
  intro D2 W2 hD2 hn1 S2
  rw [flds1] at hn1
  have Hn1 := Lib.hid hn1
  clear hn1
  go_wp2_with fail
  rw [rounds_succ]
  go_wp2_with fail
  refine (callsIn_wide.1 (fieldsSeq_in Fence.wide 5 trivial rfl grp2 _)).mono ?_
  rintro e w' ⟨rfl, rfl⟩
  go_wp2_with fail
  have S2' := S2.more (.cells #[.string grp2] 9)
  refine group_step s grp2 w _ W2.heap.size (by decide) asc2 (by simp) hG (heap_last _ _) (HT.out _ S2'.bel) [D2, D1] S2' _ _ _ _ _ _ _ _ _ _ _ _ _ _ _ _ _ ?done2 ?stop2
  case stop2 =>
    intro D3 W3 hD3 hin S3
    rw [flds2] at hin
    have hw := word_yes (.inr (.inr (.inl hin)))
    have Hw := Lib.hid hw
    have hfnd := S3.fnd
    clear hw
    go_wp2_with fail
    exact leaves_marks (hres true _ rfl) (fun W h => ⟨by rw [Hw.out], h⟩) [D3, D2, D1] _ S3.mrk S3.bel
  case done2 =>
  intro D3 W3 hD3 hn2 S3
  rw [flds2] at hn2
  have Hn2 := Lib.hid hn2
  clear hn2
  go_wp2_with fail
  rw [rounds_succ]
  go_wp2_with fail
  refine (callsIn_wide.1 (fieldsSeq_in Fence.wide 5 trivial rfl grp3 _)).mono ?_
  rintro e w' ⟨rfl, rfl⟩
  go_wp2_with fail
  have S3' := S3.more (.cells #[.string grp3] 9)
  refine group_step s grp3 w _ W3.heap.size (by decide) asc3 (by simp) hG (heap_last _ _) (HT.out _ S3'.bel) [D3, D2, D1] S3' _ _ _ _ _ _ _ _ _ _ _ _ _ _ _ _ _ ?done3 ?stop3
  case stop3 =>
    intro D4 W4 hD4 hin S4
    rw [flds3] at hin
    have hw := word_yes (.inr (.inr (.inr hin)))
    have Hw := Lib.hid hw
    have hfnd := S4.fnd
    clear hw
    go_wp2_with fail
    exact leaves_marks (hres true _ rfl) (fun W h => ⟨by rw [Hw.out], h⟩) [D4, D3, D2, D1] _ S4.mrk S4.bel
  case done3 =>
  intro D4 W4 hD4 hn3 S4
  rw [flds3] at hn3
  have hw := word_no Hn0.out Hn1.out Hn2.out hn3
  have Hw := Lib.hid hw
  have hfnd := S4.fnd
  clear hw hn3
  go_wp2_with fail
  rw [rounds_succ]
  go_wp2_with fail
  exact leaves_marks (hres false _ rfl) (fun W h => ⟨by rw [Hw.out], h⟩) [D4, D3, D2, D1] _ S4.mrk S4.bel
end Go.Proofs.YtdccajohjknnbaaDoor.Hand
