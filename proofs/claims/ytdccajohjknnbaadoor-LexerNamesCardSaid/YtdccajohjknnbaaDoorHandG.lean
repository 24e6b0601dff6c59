/- ints.Read: for every text it returns what readL tells of its bytes: the number, an error of form, or an error of range (the error of the library as laid). -/
import Derived.Test.YtdccajohjknnbaaDoorShelfB
import Derived.Test.YtdccajohjknnbaaDoorPlainInts
import Derived.Test.YtdccajohjknnbaaDoorTabs
import Derived.Test.YtdccajohjknnbaaDoorWWords
import Derived.WalkKit
import Derived.WalkSpells
import Derived.Lib.Hide
namespace Go.Proofs.YtdccajohjknnbaaDoor.Hand
open Go.RowKit Go.Proofs.YtdccajohjknnbaaDoorW.PrintWords
theorem dig_ascii : ∀ (j : Nat) b, (⟨#[48, 49, 50, 51, 52, 53, 54, 55, 56, 57]⟩ : ByteArray).data.toList[j]? = some b → b.toNat < 128 := by
  intro j b h
  have hall : (⟨#[48, 49, 50, 51, 52, 53, 54, 55, 56, 57]⟩ : ByteArray).data.toList.all (fun b => decide (b.toNat < 128)) = true := by decide
  exact of_decide_eq_true (List.all_eq_true.1 hall b (List.mem_of_getElem? h))
theorem trim_any (s : ByteArray) (w : World) (hs : s.size ≤ 140737488351232) :
    Calls Tryd.prog 41 #[.string s, .string ⟨#[48, 49, 50, 51, 52, 53, 54, 55, 56, 57]⟩] w fun e w' => e = .returned (.string ⟨(Lib.trimS s.data.toList digitsB).toArray⟩) ∧ Below w.heap.size w w' :=
  Any.strings_Trim_ascii Tryd.lays160 (fun w => by kernel_rfl) (by kernel_rfl) s ⟨#[48, 49, 50, 51, 52, 53, 54, 55, 56, 57]⟩ w (by omega) (by decide) dig_ascii
def readPost (v e : Int) (w : World) (en : Ending) (w' : World) : Prop := en = .returned (.tuple #[.int .i64 v, .int .i64 e]) ∧ Below w.heap.size w w'
set_option maxHeartbeats 1000000 in
theorem read_any (s : ByteArray) (w : World) (hT : Tabs w) (hs : s.size ≤ 140737488351232) :
    Calls Tryd.prog 31 #[.string s] w (readPost (readL s.data.toList).1 (readL s.data.toList).2 w) := by
  have hsz : s.size = s.data.toList.length := (data_length s).symm
  by_cases h0 : s.size = 0
  · have hl : s.data.toList = [] := List.eq_nil_of_length_eq_zero (by omega)
    have hf : readL s.data.toList = (0, 12) := by unfold readL; rw [if_pos hl]
    rw [hf]
    have hl2 : s.toList = [] := by rw [ByteArray.toList_eq]; exact hl
    clear hf hl h0 hsz
    go_enter Tryd.func31, Tryd.ntmps31
    go_wp2_with fail
    go_ret2
    exact ⟨rfl, Below.refl _ _⟩
  · have hl : s.data.toList ≠ [] := fun h => h0 (by rw [hsz, h]; rfl)
    have hi : s.toList.isEmpty = false := by rw [ByteArray.toList_eq]; simpa using hl
    have hi2 : ¬ s.toList = [] := by rw [ByteArray.toList_eq]; exact hl
    by_cases hd : s.data.toList.all digB = true
    · have htr : (⟨(Lib.trimS s.data.toList digitsB).toArray⟩ : ByteArray) = ⟨#[]⟩ := by rw [trim_nil s.data.toList |>.2 hd]
      have htc := trim_any s w hs
      rw [htr] at htc
      have Htc := Lib.hid htc
      have hpi := parseInt_digits s.data.toList hl hd
      clear htc htr
      by_cases hr : decFrom 0 s.data.toList ≤ 9223372036854775807
      · rw [if_pos hr] at hpi
        have hf : readL s.data.toList = ((decFrom 0 s.data.toList : Int), 0) := by unfold readL; rw [if_neg hl, if_pos hd, if_pos hr]
        rw [hf]
        have Hpi := Lib.hid hpi
        clear hf hpi hd hl hsz h0
        go_enter Tryd.func31, Tryd.ntmps31
        go_wp2_with fail
        refine Htc.out.mono ?_
        rintro e w1 ⟨rfl, hB⟩
        go_wp2_with fail
        refine (Tryd.strconv_ParseInt_10_at64_ok s (by omega) _ Hpi.out _).mono ?_
        rintro e w2 ⟨rfl, hB2⟩
        have hB3 : Below w.heap.size w w2 := hB2.elim (fun e => by subst e; exact hB) (fun ⟨t, e⟩ => by subst e; exact bytes_below hB hB.size _ _)
        clear hB2
        go_wp2_with fail
        go_ret2
        exact ⟨rfl, hB3⟩
      · rw [if_neg hr] at hpi
        have hf : readL s.data.toList = (0, 16) := by unfold readL; rw [if_neg hl, if_pos hd, if_neg hr]
        rw [hf]
        have Hpi := Lib.hid hpi
        clear hf hpi hd hl hsz h0 hr
        have HT := Lib.hid hT
        clear hT
        go_enter Tryd.func31, Tryd.ntmps31
        go_wp2_with fail
        refine Htc.out.mono ?_
        rintro e w1 ⟨rfl, hB⟩
        obtain ⟨tp, p, hv⟩ := (HT.out.below hB).rng
        have Hv := Lib.hid hv
        clear hv
        go_wp2_with fail
        refine (Tryd.strconv_ParseInt_10_at64_range_var s (by omega) Hpi.out tp p _ Hv.out).mono ?_
        rintro e w2 ⟨n, rfl, _, _, hB2⟩
        have hB3 := hB.trans (hB2.mono hB.size)
        clear hB2
        go_wp2_with fail
        go_ret2
        exact ⟨rfl, hB3⟩
    · have hf : readL s.data.toList = (0, 12) := by unfold readL; rw [if_neg hl, if_neg hd]
      have htc := trim_any s w hs
      obtain ⟨t, ht⟩ : ∃ t : ByteArray, t = ⟨(Lib.trimS s.data.toList digitsB).toArray⟩ := ⟨_, rfl⟩
      rw [← ht] at htc
      have hn : ¬ t.data.toList = [] := by rw [ht]; intro h; exact hd ((trim_nil _).1 (by simpa using h))
      have ht1 : t.toList.isEmpty = false := by rw [ByteArray.toList_eq]; simpa using hn
      have ht2 : (!t.toList.isEmpty) = true := by rw [ht1]; rfl
      have Htc := Lib.hid htc
      rw [hf]
      clear htc ht hn hf hd hl hsz h0
      go_enter Tryd.func31, Tryd.ntmps31
      go_wp2_with fail
      refine Htc.out.mono ?_
      rintro e w1 ⟨rfl, hB⟩
      go_wp2_with fail
      go_ret2
      exact ⟨rfl, hB⟩
end Go.Proofs.YtdccajohjknnbaaDoor.Hand
