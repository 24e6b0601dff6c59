/- CharsWords: a word of the language is letters alone, from 1 to 7 of them, and stands once in the list (a text of at most 400 bytes); the plain law over the functions that the program computes. -/
import Derived.Test.YtdlhdeejdefmaaaDoorPureA
import Derived.Test.YtdlhdeejdefmaaaDoorQx5
namespace Go.Proofs.YtdlhdeejdefmaaaDoor.Pure
open Go.RowKit Go.Proofs.YtdlhdeejdefmaaaDoor.Hand Go.Proofs.YtdlhdeejdefmaaaDoor.Q Go.Proofs.YtdlhdeejdefmaaaDoorW.PrintWords Go.Proofs.YtdlhdeejdefmaaaDoorW.PrintLast Go.Proofs.YtdlhdeejdefmaaaDoorW.PrintMore
theorem CharsWords : tailwaterlaw02_CharsWords.Pure := by
  intro a ha
  refine ⟨60, ?_⟩
  unfold tailwaterlaw02_CharsWords.f
  have hj : tailwaterlaw02_CharsWords.j0 60 a true = some true := by
    simp only [tailwaterlaw02_CharsWords.j0, if_true, alive, Option.bind_some]
  by_cases c1 : (a.size : Int) > 400
  · rw [if_pos c1]; exact hj
  · rw [if_neg c1]
    show tailwaterlaw02_CharsWords.j0 60 a (!isWord a) = some true
    cases hw : isWord a with
    | false => exact hj
    | true =>
      have hm := isWord_iff.1 hw
      have hall : ∀ x ∈ wordList, tailwaterlaw02_CharsWords.j0 60 x (!true) = some true := by
        have : wordList.all (fun x => tailwaterlaw02_CharsWords.j0 60 x (!true) == some true) = true := by kernel_rfl
        intro x hx
        have := List.all_eq_true.1 this x hx
        simpa using this
      exact hall a hm
end Go.Proofs.YtdlhdeejdefmaaaDoor.Pure
