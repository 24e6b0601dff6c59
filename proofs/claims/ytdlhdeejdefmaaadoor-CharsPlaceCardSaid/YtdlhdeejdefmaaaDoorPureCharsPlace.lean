/- CharsPlace: what stands in front of an index does not change the symbol that is found there (two texts of at most 200 bytes); the plain law over the functions that the program computes. -/
import Derived.Test.YtdlhdeejdefmaaaDoorPureA
import Derived.Test.YtdlhdeejdefmaaaDoorQx5
namespace Go.Proofs.YtdlhdeejdefmaaaDoor.Pure
open Go.RowKit Go.Proofs.YtdlhdeejdefmaaaDoor.Hand Go.Proofs.YtdlhdeejdefmaaaDoor.Q Go.Proofs.YtdlhdeejdefmaaaDoorW.PrintWords Go.Proofs.YtdlhdeejdefmaaaDoorW.PrintLast Go.Proofs.YtdlhdeejdefmaaaDoorW.PrintMore
theorem CharsPlace : tailwaterlaw02_CharsPlace.Pure := by
  intro a b ha hb
  refine ⟨1, ?_⟩
  have ht : tailwaterlaw02_CharsPlace.j0 1 a b true = some true := by
    simp only [tailwaterlaw02_CharsPlace.j0, if_true, alive, Option.bind_some]
  unfold tailwaterlaw02_CharsPlace.f
  by_cases c1 : (a.size : Int) > 200
  · rw [if_pos c1]; exact ht
  · rw [if_neg c1]
    by_cases c2 : (b.size : Int) > 200
    · rw [decide_eq_true c2]; exact ht
    · rw [decide_eq_false c2]
      have h1 : tailwaterlaw02_length.f (a ++ b) (a.size : Int) = some (symT b) := by
        rw [len_eq _ _ (by rw [ByteArray.size_append]; omega), ext_app]
      have h2 : tailwaterlaw02_length.f b 0 = some (symT b) := by
        have := len_eq b 0 (by omega)
        rw [ext_all] at this; exact this
      simp only [tailwaterlaw02_CharsPlace.j0]
      rw [if_neg (by simp), if_pos (by omega), h1, h2, alive]
      simp
end Go.Proofs.YtdlhdeejdefmaaaDoor.Pure
