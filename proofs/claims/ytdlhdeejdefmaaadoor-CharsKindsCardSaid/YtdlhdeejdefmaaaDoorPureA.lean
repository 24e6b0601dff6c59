/- Small lemmas over the functions that the program computes: the examples hold; what a symbol's length is. -/
import Derived.Test.YtdlhdeejdefmaaaDoorQx1
namespace Go.Proofs.YtdlhdeejdefmaaaDoor.Pure
open Go.RowKit Go.Proofs.YtdlhdeejdefmaaaDoor.Hand Go.Proofs.YtdlhdeejdefmaaaDoor.Q Go.Proofs.YtdlhdeejdefmaaaDoorW.PrintWords Go.Proofs.YtdlhdeejdefmaaaDoorW.PrintLast Go.Proofs.YtdlhdeejdefmaaaDoorW.PrintMore
theorem alive : tailwaterlaw02_alive.f = some true := by kernel_rfl
theorem ext_all (s : ByteArray) : s.extract 0 s.size = s := by
  apply ByteArray.ext; simp
theorem ext_app (a b : ByteArray) : (a ++ b).extract a.size (a ++ b).size = b := by
  rw [ByteArray.size_append]
  exact ByteArray.extract_append_eq_right rfl rfl
theorem len_eq (s : ByteArray) (i : Nat) (h : i ≤ s.size) : tailwaterlaw02_length.f s (i : Int) = some (symT (s.extract i s.size)) := by
  unfold tailwaterlaw02_length.f chars_Symbol.f
  rw [if_neg (by omega)]
  rfl
end Go.Proofs.YtdlhdeejdefmaaaDoor.Pure
