/- CharsNames: the chapter's examples, all symbols and words, some texts that are none, and errors (no argument); the plain law over the functions that the program computes. -/
import Derived.Test.YtdlhdeejdefmaaaDoorPureA
import Derived.Test.YtdlhdeejdefmaaaDoorQx2
namespace Go.Proofs.YtdlhdeejdefmaaaDoor.Pure
open Go.RowKit Go.Proofs.YtdlhdeejdefmaaaDoor.Hand Go.Proofs.YtdlhdeejdefmaaaDoor.Q Go.Proofs.YtdlhdeejdefmaaaDoorW.PrintWords Go.Proofs.YtdlhdeejdefmaaaDoorW.PrintLast Go.Proofs.YtdlhdeejdefmaaaDoorW.PrintMore
theorem CharsNames : tailwaterlaw02_CharsNames.Pure := ⟨100, by kernel_rfl⟩
end Go.Proofs.YtdlhdeejdefmaaaDoor.Pure
