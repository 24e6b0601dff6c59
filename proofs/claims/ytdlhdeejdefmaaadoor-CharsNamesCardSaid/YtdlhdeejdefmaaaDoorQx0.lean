/- THE FUNCTIONS OF THE PROGRAM AS LEAN FUNCTIONS, AND THE WALKS. Written by a program of the session's own (wip/hprint.py) that calls the kit's print. -/
import Derived.Test.YtdlhdeejdefmaaaDoorProg
import Derived.Below
import Derived.Deep.Draws
import Derived.Deep.AppendLies
import Derived.Maps.AppendAt
import Derived.OwnWalk
import Derived.Laws.BytesArg
import Derived.Laws.MakeOwn
import Derived.Laws.OwnMore
import Derived.Deep.OwnRows
import Derived.Tactics
import Derived.Lib.ConvBytes
import Derived.Laws.Slices
import Derived.WalkKit
import Derived.KernelRfl
import Derived.RowKit3
import Derived.Deep.LoopGhost
import Derived.Deep.QuietTactic
import Derived.BigQuiet
import Derived.WideLaws
import Derived.Deep.DeepCutAuto
import Derived.Deep.CutBlock
import Derived.Deep.RegionHeld3
import Derived.Laws.Rows
import Derived.Lib.AppendStr
import Derived.ArgAppend
import Derived.Laws.IdiomCopy
import Derived.OrdersHeld
import Derived.Laws.BitsLemmas
import Derived.RowKit
import Derived.Test.YtdlhdeejdefmaaaDoorHandA
import Derived.Test.YtdlhdeejdefmaaaDoorTabs
import Derived.Test.YtdlhdeejdefmaaaDoorWWords
import Derived.Test.YtdlhdeejdefmaaaDoorWLast
import Derived.Test.YtdlhdeejdefmaaaDoorWTab
import Derived.Test.YtdlhdeejdefmaaaDoorWFour
import Derived.Test.YtdlhdeejdefmaaaDoorWQPut
import Derived.Test.YtdlhdeejdefmaaaDoorWApart
import Derived.Test.YtdlhdeejdefmaaaDoorWArr
import Derived.Test.YtdlhdeejdefmaaaDoorWZeros
import Derived.Test.YtdlhdeejdefmaaaDoorWFoot
import Derived.Test.YtdlhdeejdefmaaaDoorWKept
import Derived.Test.YtdlhdeejdefmaaaDoorWShare
import Derived.Test.YtdlhdeejdefmaaaDoorWN
import Derived.Test.YtdlhdeejdefmaaaDoorWFootNe
import Derived.Test.YtdlhdeejdefmaaaDoorWAt
import Derived.Test.YtdlhdeejdefmaaaDoorWEqStruct
import Derived.Test.YtdlhdeejdefmaaaDoorWRepsOne
import Derived.Test.YtdlhdeejdefmaaaDoorWInv
import Derived.Test.YtdlhdeejdefmaaaDoorWInvWords
import Derived.Test.YtdlhdeejdefmaaaDoorWGuard
import Derived.Test.YtdlhdeejdefmaaaDoorWNEv
import Derived.Test.YtdlhdeejdefmaaaDoorWMore
namespace Go.Proofs.YtdlhdeejdefmaaaDoor.Q
open Go.Proofs.YtdlhdeejdefmaaaDoor.Hand
open Go.RowKit Go.Proofs.YtdlhdeejdefmaaaDoorW.PrintWords Go.Proofs.YtdlhdeejdefmaaaDoorW.PrintLast Go.Proofs.YtdlhdeejdefmaaaDoorW.PrintMore
attribute [local go_sem] max2_int min2_int max_two min_two max_three min_three max_four min_four   -- for this text's walks alone
set_option linter.unusedVariables false
set_option linter.unusedSimpArgs false



def errW : Option Int → Value
  | none => .nilIface
  | some c => .iface 0 (.int .i64 c)
theorem errW_none : errW none = .nilIface := rfl
theorem errW_some (c : Int) : errW (some c) = .iface 0 (.int .i64 c) := rfl

theorem info9 : (Tryd.prog.info? 9).map (fun i => (i.zero, i.size, i.bytes)) = some (some (.string ⟨#[]⟩), 1, 16) := by kernel_rfl
-- the values' own types

end Go.Proofs.YtdlhdeejdefmaaaDoor.Q
