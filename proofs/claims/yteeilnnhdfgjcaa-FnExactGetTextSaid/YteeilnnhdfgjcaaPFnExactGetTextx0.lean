-- Written by a program of this project (wip/tools/patch_print.py over the print tool)
import Derived.Test.YteeilnnhdfgjcaaProg
import Derived.Below
import Derived.Deep.Draws
import Derived.Deep.AppendLies
import Derived.Maps.AppendAt
import Derived.OwnWalk
import Derived.Laws.BytesArg
import Derived.Laws.MakeOwn
import Derived.Laws.OwnMore
import Derived.Deep.OwnRows
import Derived.Tactics
import Derived.Lib.ConvBytes
import Derived.Laws.Slices
import Derived.WalkKit
import Derived.KernelRfl
import Derived.RowKit3
import Derived.Deep.LoopGhost
import Derived.Deep.QuietTactic
import Derived.BigQuiet
import Derived.WideLaws
import Derived.Deep.DeepCutAuto
import Derived.Deep.CutBlock
import Derived.Deep.RegionHeld3
import Derived.Laws.Rows
import Derived.Lib.AppendStr
import Derived.ArgAppend
import Derived.Laws.IdiomCopy
import Derived.OrdersHeld
import Derived.Laws.BitsLemmas
import Derived.RowKit
import Derived.Test.YteeilnnhdfgjcaaWWords
import Derived.Test.YteeilnnhdfgjcaaWLast
import Derived.Test.YteeilnnhdfgjcaaWTab
import Derived.Test.YteeilnnhdfgjcaaWFour
import Derived.Test.YteeilnnhdfgjcaaWQPut
import Derived.Test.YteeilnnhdfgjcaaWApart
import Derived.Test.YteeilnnhdfgjcaaWArr
import Derived.Test.YteeilnnhdfgjcaaWZeros
import Derived.Test.YteeilnnhdfgjcaaWFoot
import Derived.Test.YteeilnnhdfgjcaaWKept
import Derived.Test.YteeilnnhdfgjcaaWShare
import Derived.Test.YteeilnnhdfgjcaaWN
import Derived.Test.YteeilnnhdfgjcaaWFootNe
import Derived.Test.YteeilnnhdfgjcaaWAt
import Derived.Test.YteeilnnhdfgjcaaWEqStruct
import Derived.Test.YteeilnnhdfgjcaaWRepsOne
import Derived.Test.YteeilnnhdfgjcaaWInv
import Derived.Test.YteeilnnhdfgjcaaWInvWords
import Derived.Test.YteeilnnhdfgjcaaWGuard
import Derived.Test.YteeilnnhdfgjcaaWNEv
import Derived.Test.YteeilnnhdfgjcaaWMore
namespace Go.Proofs.Yteeilnnhdfgjcaa.PFnExactGetText
open Go.RowKit Go.Proofs.YteeilnnhdfgjcaaW.PrintWords Go.Proofs.YteeilnnhdfgjcaaW.PrintLast Go.Proofs.YteeilnnhdfgjcaaW.PrintMore
attribute [local go_sem] max2_int min2_int max_two min_two max_three min_three max_four min_four   -- for this text's walks alone
set_option linter.unusedVariables false
set_option linter.unusedSimpArgs false



def errW : Option Int → Value
  | none => .nilIface
  | some c => .iface 0 (.int .i64 c)
theorem errW_none : errW none = .nilIface := rfl
theorem errW_some (c : Int) : errW (some c) = .iface 0 (.int .i64 c) := rfl

-- the values' own types

end Go.Proofs.Yteeilnnhdfgjcaa.PFnExactGetText
