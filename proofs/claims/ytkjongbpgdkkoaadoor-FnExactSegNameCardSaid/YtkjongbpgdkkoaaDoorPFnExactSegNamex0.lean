-- Written by a program of this project (wip/tools/patch_print.py over the print tool)
import Derived.Test.YtkjongbpgdkkoaaDoorProg
import Derived.Below
import Derived.Deep.Draws
import Derived.Deep.AppendLies
import Derived.Maps.AppendAt
import Derived.OwnWalk
import Derived.Laws.BytesArg
import Derived.Laws.MakeOwn
import Derived.Laws.OwnMore
import Derived.Deep.OwnRows
import Derived.Tactics
import Derived.Lib.ConvBytes
import Derived.Laws.Slices
import Derived.WalkKit
import Derived.KernelRfl
import Derived.RowKit3
import Derived.Deep.LoopGhost
import Derived.Deep.QuietTactic
import Derived.BigQuiet
import Derived.WideLaws
import Derived.Deep.DeepCutAuto
import Derived.Deep.CutBlock
import Derived.Deep.RegionHeld3
import Derived.Laws.Rows
import Derived.Lib.AppendStr
import Derived.ArgAppend
import Derived.Laws.IdiomCopy
import Derived.OrdersHeld
import Derived.Laws.BitsLemmas
import Derived.RowKit
import Derived.WalkLawsBesides
import Derived.Lib.Bytealg
import Derived.Laws.Externs
import Derived.Deep.RegionLaw
import Derived.Deep.MidRow
import Derived.Test.YtkjongbpgdkkoaaDoorDPow
import Derived.Shelf.Strings.Repeat
import Derived.Shelf.Strconv.Itoa4
import Derived.Test.YtkjongbpgdkkoaaDoorWWords
import Derived.Test.YtkjongbpgdkkoaaDoorWLast
import Derived.Test.YtkjongbpgdkkoaaDoorWTab
import Derived.Test.YtkjongbpgdkkoaaDoorWFour
import Derived.Test.YtkjongbpgdkkoaaDoorWQPut
import Derived.Test.YtkjongbpgdkkoaaDoorWApart
import Derived.Test.YtkjongbpgdkkoaaDoorWArr
import Derived.Test.YtkjongbpgdkkoaaDoorWZeros
import Derived.Test.YtkjongbpgdkkoaaDoorWFoot
import Derived.Test.YtkjongbpgdkkoaaDoorWKept
import Derived.Test.YtkjongbpgdkkoaaDoorWShare
import Derived.Test.YtkjongbpgdkkoaaDoorWN
import Derived.Test.YtkjongbpgdkkoaaDoorWFootNe
import Derived.Test.YtkjongbpgdkkoaaDoorWAt
import Derived.Test.YtkjongbpgdkkoaaDoorWEqStruct
import Derived.Test.YtkjongbpgdkkoaaDoorWRepsOne
import Derived.Test.YtkjongbpgdkkoaaDoorWInv
import Derived.Test.YtkjongbpgdkkoaaDoorWInvWords
import Derived.Test.YtkjongbpgdkkoaaDoorWGuard
import Derived.Test.YtkjongbpgdkkoaaDoorWNEv
import Derived.Test.YtkjongbpgdkkoaaDoorWMore
namespace Go.Proofs.YtkjongbpgdkkoaaDoor.PFnExactSegName
open Go.RowKit Go.Proofs.YtkjongbpgdkkoaaDoorW.PrintWords Go.Proofs.YtkjongbpgdkkoaaDoorW.PrintLast Go.Proofs.YtkjongbpgdkkoaaDoorW.PrintMore
attribute [local go_sem] max2_int min2_int max_two min_two max_three min_three max_four min_four   -- for this text's walks alone
set_option linter.unusedVariables false
set_option linter.unusedSimpArgs false



def errW : Option Int → Value
  | none => .nilIface
  | some c => .iface 0 (.int .i64 c)
theorem errW_none : errW none = .nilIface := rfl
theorem errW_some (c : Int) : errW (some c) = .iface 0 (.int .i64 c) := rfl

theorem info5 : (Tryd.prog.info? 5).map (fun i => (i.zero, i.size, i.bytes)) = some (some (.int .u8 0), 1, 1) := by kernel_rfl
-- the values' own types

end Go.Proofs.YtkjongbpgdkkoaaDoor.PFnExactSegName
