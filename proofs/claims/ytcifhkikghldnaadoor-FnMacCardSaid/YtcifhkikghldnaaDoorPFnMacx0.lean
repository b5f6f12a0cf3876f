-- Written by a program of this project (wip/tools/patch_print.py over the print tool)
import Derived.Test.YtcifhkikghldnaaDoorProg
import Derived.Below
import Derived.Deep.Draws
import Derived.Deep.AppendLies
import Derived.Maps.AppendAt
import Derived.OwnWalk
import Derived.Laws.BytesArg
import Derived.Laws.MakeOwn
import Derived.Laws.OwnMore
import Derived.Deep.OwnRows
import Derived.Tactics
import Derived.Lib.ConvBytes
import Derived.Laws.Slices
import Derived.WalkKit
import Derived.KernelRfl
import Derived.RowKit3
import Derived.Deep.LoopGhost
import Derived.Deep.QuietTactic
import Derived.BigQuiet
import Derived.WideLaws
import Derived.Deep.DeepCutAuto
import Derived.Deep.CutBlock
import Derived.Deep.RegionHeld3
import Derived.Laws.Rows
import Derived.Lib.AppendStr
import Derived.ArgAppend
import Derived.Laws.IdiomCopy
import Derived.OrdersHeld
import Derived.Laws.BitsLemmas
import Derived.RowKit
import Derived.WalkLawsBesides
import Derived.Lib.Bytealg
import Derived.Laws.Externs
import Derived.Deep.RegionLaw
import Derived.Deep.MidRow
import Derived.Test.YtcifhkikghldnaaDoorDTab
import Derived.Shelf.Strings.Repeat
import Derived.Test.YtcifhkikghldnaaDoorWWords
import Derived.Test.YtcifhkikghldnaaDoorWLast
import Derived.Test.YtcifhkikghldnaaDoorWTab
import Derived.Test.YtcifhkikghldnaaDoorWFour
import Derived.Test.YtcifhkikghldnaaDoorWQPut
import Derived.Test.YtcifhkikghldnaaDoorWApart
import Derived.Test.YtcifhkikghldnaaDoorWArr
import Derived.Test.YtcifhkikghldnaaDoorWZeros
import Derived.Test.YtcifhkikghldnaaDoorWFoot
import Derived.Test.YtcifhkikghldnaaDoorWKept
import Derived.Test.YtcifhkikghldnaaDoorWShare
import Derived.Test.YtcifhkikghldnaaDoorWN
import Derived.Test.YtcifhkikghldnaaDoorWFootNe
import Derived.Test.YtcifhkikghldnaaDoorWAt
import Derived.Test.YtcifhkikghldnaaDoorWEqStruct
import Derived.Test.YtcifhkikghldnaaDoorWRepsOne
import Derived.Test.YtcifhkikghldnaaDoorWInv
import Derived.Test.YtcifhkikghldnaaDoorWInvWords
import Derived.Test.YtcifhkikghldnaaDoorWGuard
import Derived.Test.YtcifhkikghldnaaDoorWNEv
import Derived.Test.YtcifhkikghldnaaDoorWMore
namespace Go.Proofs.YtcifhkikghldnaaDoor.PFnMac
open Go.RowKit Go.Proofs.YtcifhkikghldnaaDoorW.PrintWords Go.Proofs.YtcifhkikghldnaaDoorW.PrintLast Go.Proofs.YtcifhkikghldnaaDoorW.PrintMore
attribute [local go_sem] max2_int min2_int max_two min_two max_three min_three max_four min_four   -- for this text's walks alone
set_option linter.unusedVariables false
set_option linter.unusedSimpArgs false



def errW : Option Int → Value
  | none => .nilIface
  | some c => .iface 0 (.int .i64 c)
theorem errW_none : errW none = .nilIface := rfl
theorem errW_some (c : Int) : errW (some c) = .iface 0 (.int .i64 c) := rfl

theorem info2 : (Tryd.prog.info? 2).map (fun i => (i.zero, i.size, i.bytes)) = some (some (.int .i64 0), 1, 8) := by kernel_rfl
theorem info5 : (Tryd.prog.info? 5).map (fun i => (i.zero, i.size, i.bytes)) = some (some (.int .u8 0), 1, 1) := by kernel_rfl
theorem info48 : (Tryd.prog.info? 48).map (fun i => (i.zero, i.size, i.bytes)) = some (some (.int .u32 0), 1, 4) := by kernel_rfl
-- the values' own types

end Go.Proofs.YtcifhkikghldnaaDoor.PFnMac
