-- Written by a program of this project (wip/tools/patch_print.py over the print tool)
import Derived.Test.YtpodkpcnhnpikaaProg
import Derived.Below
import Derived.Deep.Draws
import Derived.Deep.AppendLies
import Derived.Maps.AppendAt
import Derived.OwnWalk
import Derived.Laws.BytesArg
import Derived.Laws.MakeOwn
import Derived.Laws.OwnMore
import Derived.Deep.OwnRows
import Derived.Tactics
import Derived.Lib.ConvBytes
import Derived.Laws.Slices
import Derived.WalkKit
import Derived.KernelRfl
import Derived.RowKit3
import Derived.Deep.LoopGhost
import Derived.Deep.QuietTactic
import Derived.BigQuiet
import Derived.WideLaws
import Derived.Deep.DeepCutAuto
import Derived.Deep.CutBlock
import Derived.Deep.RegionHeld3
import Derived.Laws.Rows
import Derived.Lib.AppendStr
import Derived.ArgAppend
import Derived.Laws.IdiomCopy
import Derived.OrdersHeld
import Derived.Laws.BitsLemmas
import Derived.RowKit
import Derived.WalkLawsBesides
import Derived.Test.YtpodkpcnhnpikaaWWords
import Derived.Test.YtpodkpcnhnpikaaWLast
import Derived.Test.YtpodkpcnhnpikaaWTab
import Derived.Test.YtpodkpcnhnpikaaWFour
import Derived.Test.YtpodkpcnhnpikaaWQPut
import Derived.Test.YtpodkpcnhnpikaaWApart
import Derived.Test.YtpodkpcnhnpikaaWArr
import Derived.Test.YtpodkpcnhnpikaaWZeros
import Derived.Test.YtpodkpcnhnpikaaWFoot
import Derived.Test.YtpodkpcnhnpikaaWKept
import Derived.Test.YtpodkpcnhnpikaaWShare
import Derived.Test.YtpodkpcnhnpikaaWN
import Derived.Test.YtpodkpcnhnpikaaWFootNe
import Derived.Test.YtpodkpcnhnpikaaWAt
import Derived.Test.YtpodkpcnhnpikaaWEqStruct
import Derived.Test.YtpodkpcnhnpikaaWRepsOne
import Derived.Test.YtpodkpcnhnpikaaWInv
import Derived.Test.YtpodkpcnhnpikaaWInvWords
import Derived.Test.YtpodkpcnhnpikaaWGuard
import Derived.Test.YtpodkpcnhnpikaaWNEv
import Derived.Test.YtpodkpcnhnpikaaWMore
namespace Go.Proofs.Ytpodkpcnhnpikaa.PFnSeal
open Go.RowKit Go.Proofs.YtpodkpcnhnpikaaW.PrintWords Go.Proofs.YtpodkpcnhnpikaaW.PrintLast Go.Proofs.YtpodkpcnhnpikaaW.PrintMore
attribute [local go_sem] max2_int min2_int max_two min_two max_three min_three max_four min_four   -- for this text's walks alone
set_option linter.unusedVariables false
set_option linter.unusedSimpArgs false



def errW : Option Int → Value
  | none => .nilIface
  | some c => .iface 0 (.int .i64 c)
theorem errW_none : errW none = .nilIface := rfl
theorem errW_some (c : Int) : errW (some c) = .iface 0 (.int .i64 c) := rfl

theorem info2 : (Try.prog.info? 2).map (fun i => (i.zero, i.size, i.bytes)) = some (some (.int .i64 0), 1, 8) := by kernel_rfl
theorem info5 : (Try.prog.info? 5).map (fun i => (i.zero, i.size, i.bytes)) = some (some (.int .u8 0), 1, 1) := by kernel_rfl
-- the values' own types

end Go.Proofs.Ytpodkpcnhnpikaa.PFnSeal
