/- The library's table of the powers of ten: what it reads as. -/
import Derived.Test.YtoakgjellgkolaaGreatDoorDVars
import Derived.Test.YtoakgjellgkolaaGreatDoorRows
import Derived.Lib.LaidTab
import Derived.Lib.ItoaNum
import Derived.Lib.ItoaMem
import Derived.Below
set_option linter.unusedVariables false
namespace Go.Proofs.YtoakgjellgkolaaGreatDoor.D
open Go Go.RowKit Go.Lib
structure Tab (w : World) : Prop where
  p : Lib.TabIs Tryz.prog w "internal/strconv.uint64pow10" .u64 Lib.pow10Tab
theorem Tab.below {w w' : World} (h : Tab w) (hb : Below w.heap.size w w') : Tab w' := ⟨var_below h.p hb⟩
end Go.Proofs.YtoakgjellgkolaaGreatDoor.D
