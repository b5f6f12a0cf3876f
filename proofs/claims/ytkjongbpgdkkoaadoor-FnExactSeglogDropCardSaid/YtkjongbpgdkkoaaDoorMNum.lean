/- Plain mathematics of the integers' encoding: seven bits a byte, the sign folded in. -/
import Derived.Test.YtkjongbpgdkkoaaDoorMBase
import Derived.Lib.Strings
set_option linter.unusedVariables false
set_option linter.unusedSimpArgs false
namespace Go.Proofs.YtkjongbpgdkkoaaDoor.M
open Go.RowKit Go.Proofs.YtkjongbpgdkkoaaDoorW.PrintWords Go.Proofs.YtkjongbpgdkkoaaDoorW.PrintLast Go.Proofs.YtkjongbpgdkkoaaDoorW.PrintMore

end Go.Proofs.YtkjongbpgdkkoaaDoor.M
