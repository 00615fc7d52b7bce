/- The reference's digest. No condition. -/
import Derived.Test.YtncbkikenbcbdaaGreatDoorProg
import Derived.KernelRfl
import Derived.Test.YtncbkikenbcbdaaGreatDoorXev
set_option linter.unusedVariables false
set_option linter.unusedSimpArgs false
set_option linter.unusedSectionVars false
set_option linter.constructorNameAsVariable false
namespace Go.Rk
open Go Go.Proofs
set_option linter.unusedSectionVars false
variable [Nt]
set_option maxRecDepth 1000000
theorem salted_ref : evCall Tryz.prog Sc 1000000 30 [.slk 2 0 1 1, .sl 3 0 2 0 0] Hsalt (tRow dig0) = true := by kernel_rfl
end Go.Rk
