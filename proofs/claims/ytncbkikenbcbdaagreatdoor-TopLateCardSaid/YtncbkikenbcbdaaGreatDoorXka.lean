/- The run of known. No condition. -/
import Derived.Test.YtncbkikenbcbdaaGreatDoorProg
import Derived.KernelRfl
import Derived.Test.YtncbkikenbcbdaaGreatDoorXev
set_option linter.unusedVariables false
set_option linter.unusedSimpArgs false
set_option linter.unusedSectionVars false
set_option linter.constructorNameAsVariable false
namespace Go.Rk
open Go Go.Proofs
set_option linter.unusedSectionVars false
variable [Nt]
set_option maxRecDepth 1000000
theorem known_run (t : Nat) : evCall Tryz.prog S5 1000000 6 [] (Hk t) tTrue = true := by kernel_rfl
end Go.Rk
