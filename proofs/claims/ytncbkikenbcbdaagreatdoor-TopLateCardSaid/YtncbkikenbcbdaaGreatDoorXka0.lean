/- TopLate: the run of kind 0. No condition. -/
import Derived.KernelRfl
import Derived.Test.YtncbkikenbcbdaaGreatDoorXly
set_option linter.unusedVariables false
set_option linter.unusedSimpArgs false
set_option linter.unusedSectionVars false
set_option linter.constructorNameAsVariable false
namespace Go.Rk
open Go Go.Proofs
set_option maxRecDepth 1000000
theorem late_0 (t : Nat) : lateOk 0 50 t = true := by kernel_rfl
end Go.Rk
