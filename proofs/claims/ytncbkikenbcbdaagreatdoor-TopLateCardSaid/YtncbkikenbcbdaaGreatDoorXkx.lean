/- TopLate: inputs out of range. No condition. -/
import Derived.KernelRfl
import Derived.Test.YtncbkikenbcbdaaGreatDoorXly
set_option linter.unusedVariables false
set_option linter.unusedSimpArgs false
set_option linter.unusedSectionVars false
set_option linter.constructorNameAsVariable false
namespace Go.Rk
open Go Go.Proofs
set_option maxRecDepth 1000000
theorem late_neg (t : Nat) : @evCall LP tNeg S6 LN 4 [.sym 21, .opq 0] (Hk t) tTrue = true := by kernel_rfl
theorem late_big (t : Nat) : @evCall LP tBig S6 LN 4 [.sym 21, .opq 0] (Hk t) tTrue = true := by kernel_rfl
theorem late_long (t : Nat) : @evCall LP tLong S6 LN 4 [.sym 21, .opq 0] (Hk t) tTrue = true := by kernel_rfl
end Go.Rk
