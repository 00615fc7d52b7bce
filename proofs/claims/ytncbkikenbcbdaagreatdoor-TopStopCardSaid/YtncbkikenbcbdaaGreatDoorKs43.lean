/- One run of TopStop. No condition. -/
import Derived.Test.YtncbkikenbcbdaaGreatDoorProg
import Derived.KernelRfl
import Derived.Test.YtncbkikenbcbdaaGreatDoorEv
set_option linter.unusedVariables false
set_option linter.unusedSimpArgs false
set_option linter.unusedSectionVars false
namespace Go.Rk
open Go Go.Proofs
set_option maxRecDepth 1000000
theorem stop_4_3 (t : Nat) : evCall Tryz.prog S6 1000000 3 [.int .i64 4, .int .i64 3] (Hk t) tTrue = true := by kernel_rfl
end Go.Rk
