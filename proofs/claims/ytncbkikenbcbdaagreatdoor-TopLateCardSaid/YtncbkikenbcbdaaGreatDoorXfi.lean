/- This program fits the evaluator. No condition. -/
import Derived.Test.YtncbkikenbcbdaaGreatDoorProg
import Derived.KernelRfl
import Derived.Test.YtncbkikenbcbdaaGreatDoorXbe
set_option linter.unusedVariables false
set_option linter.unusedSimpArgs false
set_option linter.unusedSectionVars false
set_option linter.constructorNameAsVariable false
namespace Go.Rk
open Go Go.Proofs
set_option maxRecDepth 1000000
theorem tryz_fit : fitB Tryz.prog = true := by kernel_rfl
theorem tryz_mixed : Tryz.prog.follows .mixedOrders = true := by kernel_rfl
theorem tryz_size : Tryz.prog.globals.size = 2 := by kernel_rfl
end Go.Rk

namespace Go.Rk
open Go Go.Proofs
set_option maxRecDepth 1000000
theorem tryz_codes : codesOk Tryz.prog = true := by kernel_rfl
end Go.Rk

namespace Go.Rk
open Go Go.Proofs
set_option linter.unusedSectionVars false
variable [Nt]
set_option maxRecDepth 1000000
noncomputable def Sd1 : Summ := fun f => bif Nat.beq f 32 then some (xDecT decs1) else none
noncomputable def Sd2 : Summ := fun f => bif Nat.beq f 32 then some (xDecT decs2) else none
theorem dec_one : lall (fun x => callA Tryz.prog (fun _ => none) (evC Tryz.prog (fun _ => none) 1000) 32 [.int .i64 (.ofNat x.1)] He (tStr x.2)) decs1 = true := by kernel_rfl
theorem dec_100 : callA Tryz.prog (fun _ => none) (evC Tryz.prog Sd1 1000) 32 [.int .i64 100] He (tStr [49, 48, 48]) = true := by kernel_rfl
theorem dec_1000 : callA Tryz.prog (fun _ => none) (evC Tryz.prog Sd2 1000) 32 [.int .i64 1000] He (tStr [49, 48, 48, 48]) = true := by kernel_rfl
end Go.Rk
