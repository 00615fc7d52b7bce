/- Constants, part 1. No condition. -/
import Derived.Test.YtncbkikenbcbdaaGreatDoorProg
import Derived.KernelRfl
import Derived.Test.YtncbkikenbcbdaaGreatDoorXev
set_option linter.unusedVariables false
set_option linter.unusedSimpArgs false
set_option linter.unusedSectionVars false
set_option linter.constructorNameAsVariable false
namespace Go.Rk
open Go Go.Proofs
set_option linter.unusedSectionVars false
variable [Nt]
set_option maxRecDepth 1000000
theorem root_2_3 : evCall Tryz.prog (fun _ => none) 1000000 72 [.int .i64 2, .int .i64 3] He (tU32 1116352408) = true := by kernel_rfl
theorem root_41_3 : evCall Tryz.prog (fun _ => none) 1000000 72 [.int .i64 41, .int .i64 3] He (tU32 1925078388) = true := by kernel_rfl
theorem root_97_3 : evCall Tryz.prog (fun _ => none) 1000000 72 [.int .i64 97, .int .i64 3] He (tU32 2554220882) = true := by kernel_rfl
theorem root_157_3 : evCall Tryz.prog (fun _ => none) 1000000 72 [.int .i64 157, .int .i64 3] He (tU32 1695183700) = true := by kernel_rfl
theorem root_227_3 : evCall Tryz.prog (fun _ => none) 1000000 72 [.int .i64 227, .int .i64 3] He (tU32 430227734) = true := by kernel_rfl
theorem root_283_3 : evCall Tryz.prog (fun _ => none) 1000000 72 [.int .i64 283, .int .i64 3] He (tU32 2428436474) = true := by kernel_rfl
end Go.Rk

namespace Go.Rk
open Go Go.Proofs
set_option linter.unusedSectionVars false
variable [Nt]
set_option maxRecDepth 1000000
theorem root_3_3 : evCall Tryz.prog (fun _ => none) 1000000 72 [.int .i64 3, .int .i64 3] He (tU32 1899447441) = true := by kernel_rfl
theorem root_43_3 : evCall Tryz.prog (fun _ => none) 1000000 72 [.int .i64 43, .int .i64 3] He (tU32 2162078206) = true := by kernel_rfl
theorem root_101_3 : evCall Tryz.prog (fun _ => none) 1000000 72 [.int .i64 101, .int .i64 3] He (tU32 2821834349) = true := by kernel_rfl
theorem root_163_3 : evCall Tryz.prog (fun _ => none) 1000000 72 [.int .i64 163, .int .i64 3] He (tU32 1986661051) = true := by kernel_rfl
theorem root_229_3 : evCall Tryz.prog (fun _ => none) 1000000 72 [.int .i64 229, .int .i64 3] He (tU32 506948616) = true := by kernel_rfl
theorem root_293_3 : evCall Tryz.prog (fun _ => none) 1000000 72 [.int .i64 293, .int .i64 3] He (tU32 2756734187) = true := by kernel_rfl
end Go.Rk

namespace Go.Rk
open Go Go.Proofs
set_option linter.unusedSectionVars false
variable [Nt]
set_option maxRecDepth 1000000
theorem root_5_3 : evCall Tryz.prog (fun _ => none) 1000000 72 [.int .i64 5, .int .i64 3] He (tU32 3049323471) = true := by kernel_rfl
theorem root_47_3 : evCall Tryz.prog (fun _ => none) 1000000 72 [.int .i64 47, .int .i64 3] He (tU32 2614888103) = true := by kernel_rfl
theorem root_103_3 : evCall Tryz.prog (fun _ => none) 1000000 72 [.int .i64 103, .int .i64 3] He (tU32 2952996808) = true := by kernel_rfl
theorem root_167_3 : evCall Tryz.prog (fun _ => none) 1000000 72 [.int .i64 167, .int .i64 3] He (tU32 2177026350) = true := by kernel_rfl
theorem root_233_3 : evCall Tryz.prog (fun _ => none) 1000000 72 [.int .i64 233, .int .i64 3] He (tU32 659060556) = true := by kernel_rfl
theorem root_307_3 : evCall Tryz.prog (fun _ => none) 1000000 72 [.int .i64 307, .int .i64 3] He (tU32 3204031479) = true := by kernel_rfl
end Go.Rk
