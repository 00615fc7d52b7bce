/- Constants, part 2. No condition. -/
import Derived.Test.YtncbkikenbcbdaaGreatDoorProg
import Derived.KernelRfl
import Derived.Test.YtncbkikenbcbdaaGreatDoorXev
set_option linter.unusedVariables false
set_option linter.unusedSimpArgs false
set_option linter.unusedSectionVars false
set_option linter.constructorNameAsVariable false
namespace Go.Rk
open Go Go.Proofs
set_option linter.unusedSectionVars false
variable [Nt]
set_option maxRecDepth 1000000
theorem root_7_3 : evCall Tryz.prog (fun _ => none) 1000000 72 [.int .i64 7, .int .i64 3] He (tU32 3921009573) = true := by kernel_rfl
theorem root_53_3 : evCall Tryz.prog (fun _ => none) 1000000 72 [.int .i64 53, .int .i64 3] He (tU32 3248222580) = true := by kernel_rfl
theorem root_107_3 : evCall Tryz.prog (fun _ => none) 1000000 72 [.int .i64 107, .int .i64 3] He (tU32 3210313671) = true := by kernel_rfl
theorem root_173_3 : evCall Tryz.prog (fun _ => none) 1000000 72 [.int .i64 173, .int .i64 3] He (tU32 2456956037) = true := by kernel_rfl
theorem root_239_3 : evCall Tryz.prog (fun _ => none) 1000000 72 [.int .i64 239, .int .i64 3] He (tU32 883997877) = true := by kernel_rfl
theorem root_311_3 : evCall Tryz.prog (fun _ => none) 1000000 72 [.int .i64 311, .int .i64 3] He (tU32 3329325298) = true := by kernel_rfl
end Go.Rk

namespace Go.Rk
open Go Go.Proofs
set_option linter.unusedSectionVars false
variable [Nt]
set_option maxRecDepth 1000000
theorem root_11_3 : evCall Tryz.prog (fun _ => none) 1000000 72 [.int .i64 11, .int .i64 3] He (tU32 961987163) = true := by kernel_rfl
theorem root_59_3 : evCall Tryz.prog (fun _ => none) 1000000 72 [.int .i64 59, .int .i64 3] He (tU32 3835390401) = true := by kernel_rfl
theorem root_109_3 : evCall Tryz.prog (fun _ => none) 1000000 72 [.int .i64 109, .int .i64 3] He (tU32 3336571891) = true := by kernel_rfl
theorem root_179_3 : evCall Tryz.prog (fun _ => none) 1000000 72 [.int .i64 179, .int .i64 3] He (tU32 2730485921) = true := by kernel_rfl
theorem root_241_3 : evCall Tryz.prog (fun _ => none) 1000000 72 [.int .i64 241, .int .i64 3] He (tU32 958139571) = true := by kernel_rfl
theorem root_2_2 : evCall Tryz.prog (fun _ => none) 1000000 72 [.int .i64 2, .int .i64 2] He (tU32 1779033703) = true := by kernel_rfl
end Go.Rk

namespace Go.Rk
open Go Go.Proofs
set_option linter.unusedSectionVars false
variable [Nt]
set_option maxRecDepth 1000000
theorem root_13_3 : evCall Tryz.prog (fun _ => none) 1000000 72 [.int .i64 13, .int .i64 3] He (tU32 1508970993) = true := by kernel_rfl
theorem root_61_3 : evCall Tryz.prog (fun _ => none) 1000000 72 [.int .i64 61, .int .i64 3] He (tU32 4022224774) = true := by kernel_rfl
theorem root_113_3 : evCall Tryz.prog (fun _ => none) 1000000 72 [.int .i64 113, .int .i64 3] He (tU32 3584528711) = true := by kernel_rfl
theorem root_181_3 : evCall Tryz.prog (fun _ => none) 1000000 72 [.int .i64 181, .int .i64 3] He (tU32 2820302411) = true := by kernel_rfl
theorem root_251_3 : evCall Tryz.prog (fun _ => none) 1000000 72 [.int .i64 251, .int .i64 3] He (tU32 1322822218) = true := by kernel_rfl
theorem root_3_2 : evCall Tryz.prog (fun _ => none) 1000000 72 [.int .i64 3, .int .i64 2] He (tU32 3144134277) = true := by kernel_rfl
end Go.Rk
