/- Constants, part 3. No condition. -/
import Derived.Test.YtncbkikenbcbdaaGreatDoorProg
import Derived.KernelRfl
import Derived.Test.YtncbkikenbcbdaaGreatDoorXev
set_option linter.unusedVariables false
set_option linter.unusedSimpArgs false
set_option linter.unusedSectionVars false
set_option linter.constructorNameAsVariable false
namespace Go.Rk
open Go Go.Proofs
set_option linter.unusedSectionVars false
variable [Nt]
set_option maxRecDepth 1000000
theorem root_17_3 : evCall Tryz.prog (fun _ => none) 1000000 72 [.int .i64 17, .int .i64 3] He (tU32 2453635748) = true := by kernel_rfl
theorem root_67_3 : evCall Tryz.prog (fun _ => none) 1000000 72 [.int .i64 67, .int .i64 3] He (tU32 264347078) = true := by kernel_rfl
theorem root_127_3 : evCall Tryz.prog (fun _ => none) 1000000 72 [.int .i64 127, .int .i64 3] He (tU32 113926993) = true := by kernel_rfl
theorem root_191_3 : evCall Tryz.prog (fun _ => none) 1000000 72 [.int .i64 191, .int .i64 3] He (tU32 3259730800) = true := by kernel_rfl
theorem root_257_3 : evCall Tryz.prog (fun _ => none) 1000000 72 [.int .i64 257, .int .i64 3] He (tU32 1537002063) = true := by kernel_rfl
theorem root_5_2 : evCall Tryz.prog (fun _ => none) 1000000 72 [.int .i64 5, .int .i64 2] He (tU32 1013904242) = true := by kernel_rfl
end Go.Rk

namespace Go.Rk
open Go Go.Proofs
set_option linter.unusedSectionVars false
variable [Nt]
set_option maxRecDepth 1000000
theorem root_19_3 : evCall Tryz.prog (fun _ => none) 1000000 72 [.int .i64 19, .int .i64 3] He (tU32 2870763221) = true := by kernel_rfl
theorem root_71_3 : evCall Tryz.prog (fun _ => none) 1000000 72 [.int .i64 71, .int .i64 3] He (tU32 604807628) = true := by kernel_rfl
theorem root_131_3 : evCall Tryz.prog (fun _ => none) 1000000 72 [.int .i64 131, .int .i64 3] He (tU32 338241895) = true := by kernel_rfl
theorem root_193_3 : evCall Tryz.prog (fun _ => none) 1000000 72 [.int .i64 193, .int .i64 3] He (tU32 3345764771) = true := by kernel_rfl
theorem root_263_3 : evCall Tryz.prog (fun _ => none) 1000000 72 [.int .i64 263, .int .i64 3] He (tU32 1747873779) = true := by kernel_rfl
theorem root_7_2 : evCall Tryz.prog (fun _ => none) 1000000 72 [.int .i64 7, .int .i64 2] He (tU32 2773480762) = true := by kernel_rfl
end Go.Rk

namespace Go.Rk
open Go Go.Proofs
set_option linter.unusedSectionVars false
variable [Nt]
set_option maxRecDepth 1000000
theorem root_23_3 : evCall Tryz.prog (fun _ => none) 1000000 72 [.int .i64 23, .int .i64 3] He (tU32 3624381080) = true := by kernel_rfl
theorem root_73_3 : evCall Tryz.prog (fun _ => none) 1000000 72 [.int .i64 73, .int .i64 3] He (tU32 770255983) = true := by kernel_rfl
theorem root_137_3 : evCall Tryz.prog (fun _ => none) 1000000 72 [.int .i64 137, .int .i64 3] He (tU32 666307205) = true := by kernel_rfl
theorem root_197_3 : evCall Tryz.prog (fun _ => none) 1000000 72 [.int .i64 197, .int .i64 3] He (tU32 3516065817) = true := by kernel_rfl
theorem root_269_3 : evCall Tryz.prog (fun _ => none) 1000000 72 [.int .i64 269, .int .i64 3] He (tU32 1955562222) = true := by kernel_rfl
theorem root_11_2 : evCall Tryz.prog (fun _ => none) 1000000 72 [.int .i64 11, .int .i64 2] He (tU32 1359893119) = true := by kernel_rfl
end Go.Rk
