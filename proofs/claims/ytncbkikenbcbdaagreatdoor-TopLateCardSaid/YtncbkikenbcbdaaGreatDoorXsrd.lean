/- Constants, part 4. No condition. -/
import Derived.Test.YtncbkikenbcbdaaGreatDoorProg
import Derived.KernelRfl
import Derived.Test.YtncbkikenbcbdaaGreatDoorXev
set_option linter.unusedVariables false
set_option linter.unusedSimpArgs false
set_option linter.unusedSectionVars false
set_option linter.constructorNameAsVariable false
namespace Go.Rk
open Go Go.Proofs
set_option linter.unusedSectionVars false
variable [Nt]
set_option maxRecDepth 1000000
theorem root_29_3 : evCall Tryz.prog (fun _ => none) 1000000 72 [.int .i64 29, .int .i64 3] He (tU32 310598401) = true := by kernel_rfl
theorem root_79_3 : evCall Tryz.prog (fun _ => none) 1000000 72 [.int .i64 79, .int .i64 3] He (tU32 1249150122) = true := by kernel_rfl
theorem root_139_3 : evCall Tryz.prog (fun _ => none) 1000000 72 [.int .i64 139, .int .i64 3] He (tU32 773529912) = true := by kernel_rfl
theorem root_199_3 : evCall Tryz.prog (fun _ => none) 1000000 72 [.int .i64 199, .int .i64 3] He (tU32 3600352804) = true := by kernel_rfl
theorem root_271_3 : evCall Tryz.prog (fun _ => none) 1000000 72 [.int .i64 271, .int .i64 3] He (tU32 2024104815) = true := by kernel_rfl
theorem root_13_2 : evCall Tryz.prog (fun _ => none) 1000000 72 [.int .i64 13, .int .i64 2] He (tU32 2600822924) = true := by kernel_rfl
end Go.Rk

namespace Go.Rk
open Go Go.Proofs
set_option linter.unusedSectionVars false
variable [Nt]
set_option maxRecDepth 1000000
theorem root_31_3 : evCall Tryz.prog (fun _ => none) 1000000 72 [.int .i64 31, .int .i64 3] He (tU32 607225278) = true := by kernel_rfl
theorem root_83_3 : evCall Tryz.prog (fun _ => none) 1000000 72 [.int .i64 83, .int .i64 3] He (tU32 1555081692) = true := by kernel_rfl
theorem root_149_3 : evCall Tryz.prog (fun _ => none) 1000000 72 [.int .i64 149, .int .i64 3] He (tU32 1294757372) = true := by kernel_rfl
theorem root_211_3 : evCall Tryz.prog (fun _ => none) 1000000 72 [.int .i64 211, .int .i64 3] He (tU32 4094571909) = true := by kernel_rfl
theorem root_277_3 : evCall Tryz.prog (fun _ => none) 1000000 72 [.int .i64 277, .int .i64 3] He (tU32 2227730452) = true := by kernel_rfl
theorem root_17_2 : evCall Tryz.prog (fun _ => none) 1000000 72 [.int .i64 17, .int .i64 2] He (tU32 528734635) = true := by kernel_rfl
end Go.Rk

namespace Go.Rk
open Go Go.Proofs
set_option linter.unusedSectionVars false
variable [Nt]
set_option maxRecDepth 1000000
theorem root_37_3 : evCall Tryz.prog (fun _ => none) 1000000 72 [.int .i64 37, .int .i64 3] He (tU32 1426881987) = true := by kernel_rfl
theorem root_89_3 : evCall Tryz.prog (fun _ => none) 1000000 72 [.int .i64 89, .int .i64 3] He (tU32 1996064986) = true := by kernel_rfl
theorem root_151_3 : evCall Tryz.prog (fun _ => none) 1000000 72 [.int .i64 151, .int .i64 3] He (tU32 1396182291) = true := by kernel_rfl
theorem root_223_3 : evCall Tryz.prog (fun _ => none) 1000000 72 [.int .i64 223, .int .i64 3] He (tU32 275423344) = true := by kernel_rfl
theorem root_281_3 : evCall Tryz.prog (fun _ => none) 1000000 72 [.int .i64 281, .int .i64 3] He (tU32 2361852424) = true := by kernel_rfl
theorem root_19_2 : evCall Tryz.prog (fun _ => none) 1000000 72 [.int .i64 19, .int .i64 2] He (tU32 1541459225) = true := by kernel_rfl
end Go.Rk
