/- Constants of the program's own. No condition. -/
import Derived.Test.YtncbkikenbcbdaaGreatDoorProg
import Derived.KernelRfl
import Derived.Test.YtncbkikenbcbdaaGreatDoorXev
set_option linter.unusedVariables false
set_option linter.unusedSimpArgs false
set_option linter.unusedSectionVars false
set_option linter.constructorNameAsVariable false
namespace Go.Rk
open Go Go.Proofs
set_option linter.unusedSectionVars false
variable [Nt]
set_option maxRecDepth 1000000
theorem frac_2_3 : evCall Tryz.prog Sf 1000000 415 [.int .u64 2, .bool true] He (tU32 1116352408) = true := by kernel_rfl
theorem frac_11_3 : evCall Tryz.prog Sf 1000000 415 [.int .u64 11, .bool true] He (tU32 961987163) = true := by kernel_rfl
theorem frac_23_3 : evCall Tryz.prog Sf 1000000 415 [.int .u64 23, .bool true] He (tU32 3624381080) = true := by kernel_rfl
theorem frac_41_3 : evCall Tryz.prog Sf 1000000 415 [.int .u64 41, .bool true] He (tU32 1925078388) = true := by kernel_rfl
theorem frac_59_3 : evCall Tryz.prog Sf 1000000 415 [.int .u64 59, .bool true] He (tU32 3835390401) = true := by kernel_rfl
theorem frac_73_3 : evCall Tryz.prog Sf 1000000 415 [.int .u64 73, .bool true] He (tU32 770255983) = true := by kernel_rfl
theorem frac_97_3 : evCall Tryz.prog Sf 1000000 415 [.int .u64 97, .bool true] He (tU32 2554220882) = true := by kernel_rfl
theorem frac_109_3 : evCall Tryz.prog Sf 1000000 415 [.int .u64 109, .bool true] He (tU32 3336571891) = true := by kernel_rfl
theorem frac_137_3 : evCall Tryz.prog Sf 1000000 415 [.int .u64 137, .bool true] He (tU32 666307205) = true := by kernel_rfl
theorem frac_157_3 : evCall Tryz.prog Sf 1000000 415 [.int .u64 157, .bool true] He (tU32 1695183700) = true := by kernel_rfl
theorem frac_179_3 : evCall Tryz.prog Sf 1000000 415 [.int .u64 179, .bool true] He (tU32 2730485921) = true := by kernel_rfl
theorem frac_197_3 : evCall Tryz.prog Sf 1000000 415 [.int .u64 197, .bool true] He (tU32 3516065817) = true := by kernel_rfl
theorem frac_227_3 : evCall Tryz.prog Sf 1000000 415 [.int .u64 227, .bool true] He (tU32 430227734) = true := by kernel_rfl
theorem frac_241_3 : evCall Tryz.prog Sf 1000000 415 [.int .u64 241, .bool true] He (tU32 958139571) = true := by kernel_rfl
theorem frac_269_3 : evCall Tryz.prog Sf 1000000 415 [.int .u64 269, .bool true] He (tU32 1955562222) = true := by kernel_rfl
theorem frac_283_3 : evCall Tryz.prog Sf 1000000 415 [.int .u64 283, .bool true] He (tU32 2428436474) = true := by kernel_rfl
theorem frac_2_2 : evCall Tryz.prog Sf 1000000 415 [.int .u64 2, .bool false] He (tU32 1779033703) = true := by kernel_rfl
theorem frac_11_2 : evCall Tryz.prog Sf 1000000 415 [.int .u64 11, .bool false] He (tU32 1359893119) = true := by kernel_rfl
end Go.Rk

namespace Go.Rk
open Go Go.Proofs
set_option linter.unusedSectionVars false
variable [Nt]
set_option maxRecDepth 1000000
theorem frac_3_3 : evCall Tryz.prog Sf 1000000 415 [.int .u64 3, .bool true] He (tU32 1899447441) = true := by kernel_rfl
theorem frac_13_3 : evCall Tryz.prog Sf 1000000 415 [.int .u64 13, .bool true] He (tU32 1508970993) = true := by kernel_rfl
theorem frac_29_3 : evCall Tryz.prog Sf 1000000 415 [.int .u64 29, .bool true] He (tU32 310598401) = true := by kernel_rfl
theorem frac_43_3 : evCall Tryz.prog Sf 1000000 415 [.int .u64 43, .bool true] He (tU32 2162078206) = true := by kernel_rfl
theorem frac_61_3 : evCall Tryz.prog Sf 1000000 415 [.int .u64 61, .bool true] He (tU32 4022224774) = true := by kernel_rfl
theorem frac_79_3 : evCall Tryz.prog Sf 1000000 415 [.int .u64 79, .bool true] He (tU32 1249150122) = true := by kernel_rfl
theorem frac_101_3 : evCall Tryz.prog Sf 1000000 415 [.int .u64 101, .bool true] He (tU32 2821834349) = true := by kernel_rfl
theorem frac_113_3 : evCall Tryz.prog Sf 1000000 415 [.int .u64 113, .bool true] He (tU32 3584528711) = true := by kernel_rfl
theorem frac_139_3 : evCall Tryz.prog Sf 1000000 415 [.int .u64 139, .bool true] He (tU32 773529912) = true := by kernel_rfl
theorem frac_163_3 : evCall Tryz.prog Sf 1000000 415 [.int .u64 163, .bool true] He (tU32 1986661051) = true := by kernel_rfl
theorem frac_181_3 : evCall Tryz.prog Sf 1000000 415 [.int .u64 181, .bool true] He (tU32 2820302411) = true := by kernel_rfl
theorem frac_199_3 : evCall Tryz.prog Sf 1000000 415 [.int .u64 199, .bool true] He (tU32 3600352804) = true := by kernel_rfl
theorem frac_229_3 : evCall Tryz.prog Sf 1000000 415 [.int .u64 229, .bool true] He (tU32 506948616) = true := by kernel_rfl
theorem frac_251_3 : evCall Tryz.prog Sf 1000000 415 [.int .u64 251, .bool true] He (tU32 1322822218) = true := by kernel_rfl
theorem frac_271_3 : evCall Tryz.prog Sf 1000000 415 [.int .u64 271, .bool true] He (tU32 2024104815) = true := by kernel_rfl
theorem frac_293_3 : evCall Tryz.prog Sf 1000000 415 [.int .u64 293, .bool true] He (tU32 2756734187) = true := by kernel_rfl
theorem frac_3_2 : evCall Tryz.prog Sf 1000000 415 [.int .u64 3, .bool false] He (tU32 3144134277) = true := by kernel_rfl
theorem frac_13_2 : evCall Tryz.prog Sf 1000000 415 [.int .u64 13, .bool false] He (tU32 2600822924) = true := by kernel_rfl
end Go.Rk

namespace Go.Rk
open Go Go.Proofs
set_option linter.unusedSectionVars false
variable [Nt]
set_option maxRecDepth 1000000
theorem frac_5_3 : evCall Tryz.prog Sf 1000000 415 [.int .u64 5, .bool true] He (tU32 3049323471) = true := by kernel_rfl
theorem frac_17_3 : evCall Tryz.prog Sf 1000000 415 [.int .u64 17, .bool true] He (tU32 2453635748) = true := by kernel_rfl
theorem frac_31_3 : evCall Tryz.prog Sf 1000000 415 [.int .u64 31, .bool true] He (tU32 607225278) = true := by kernel_rfl
theorem frac_47_3 : evCall Tryz.prog Sf 1000000 415 [.int .u64 47, .bool true] He (tU32 2614888103) = true := by kernel_rfl
theorem frac_67_3 : evCall Tryz.prog Sf 1000000 415 [.int .u64 67, .bool true] He (tU32 264347078) = true := by kernel_rfl
theorem frac_83_3 : evCall Tryz.prog Sf 1000000 415 [.int .u64 83, .bool true] He (tU32 1555081692) = true := by kernel_rfl
theorem frac_103_3 : evCall Tryz.prog Sf 1000000 415 [.int .u64 103, .bool true] He (tU32 2952996808) = true := by kernel_rfl
theorem frac_127_3 : evCall Tryz.prog Sf 1000000 415 [.int .u64 127, .bool true] He (tU32 113926993) = true := by kernel_rfl
theorem frac_149_3 : evCall Tryz.prog Sf 1000000 415 [.int .u64 149, .bool true] He (tU32 1294757372) = true := by kernel_rfl
theorem frac_167_3 : evCall Tryz.prog Sf 1000000 415 [.int .u64 167, .bool true] He (tU32 2177026350) = true := by kernel_rfl
theorem frac_191_3 : evCall Tryz.prog Sf 1000000 415 [.int .u64 191, .bool true] He (tU32 3259730800) = true := by kernel_rfl
theorem frac_211_3 : evCall Tryz.prog Sf 1000000 415 [.int .u64 211, .bool true] He (tU32 4094571909) = true := by kernel_rfl
theorem frac_233_3 : evCall Tryz.prog Sf 1000000 415 [.int .u64 233, .bool true] He (tU32 659060556) = true := by kernel_rfl
theorem frac_257_3 : evCall Tryz.prog Sf 1000000 415 [.int .u64 257, .bool true] He (tU32 1537002063) = true := by kernel_rfl
theorem frac_277_3 : evCall Tryz.prog Sf 1000000 415 [.int .u64 277, .bool true] He (tU32 2227730452) = true := by kernel_rfl
theorem frac_307_3 : evCall Tryz.prog Sf 1000000 415 [.int .u64 307, .bool true] He (tU32 3204031479) = true := by kernel_rfl
theorem frac_5_2 : evCall Tryz.prog Sf 1000000 415 [.int .u64 5, .bool false] He (tU32 1013904242) = true := by kernel_rfl
theorem frac_17_2 : evCall Tryz.prog Sf 1000000 415 [.int .u64 17, .bool false] He (tU32 528734635) = true := by kernel_rfl
end Go.Rk

namespace Go.Rk
open Go Go.Proofs
set_option linter.unusedSectionVars false
variable [Nt]
set_option maxRecDepth 1000000
theorem frac_7_3 : evCall Tryz.prog Sf 1000000 415 [.int .u64 7, .bool true] He (tU32 3921009573) = true := by kernel_rfl
theorem frac_19_3 : evCall Tryz.prog Sf 1000000 415 [.int .u64 19, .bool true] He (tU32 2870763221) = true := by kernel_rfl
theorem frac_37_3 : evCall Tryz.prog Sf 1000000 415 [.int .u64 37, .bool true] He (tU32 1426881987) = true := by kernel_rfl
theorem frac_53_3 : evCall Tryz.prog Sf 1000000 415 [.int .u64 53, .bool true] He (tU32 3248222580) = true := by kernel_rfl
theorem frac_71_3 : evCall Tryz.prog Sf 1000000 415 [.int .u64 71, .bool true] He (tU32 604807628) = true := by kernel_rfl
theorem frac_89_3 : evCall Tryz.prog Sf 1000000 415 [.int .u64 89, .bool true] He (tU32 1996064986) = true := by kernel_rfl
theorem frac_107_3 : evCall Tryz.prog Sf 1000000 415 [.int .u64 107, .bool true] He (tU32 3210313671) = true := by kernel_rfl
theorem frac_131_3 : evCall Tryz.prog Sf 1000000 415 [.int .u64 131, .bool true] He (tU32 338241895) = true := by kernel_rfl
theorem frac_151_3 : evCall Tryz.prog Sf 1000000 415 [.int .u64 151, .bool true] He (tU32 1396182291) = true := by kernel_rfl
theorem frac_173_3 : evCall Tryz.prog Sf 1000000 415 [.int .u64 173, .bool true] He (tU32 2456956037) = true := by kernel_rfl
theorem frac_193_3 : evCall Tryz.prog Sf 1000000 415 [.int .u64 193, .bool true] He (tU32 3345764771) = true := by kernel_rfl
theorem frac_223_3 : evCall Tryz.prog Sf 1000000 415 [.int .u64 223, .bool true] He (tU32 275423344) = true := by kernel_rfl
theorem frac_239_3 : evCall Tryz.prog Sf 1000000 415 [.int .u64 239, .bool true] He (tU32 883997877) = true := by kernel_rfl
theorem frac_263_3 : evCall Tryz.prog Sf 1000000 415 [.int .u64 263, .bool true] He (tU32 1747873779) = true := by kernel_rfl
theorem frac_281_3 : evCall Tryz.prog Sf 1000000 415 [.int .u64 281, .bool true] He (tU32 2361852424) = true := by kernel_rfl
theorem frac_311_3 : evCall Tryz.prog Sf 1000000 415 [.int .u64 311, .bool true] He (tU32 3329325298) = true := by kernel_rfl
theorem frac_7_2 : evCall Tryz.prog Sf 1000000 415 [.int .u64 7, .bool false] He (tU32 2773480762) = true := by kernel_rfl
theorem frac_19_2 : evCall Tryz.prog Sf 1000000 415 [.int .u64 19, .bool false] He (tU32 1541459225) = true := by kernel_rfl
end Go.Rk
