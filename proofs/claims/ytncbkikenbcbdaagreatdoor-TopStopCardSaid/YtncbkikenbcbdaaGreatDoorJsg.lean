/- TopStop's row. No condition. -/
import Derived.Test.YtncbkikenbcbdaaGreatDoorJs1
import Derived.Test.YtncbkikenbcbdaaGreatDoorJs2
import Derived.Test.YtncbkikenbcbdaaGreatDoorJs3
import Derived.Test.YtncbkikenbcbdaaGreatDoorJs4
import Derived.Test.YtncbkikenbcbdaaGreatDoorTs
set_option linter.unusedVariables false
set_option linter.unusedSimpArgs false
set_option linter.unusedSectionVars false
namespace Go.Proofs.YtncbkikenbcbdaaGreatDoor
theorem j_stop : joinedFacts Tryz.prog 3 Tryz.f3 Rows.topStopSpec Rows.topStopRow = true := by
  unfold joinedFacts
  rw [js_inPlace, js_unfollowed, js_recurses, js_named]
  kernel_rfl
end Go.Proofs.YtncbkikenbcbdaaGreatDoor

namespace Go.Proofs.YtncbkikenbcbdaaGreatDoor
theorem stop_dec : decide (Tryz.f3.isInstance Tryz.prog Rows.topStopRow.origin Rows.topStopRow.targs) = true := by kernel_rfl
theorem topStop_holds : Rows.TopStopSaid :=
  OpenClaim.holds_of_wide 3 Tryz.f3 rfl rfl rfl rfl rfl rfl rfl ⟨rfl, rfl, rfl, rfl, rfl⟩ rfl rfl rfl rfl rfl (by kernel_rfl) Tryz.func3 j_stop
    (of_decide_eq_true stop_dec) (by unfold Func.isWrapper; first | (rw [if_pos (by decide +kernel)]; kernel_rfl) | (rw [if_neg (by decide +kernel)]; exact ⟨rfl, rfl⟩))
    (fun os started H enc _ => stop_lifted os started H enc)
#print axioms topStop_holds
end Go.Proofs.YtncbkikenbcbdaaGreatDoor
