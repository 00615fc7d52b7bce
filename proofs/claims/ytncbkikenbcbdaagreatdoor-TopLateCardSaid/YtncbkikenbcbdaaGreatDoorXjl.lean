/- TopLate's row. No condition. -/
import Derived.Test.YtncbkikenbcbdaaGreatDoorXj1
import Derived.Test.YtncbkikenbcbdaaGreatDoorXj2
import Derived.Test.YtncbkikenbcbdaaGreatDoorXj3
import Derived.Test.YtncbkikenbcbdaaGreatDoorXj4
import Derived.Test.YtncbkikenbcbdaaGreatDoorXtl
set_option linter.unusedVariables false
set_option linter.unusedSimpArgs false
set_option linter.unusedSectionVars false
set_option linter.constructorNameAsVariable false
namespace Go.Proofs.YtncbkikenbcbdaaGreatDoor
theorem j_late : joinedFacts Tryz.prog 4 Tryz.f4 Rows.topLateSpec Rows.topLateRow = true := by
  unfold joinedFacts
  rw [jl_inPlace, jl_unfollowed, jl_recurses, jl_named]
  kernel_rfl
end Go.Proofs.YtncbkikenbcbdaaGreatDoor

namespace Go.Proofs.YtncbkikenbcbdaaGreatDoor
theorem late_dec : decide (Tryz.f4.isInstance Tryz.prog Rows.topLateRow.origin Rows.topLateRow.targs) = true := by kernel_rfl
theorem topLate_holds : Rows.TopLateSaid :=
  OpenClaim.holds_of_wide 4 Tryz.f4 rfl rfl rfl rfl rfl rfl rfl ⟨rfl, rfl, rfl, rfl, rfl⟩ rfl rfl rfl rfl rfl (by kernel_rfl) Tryz.func4 j_late
    (of_decide_eq_true late_dec) (by unfold Func.isWrapper; first | (rw [if_pos (by decide +kernel)]; kernel_rfl) | (rw [if_neg (by decide +kernel)]; exact ⟨rfl, rfl⟩))
    (fun os started H enc _ => late_lifted os started H enc)
#print axioms topLate_holds
end Go.Proofs.YtncbkikenbcbdaaGreatDoor
