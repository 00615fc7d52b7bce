/- TopGone's row. No condition. -/
import Derived.Test.YtncbkikenbcbdaaGreatDoorJ1
import Derived.Test.YtncbkikenbcbdaaGreatDoorJ2
import Derived.Test.YtncbkikenbcbdaaGreatDoorJ3
import Derived.Test.YtncbkikenbcbdaaGreatDoorJ4
import Derived.Test.YtncbkikenbcbdaaGreatDoorTg
set_option linter.unusedVariables false
set_option linter.unusedSimpArgs false
set_option linter.unusedSectionVars false
namespace Go.Proofs.YtncbkikenbcbdaaGreatDoor
theorem j_gone : joinedFacts Tryz.prog 5 Tryz.f5 Rows.topGoneSpec Rows.topGoneRow = true := by
  unfold joinedFacts
  rw [j_inPlace, j_unfollowed, j_recurses, j_named]
  kernel_rfl
end Go.Proofs.YtncbkikenbcbdaaGreatDoor

namespace Go.Proofs.YtncbkikenbcbdaaGreatDoor
theorem gone_dec : decide (Tryz.f5.isInstance Tryz.prog Rows.topGoneRow.origin Rows.topGoneRow.targs) = true := by kernel_rfl
theorem topGone_holds : Rows.TopGoneSaid :=
  OpenClaim.holds_of_wide 5 Tryz.f5 rfl rfl rfl rfl rfl rfl rfl ⟨rfl, rfl, rfl, rfl, rfl⟩ rfl rfl rfl rfl rfl (by kernel_rfl) Tryz.func5 j_gone
    (of_decide_eq_true gone_dec) (by unfold Func.isWrapper; first | (rw [if_pos (by decide +kernel)]; kernel_rfl) | (rw [if_neg (by decide +kernel)]; exact ⟨rfl, rfl⟩))
    (fun os started H enc _ => gone_lifted os started H enc)
#print axioms topGone_holds
end Go.Proofs.YtncbkikenbcbdaaGreatDoor
