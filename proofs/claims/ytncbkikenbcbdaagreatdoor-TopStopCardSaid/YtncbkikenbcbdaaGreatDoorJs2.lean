/- A closed fact of TopStop's row. No condition. -/
import Derived.Test.YtncbkikenbcbdaaGreatDoorRows
import Derived.KernelRfl
import Derived.JoinedOf
set_option linter.unusedVariables false
set_option linter.unusedSimpArgs false
set_option linter.unusedSectionVars false
namespace Go.Proofs.YtncbkikenbcbdaaGreatDoor
theorem js_unfollowed : (Rows.topStopRow.unfollowed == Tryz.prog.unfollowed 3) = true := by kernel_rfl
end Go.Proofs.YtncbkikenbcbdaaGreatDoor
