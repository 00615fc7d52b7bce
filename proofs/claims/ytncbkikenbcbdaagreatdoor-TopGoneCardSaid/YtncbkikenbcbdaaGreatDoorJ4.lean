/- A closed fact of TopGone's row. No condition. -/
import Derived.Test.YtncbkikenbcbdaaGreatDoorRows
import Derived.KernelRfl
import Derived.JoinedOf
set_option linter.unusedVariables false
set_option linter.unusedSimpArgs false
set_option linter.unusedSectionVars false
namespace Go.Proofs.YtncbkikenbcbdaaGreatDoor
theorem j_named : (Rows.topGoneRow.named == Tryz.prog.varsNamed 5) = true := by kernel_rfl
end Go.Proofs.YtncbkikenbcbdaaGreatDoor
