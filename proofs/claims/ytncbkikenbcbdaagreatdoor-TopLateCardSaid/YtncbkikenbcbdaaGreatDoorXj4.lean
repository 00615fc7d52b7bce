/- A closed fact of TopLate's row. No condition. -/
import Derived.Test.YtncbkikenbcbdaaGreatDoorRows
import Derived.KernelRfl
import Derived.JoinedOf
set_option linter.unusedVariables false
set_option linter.unusedSimpArgs false
set_option linter.unusedSectionVars false
set_option linter.constructorNameAsVariable false
namespace Go.Proofs.YtncbkikenbcbdaaGreatDoor
theorem jl_named : (Rows.topLateRow.named == Tryz.prog.varsNamed 4) = true := by kernel_rfl
end Go.Proofs.YtncbkikenbcbdaaGreatDoor
