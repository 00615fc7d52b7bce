/- The call of known. No condition. -/
import Derived.Test.YtncbkikenbcbdaaGreatDoorTie
import Derived.Test.YtncbkikenbcbdaaGreatDoorCards
import Derived.Test.YtncbkikenbcbdaaGreatDoorTr
import Derived.Test.YtncbkikenbcbdaaGreatDoorTp
set_option linter.unusedVariables false
set_option linter.unusedSimpArgs false
set_option linter.unusedSectionVars false
namespace Go.Proofs.YtncbkikenbcbdaaGreatDoor
open Go.ChangeShapes Go.WideShapes Go.ChangeAt Go.WideMaps Go.WideElems Go.RowKit Go.Rk
def Yes (w : World) (e : Ending) (w' : World) : Prop := e = .returned (.bool true) ∧ Below w.heap.size w w'
theorem known_calls {W : World} {t : Nat} (hl : Lies Tryz.prog sig0 2 W 1 (.cells (p10 20 1) t false)) (w1 : World) (hB : Below W.heap.size W w1) :
    Calls Tryz.prog 6 #[] w1 fun e w' => e = .returned (.bool true) ∧ Below w1.heap.size w1 w' :=
  calls_of_run summ5 Tryz.func6 rfl (by kernel_rfl) (known_run t) (s := sig0) (fun _ _ => ⟨rfl, rfl⟩)
    (hl.keep (Nat.le_refl _) (fun _ _ => rfl) rfl (fun x hx => (hB.block 1 (lt_of_get hx)).trans hx)) (fun a ha => absurd ha (by simp))
end Go.Proofs.YtncbkikenbcbdaaGreatDoor
