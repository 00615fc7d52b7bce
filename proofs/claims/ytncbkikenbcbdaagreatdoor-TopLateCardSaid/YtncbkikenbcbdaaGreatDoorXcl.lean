/- TopLate's card. No condition. -/
import Derived.Test.YtncbkikenbcbdaaGreatDoorCards
import Derived.SevenTiedAt
import Derived.Test.YtncbkikenbcbdaaGreatDoorGo
import Derived.Test.YtncbkikenbcbdaaGreatDoorXjl
set_option linter.unusedVariables false
set_option linter.unusedSimpArgs false
set_option linter.unusedSectionVars false
set_option linter.constructorNameAsVariable false
namespace Go.Proofs.YtncbkikenbcbdaaGreatDoor
open Go
theorem cl_goes : false = Rows.topLateRow.goesBy Tryz.prog := goesBy_of_none rfl none_goes
end Go.Proofs.YtncbkikenbcbdaaGreatDoor

namespace Go.Proofs.YtncbkikenbcbdaaGreatDoor
open Go
theorem topLate_card : Rows.TopLateCardSaid :=
  Claim7.holds_tied_plain_at .later [] [.data] true (true, "53029ac9bd130c380e75fc0802b7f7f2c14981a00a60cbd44e2e6f4517b046de") true
    topLate_holds (fun _ h => by cases h) (by kernel_rfl) (fun _ h => by cases h) topLate_row_tie rfl ⟨rfl, rfl⟩ (by kernel_rfl) rfl
    (fun f fn hf hfn => by
      obtain rfl : f = 4 := Option.some.inj ((show Tryz.prog.funcNamed "wayleave/wlvtop.TopLate" = some 4 by kernel_rfl).symm.trans hf) |>.symm
      obtain rfl : fn = Tryz.f4 := (Option.some.inj (Tryz.func4.symm.trans hfn)).symm
      exact ⟨by kernel_rfl, fun j t ht => by
        rw [Tryz.params4] at ht
        have hm : t ∈ [3, 34] := by simpa using Array.mem_of_getElem? ht
        have hall : ([3, 34].all fun u => !Tryz.prog.wantsStandIn u) = true := by kernel_rfl
        exact (show Tryz.prog.wantsStandIn t = false by simpa using List.all_eq_true.1 hall t hm)⟩)
    cl_goes
#print axioms topLate_card
end Go.Proofs.YtncbkikenbcbdaaGreatDoor
