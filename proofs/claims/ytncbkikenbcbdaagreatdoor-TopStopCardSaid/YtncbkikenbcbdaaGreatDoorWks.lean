/- TopStop: inputs out of range, walked. No condition. -/
import Derived.Test.YtncbkikenbcbdaaGreatDoorRows
import Derived.WalkKit
import Derived.WalkSpells
import Derived.WalkLawsBesides
import Derived.Test.YtncbkikenbcbdaaGreatDoorTr
set_option linter.unusedVariables false
set_option linter.unusedSimpArgs false
set_option linter.unusedSectionVars false
namespace Go.Proofs.YtncbkikenbcbdaaGreatDoor
open Go.RowKit
set_option maxHeartbeats 400000 in
set_option maxRecDepth 10000 in
theorem stop_neg (n l : Int) (w : World) (h1 : n < 0) (known : ∀ w1 : World, Below w.heap.size w w1 → Calls Tryz.prog 6 #[] w1 fun e w' => e = .returned (.bool true) ∧ Below w1.heap.size w1 w') :
    Calls Tryz.prog 3 #[.int .i64 n, .int .i64 l] w fun e w' => e = .returned (.bool true) ∧ Below w.heap.size w w' := by
  have hb0 : Below w.heap.size w w := Below.refl _ _
  go_enter Tryz.func3, Tryz.ntmps3
  go_wp2_with (first
    | (go_at_call 6; refine (known _ (by assumption)).mono ?_; rintro e w' ⟨rfl, hb⟩; replace hb0 := hb0.trans (hb.mono hb0.size); clear hb))
  go_ret
  exact ⟨rfl, hb0⟩
set_option maxHeartbeats 400000 in
set_option maxRecDepth 10000 in
theorem stop_big (n l : Int) (w : World) (h1 : ¬ n < 0) (h2 : 4 < n) (known : ∀ w1 : World, Below w.heap.size w w1 → Calls Tryz.prog 6 #[] w1 fun e w' => e = .returned (.bool true) ∧ Below w1.heap.size w1 w') :
    Calls Tryz.prog 3 #[.int .i64 n, .int .i64 l] w fun e w' => e = .returned (.bool true) ∧ Below w.heap.size w w' := by
  have hb0 : Below w.heap.size w w := Below.refl _ _
  go_enter Tryz.func3, Tryz.ntmps3
  go_wp2_with (first
    | (go_at_call 6; refine (known _ (by assumption)).mono ?_; rintro e w' ⟨rfl, hb⟩; replace hb0 := hb0.trans (hb.mono hb0.size); clear hb))
  go_ret
  exact ⟨rfl, hb0⟩
set_option maxHeartbeats 400000 in
set_option maxRecDepth 10000 in
theorem stop_lneg (n l : Int) (w : World) (h1 : ¬ n < 0) (h2 : ¬ 4 < n) (h3 : l < 0) (known : ∀ w1 : World, Below w.heap.size w w1 → Calls Tryz.prog 6 #[] w1 fun e w' => e = .returned (.bool true) ∧ Below w1.heap.size w1 w') :
    Calls Tryz.prog 3 #[.int .i64 n, .int .i64 l] w fun e w' => e = .returned (.bool true) ∧ Below w.heap.size w w' := by
  have hb0 : Below w.heap.size w w := Below.refl _ _
  go_enter Tryz.func3, Tryz.ntmps3
  go_wp2_with (first
    | (go_at_call 6; refine (known _ (by assumption)).mono ?_; rintro e w' ⟨rfl, hb⟩; replace hb0 := hb0.trans (hb.mono hb0.size); clear hb))
  go_ret
  exact ⟨rfl, hb0⟩
set_option maxHeartbeats 400000 in
set_option maxRecDepth 10000 in
theorem stop_lbig (n l : Int) (w : World) (h1 : ¬ n < 0) (h2 : ¬ 4 < n) (h3 : ¬ l < 0) (h4 : 3 < l) (known : ∀ w1 : World, Below w.heap.size w w1 → Calls Tryz.prog 6 #[] w1 fun e w' => e = .returned (.bool true) ∧ Below w1.heap.size w1 w') :
    Calls Tryz.prog 3 #[.int .i64 n, .int .i64 l] w fun e w' => e = .returned (.bool true) ∧ Below w.heap.size w w' := by
  have hb0 : Below w.heap.size w w := Below.refl _ _
  go_enter Tryz.func3, Tryz.ntmps3
  go_wp2_with (first
    | (go_at_call 6; refine (known _ (by assumption)).mono ?_; rintro e w' ⟨rfl, hb⟩; replace hb0 := hb0.trans (hb.mono hb0.size); clear hb))
  go_ret
  exact ⟨rfl, hb0⟩
end Go.Proofs.YtncbkikenbcbdaaGreatDoor
