/- No function starts a goroutine. No condition. -/
import Derived.Test.YtncbkikenbcbdaaGreatDoorRows
import Derived.KernelRfl
import Derived.Seven
set_option linter.unusedVariables false
set_option linter.unusedSimpArgs false
set_option linter.unusedSectionVars false
namespace Go.Proofs.YtncbkikenbcbdaaGreatDoor
open Go
theorem none_goes : (Tryz.prog.funcs.toList.all fun f => !f.goes) = true := by kernel_rfl
theorem goesBy_of_none {P : Program} {c : OpenClaim} (hs : c.start = .entering) (h : (P.funcs.toList.all fun f => !f.goes) = true) : false = c.goesBy P := by
  have hf : ∀ f ∈ P.funcs.toList, f.goes = false := fun f hf => by simpa using List.all_eq_true.1 h f hf
  have hany : P.funcs.any Func.goes = false := by
    rw [← Array.any_toList]
    exact List.any_eq_false.2 fun f hf' => by simp [hf f hf']
  have hg : ∀ f, P.goes f = false := fun f => by
    unfold Program.goes
    rw [hany, Bool.and_false, Bool.or_false]
    refine List.any_eq_false.2 fun g _ => ?_
    cases hx : P.funcs[g]? with
    | none => simp
    | some fn => simp [hf fn (Array.mem_toList_iff.2 (Array.mem_of_getElem? hx))]
  unfold OpenClaim.goesBy Program.goesAt Program.goesFrom
  rw [hs]
  cases P.funcNamed c.func with
  | none => rfl
  | some f => simp [hg f]
end Go.Proofs.YtncbkikenbcbdaaGreatDoor
