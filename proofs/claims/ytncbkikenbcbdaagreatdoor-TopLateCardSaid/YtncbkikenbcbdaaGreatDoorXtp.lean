/- The table of powers of ten. No condition. -/
import Derived.Test.YtncbkikenbcbdaaGreatDoorRows
import Derived.ProofKit
import Derived.LaidMore
import Derived.OpenShut
import Derived.Stop.Joined
import Derived.Test.YtncbkikenbcbdaaGreatDoorXbe
set_option linter.unusedVariables false
set_option linter.unusedSimpArgs false
set_option linter.unusedSectionVars false
set_option linter.constructorNameAsVariable false
namespace Go.Proofs.YtncbkikenbcbdaaGreatDoor
set_option linter.unusedSectionVars false
open Go.ChangeShapes Go.WideShapes Go.ChangeAt Go.WideMaps Go.WideElems Go.RowKit Go.Rk
theorem own : ownKnob Tryz.prog.godebug = none := by kernel_rfl
theorem gPow : Tryz.prog.globalNamed "internal/strconv.uint64pow10" = some 1 := by kernel_rfl
theorem tPow : (Tryz.prog.globals[1]?).map (·.type) = some 456 := by kernel_rfl
def laid1 : List (String × DataW Unit) := [("internal/strconv.uint64pow10", Rows.laid_internal_strconv_uint64pow10)]
theorem door_met (os : Os) (args : Array Value) : laidMetH Tryz.prog laid1 ((World.doorLaid Tryz.prog 400 os).forCall (fun _ _ => 0) ⟨#[], args, []⟩).memory := by
  rw [MakeChecks.laidMetH_plain _ _ _ (by kernel_rfl)]
  exact laidMet_of_run' 8 (by kernel_rfl) (by kernel_rfl)
def litAV (d : DataW Unit) : AV := match d with | .lit (.int q n) => .int q n | _ => .undef
def aggL (d : DataW Unit) : List (DataW Unit) := match d with | .agg l => l | _ => []
theorem p10_lits : p10 20 1 = (aggL Rows.laid_internal_strconv_uint64pow10).map litAV := by kernel_rfl
theorem p10_len : (p10 20 1).length = 20 := by kernel_rfl
theorem c146 : Tryz.prog.cellsOf 146 = 1 := by kernel_rfl
theorem c456 : Tryz.prog.cellsOf 456 = 20 := by kernel_rfl
def sig0 : Sig := fun i => ⟨i, 0, 0⟩
/-- what the row's condition says of the table -/
theorem of_laid [Nt] [Nu] {W : World} (h : laidMetH Tryz.prog laid1 W) : ∃ t, Lies Tryz.prog sig0 2 W 1 (.cells (p10 20 1) t false) := by
  rw [MakeChecks.laidMetH_plain _ _ _ (by kernel_rfl)] at h
  obtain ⟨ps, ⟨g1, t1, cs1, f1, p1, q1, hg1, ht1, hv1, hd1, _, _⟩, _, _⟩ := h
  obtain rfl := Option.some.inj (gPow.symm.trans hg1)
  obtain rfl := Option.some.inj (tPow.symm.trans ht1)
  obtain ⟨xs, m1, rfl, hx1, hlen, hn3, hel⟩ := DataW.trod_array Tryz.underlying456 hd1
  have hheap : ∃ t fr, W.heap[1]? = some (.cells cs1 t fr) := by
    simp only [World.var?, gPow, Option.bind_some] at hv1
    split at hv1
    · rename_i h1; cases hv1; exact ⟨_, _, h1⟩
    · cases hv1
  obtain ⟨t, fr, hh⟩ := hheap
  rw [c456] at hlen
  have hsz : cs1.size = 20 := by simpa using hlen
  have hagg : (aggL Rows.laid_internal_strconv_uint64pow10) = xs.map (fun x => x.1) := by rw [(Prod.mk.inj hx1).1]; rfl
  have hp := p10_lits
  rw [hagg] at hp
  refine ⟨t, by rw [WfL_iff]; exact fun v hv => (p10_flat v hv).wf _ _, cs1, fr, hh, fun k v hk => ?_, ⟨(fun hq => by cases hq), Nat.dvd_zero _⟩, by rw [p10_len, hsz]; exact Nat.le_refl _, fun hq => by cases hq⟩
  have hk20 : k < 20 := by
    have : k < (p10 20 1).length := by
      rcases Nat.lt_or_ge k (p10 20 1).length with h | h
      · exact h
      · rw [List.getElem?_eq_none h] at hk; cases hk
    rwa [p10_len] at this
  have h0 := hel k hk20
  rw [List.getElem?_eq_getElem (by omega), c146, Nat.mul_one] at h0
  obtain ⟨n, e1, e2, _⟩ := DataW.trod_int Tryz.underlying146 h0
  have hv : v = .int .u64 n := by
    rw [hp, List.map_map, List.getElem?_map, List.getElem?_eq_getElem (by omega : k < xs.length), e2] at hk
    exact (Option.some.inj hk).symm
  subst hv
  show cs1[0 + k]? = some (.int .u64 n)
  have h1 := congrArg (fun l : List Value => l[0]?) e1
  simp only [List.getElem?_take, List.getElem?_drop, List.getElem?_cons_zero] at h1
  simpa using h1
end Go.Proofs.YtncbkikenbcbdaaGreatDoor
