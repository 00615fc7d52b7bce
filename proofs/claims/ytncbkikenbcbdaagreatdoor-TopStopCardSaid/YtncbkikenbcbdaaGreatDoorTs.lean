/- TopStop at every input. No condition. -/
import Derived.Test.YtncbkikenbcbdaaGreatDoorWks
import Derived.Test.YtncbkikenbcbdaaGreatDoorYk
import Derived.Test.YtncbkikenbcbdaaGreatDoorKs00
import Derived.Test.YtncbkikenbcbdaaGreatDoorKs01
import Derived.Test.YtncbkikenbcbdaaGreatDoorKs02
import Derived.Test.YtncbkikenbcbdaaGreatDoorKs03
import Derived.Test.YtncbkikenbcbdaaGreatDoorKs10
import Derived.Test.YtncbkikenbcbdaaGreatDoorKs11
import Derived.Test.YtncbkikenbcbdaaGreatDoorKs12
import Derived.Test.YtncbkikenbcbdaaGreatDoorKs13
import Derived.Test.YtncbkikenbcbdaaGreatDoorKs20
import Derived.Test.YtncbkikenbcbdaaGreatDoorKs21
import Derived.Test.YtncbkikenbcbdaaGreatDoorKs22
import Derived.Test.YtncbkikenbcbdaaGreatDoorKs23
import Derived.Test.YtncbkikenbcbdaaGreatDoorKs30
import Derived.Test.YtncbkikenbcbdaaGreatDoorKs31
import Derived.Test.YtncbkikenbcbdaaGreatDoorKs32
import Derived.Test.YtncbkikenbcbdaaGreatDoorKs33
import Derived.Test.YtncbkikenbcbdaaGreatDoorKs40
import Derived.Test.YtncbkikenbcbdaaGreatDoorKs41
import Derived.Test.YtncbkikenbcbdaaGreatDoorKs42
import Derived.Test.YtncbkikenbcbdaaGreatDoorKs43
set_option linter.unusedVariables false
set_option linter.unusedSimpArgs false
set_option linter.unusedSectionVars false
namespace Go.Proofs.YtncbkikenbcbdaaGreatDoor
open Go.ChangeShapes Go.WideShapes Go.ChangeAt Go.WideMaps Go.WideElems Go.RowKit Go.Rk
theorem stop_run {W : World} {t : Nat} (hl : Lies Tryz.prog sig0 2 W 1 (.cells (p10 20 1) t false)) {n l : Int} (e : evCall Tryz.prog S6 1000000 3 [.int .i64 n, .int .i64 l] (Hk t) tTrue = true) :
    Calls Tryz.prog 3 #[.int .i64 n, .int .i64 l] W (Yes W) :=
  calls_of_run summ6 Tryz.func3 rfl (by kernel_rfl) e (s := sig0) (fun _ _ => ⟨rfl, rfl⟩) hl (fun a ha => by simp at ha; rcases ha with rfl | rfl <;> trivial)
theorem stop_calls {W : World} {t : Nat} (hl : Lies Tryz.prog sig0 2 W 1 (.cells (p10 20 1) t false)) (n l : Int) : Calls Tryz.prog 3 #[.int .i64 n, .int .i64 l] W (Yes W) := by
  by_cases h1 : n < 0
  · exact stop_neg n l W h1 (known_calls hl)
  by_cases h2 : 4 < n
  · exact stop_big n l W h1 h2 (known_calls hl)
  by_cases h3 : l < 0
  · exact stop_lneg n l W h1 h2 h3 (known_calls hl)
  by_cases h4 : 3 < l
  · exact stop_lbig n l W h1 h2 h3 h4 (known_calls hl)
  have h5 : n = 0 ∨ n = 1 ∨ n = 2 ∨ n = 3 ∨ n = 4 := by omega
  have h6 : l = 0 ∨ l = 1 ∨ l = 2 ∨ l = 3 := by omega
  rcases h5 with rfl | rfl | rfl | rfl | rfl <;> rcases h6 with rfl | rfl | rfl | rfl
  · exact stop_run hl (stop_0_0 t)
  · exact stop_run hl (stop_0_1 t)
  · exact stop_run hl (stop_0_2 t)
  · exact stop_run hl (stop_0_3 t)
  · exact stop_run hl (stop_1_0 t)
  · exact stop_run hl (stop_1_1 t)
  · exact stop_run hl (stop_1_2 t)
  · exact stop_run hl (stop_1_3 t)
  · exact stop_run hl (stop_2_0 t)
  · exact stop_run hl (stop_2_1 t)
  · exact stop_run hl (stop_2_2 t)
  · exact stop_run hl (stop_2_3 t)
  · exact stop_run hl (stop_3_0 t)
  · exact stop_run hl (stop_3_1 t)
  · exact stop_run hl (stop_3_2 t)
  · exact stop_run hl (stop_3_3 t)
  · exact stop_run hl (stop_4_0 t)
  · exact stop_run hl (stop_4_1 t)
  · exact stop_run hl (stop_4_2 t)
  · exact stop_run hl (stop_4_3 t)
set_option maxRecDepth 100000 in
theorem stop_lifted (os : Os) (started : os.Started) (H : Type) (enc : TypeId × Value → H) :
    ReturnsInHanded {} Tryz.checked os 3 .any (fun w args => (Rows.topStopSpec.pre enc Tryz.prog Tryz.f3 [] false w args ∧ laidMetH Tryz.prog laid1 w) ∧ sizedMet enc Tryz.prog Tryz.f3 (OpenSpec.ofChange Rows.topStopSpec) false w args)
      (Rows.topStopSpec.post enc Tryz.prog Tryz.f3 false true false false) := by
  refine returnsInHanded_of_change_and (C := Tryz.checked) (X := fun w _ => laidMetH Tryz.prog laid1 w) (fun _ _ _ hh h => h.of_heap hh) own started (by kernel_rfl) Tryz.func3
    (ChangeSpec.witness_shaped (enc := enc) (C := Tryz.checked) (os := os) (X := fun w _ => laidMetH Tryz.prog laid1 w) false (World.doorLaid Tryz.prog 400 os) #[.int .i64 0, .int .i64 0] 8 rfl (World.shaped_of_RefB (by kernel_rfl) (by kernel_rfl)) (by kernel_rfl) (by kernel_rfl) (by kernel_rfl) (door_met os _)) ?_
  intro W base args ds gs before hval0 hW _ _ hL _
  have hval : ∀ (j : Nat) t v, Tryz.f3.params[j]? = some t → args[j]? = some v → Value.okWide Tryz.prog W .any base t v := hval0
  have hW' := hW
  obtain ⟨p, q, hA0, hV, rfl, hfz, hnd⟩ := hW
  have hA : DataW.TrodAll enc Tryz.prog W 0 (fun _ => true) true Tryz.f3.params.toList args.toList ds p := hA0
  rw [Tryz.params3] at hA hval
  obtain ⟨v0, v1, d0, d1, p0, p1, rfl, rfl, rfl, h0, h1⟩ := trodAll_two hA
  obtain ⟨rfl, rfl⟩ := trodVars_none hV
  obtain ⟨n, rfl, rfl, rfl, wa⟩ := open_int Tryz.underlying3 (hval 0 3 v0 rfl rfl) h0
  obtain ⟨l, rfl, rfl, rfl, wb⟩ := open_int Tryz.underlying3 (hval 1 3 v1 rfl rfl) h1
  obtain ⟨t, hl⟩ := of_laid hL
  clear hA0 hval0
  simp only [List.append_nil] at hW'
  refine (stop_calls hl n l).mono fun e W' ⟨he, hB⟩ => ?_
  subst he
  exact ⟨_, rfl, _, _, _, [], [], [], hW', trodAll_mk1 (shut_bool Tryz.underlying4 _), trodAll_mk2 (shut_int Tryz.underlying3 wa) (shut_int Tryz.underlying3 wb), rfl, hB.frame _, fun h => by cases h⟩
end Go.Proofs.YtncbkikenbcbdaaGreatDoor
