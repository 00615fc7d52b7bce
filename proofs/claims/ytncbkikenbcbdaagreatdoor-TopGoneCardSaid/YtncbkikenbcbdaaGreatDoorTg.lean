/- TopGone at every input. No condition. -/
import Derived.Test.YtncbkikenbcbdaaGreatDoorWk
import Derived.Test.YtncbkikenbcbdaaGreatDoorYk
import Derived.Test.YtncbkikenbcbdaaGreatDoorKg0t
import Derived.Test.YtncbkikenbcbdaaGreatDoorKg0f
import Derived.Test.YtncbkikenbcbdaaGreatDoorKg1t
import Derived.Test.YtncbkikenbcbdaaGreatDoorKg1f
import Derived.Test.YtncbkikenbcbdaaGreatDoorKg2t
import Derived.Test.YtncbkikenbcbdaaGreatDoorKg2f
import Derived.Test.YtncbkikenbcbdaaGreatDoorKg3t
import Derived.Test.YtncbkikenbcbdaaGreatDoorKg3f
import Derived.Test.YtncbkikenbcbdaaGreatDoorKg4t
import Derived.Test.YtncbkikenbcbdaaGreatDoorKg4f
set_option linter.unusedVariables false
set_option linter.unusedSimpArgs false
set_option linter.unusedSectionVars false
namespace Go.Proofs.YtncbkikenbcbdaaGreatDoor
open Go.ChangeShapes Go.WideShapes Go.ChangeAt Go.WideMaps Go.WideElems Go.RowKit Go.Rk
theorem gone_run {W : World} {t : Nat} (hl : Lies Tryz.prog sig0 2 W 1 (.cells (p10 20 1) t false)) {n : Int} {d : Bool} (e : evCall Tryz.prog S6 1000000 5 [.int .i64 n, .bool d] (Hk t) tTrue = true) :
    Calls Tryz.prog 5 #[.int .i64 n, .bool d] W (Yes W) :=
  calls_of_run summ6 Tryz.func5 rfl (by kernel_rfl) e (s := sig0) (fun _ _ => ⟨rfl, rfl⟩) hl (fun a ha => by simp at ha; rcases ha with rfl | rfl <;> trivial)
theorem gone_calls {W : World} {t : Nat} (hl : Lies Tryz.prog sig0 2 W 1 (.cells (p10 20 1) t false)) (n : Int) (d : Bool) : Calls Tryz.prog 5 #[.int .i64 n, .bool d] W (Yes W) := by
  by_cases h1 : n < 0
  · exact gone_neg n d W h1 (known_calls hl)
  by_cases h2 : 4 < n
  · exact gone_big n d W h1 h2 (known_calls hl)
  have h3 : n = 0 ∨ n = 1 ∨ n = 2 ∨ n = 3 ∨ n = 4 := by omega
  rcases h3 with rfl | rfl | rfl | rfl | rfl <;> cases d
  · exact gone_run hl (gone_0_false t)
  · exact gone_run hl (gone_0_true t)
  · exact gone_run hl (gone_1_false t)
  · exact gone_run hl (gone_1_true t)
  · exact gone_run hl (gone_2_false t)
  · exact gone_run hl (gone_2_true t)
  · exact gone_run hl (gone_3_false t)
  · exact gone_run hl (gone_3_true t)
  · exact gone_run hl (gone_4_false t)
  · exact gone_run hl (gone_4_true t)
set_option maxRecDepth 100000 in
theorem gone_lifted (os : Os) (started : os.Started) (H : Type) (enc : TypeId × Value → H) :
    ReturnsInHanded {} Tryz.checked os 5 .any (fun w args => (Rows.topGoneSpec.pre enc Tryz.prog Tryz.f5 [] false w args ∧ laidMetH Tryz.prog laid1 w) ∧ sizedMet enc Tryz.prog Tryz.f5 (OpenSpec.ofChange Rows.topGoneSpec) false w args)
      (Rows.topGoneSpec.post enc Tryz.prog Tryz.f5 false true false false) := by
  refine returnsInHanded_of_change_and (C := Tryz.checked) (X := fun w _ => laidMetH Tryz.prog laid1 w) (fun _ _ _ hh h => h.of_heap hh) own started (by kernel_rfl) Tryz.func5
    (ChangeSpec.witness_shaped (enc := enc) (C := Tryz.checked) (os := os) (X := fun w _ => laidMetH Tryz.prog laid1 w) false (World.doorLaid Tryz.prog 400 os) #[.int .i64 0, .bool false] 8 rfl (World.shaped_of_RefB (by kernel_rfl) (by kernel_rfl)) (by kernel_rfl) (by kernel_rfl) (by kernel_rfl) (door_met os _)) ?_
  intro W base args ds gs before hval0 hW _ _ hL _
  have hval : ∀ (j : Nat) t v, Tryz.f5.params[j]? = some t → args[j]? = some v → Value.okWide Tryz.prog W .any base t v := hval0
  have hW' := hW
  obtain ⟨p, q, hA0, hV, rfl, hfz, hnd⟩ := hW
  have hA : DataW.TrodAll enc Tryz.prog W 0 (fun _ => true) true Tryz.f5.params.toList args.toList ds p := hA0
  rw [Tryz.params5] at hA hval
  obtain ⟨v0, v1, d0, d1, p0, p1, rfl, rfl, rfl, h0, h1⟩ := trodAll_two hA
  obtain ⟨rfl, rfl⟩ := trodVars_none hV
  obtain ⟨n, rfl, rfl, rfl, wa⟩ := open_int Tryz.underlying3 (hval 0 3 v0 rfl rfl) h0
  obtain ⟨d, rfl, rfl, rfl⟩ := open_bool Tryz.underlying4 (hval 1 4 v1 rfl rfl) h1
  obtain ⟨t, hl⟩ := of_laid hL
  clear hA0 hval0
  simp only [List.append_nil] at hW'
  refine (gone_calls hl n d).mono fun e W' ⟨he, hB⟩ => ?_
  subst he
  exact ⟨_, rfl, _, _, _, [], [], [], hW', trodAll_mk1 (shut_bool Tryz.underlying4 _), trodAll_mk2 (shut_int Tryz.underlying3 wa) (shut_bool Tryz.underlying4 _), rfl, hB.frame _, fun h => by cases h⟩
end Go.Proofs.YtncbkikenbcbdaaGreatDoor
