/- TopLate, lifted. No condition. -/
import Derived.Carry
import Derived.Test.YtncbkikenbcbdaaGreatDoorTie
import Derived.Test.YtncbkikenbcbdaaGreatDoorCards
import Derived.Test.YtncbkikenbcbdaaGreatDoorXlr
import Derived.Test.YtncbkikenbcbdaaGreatDoorXtp
set_option linter.unusedVariables false
set_option linter.unusedSimpArgs false
set_option linter.unusedSectionVars false
set_option linter.constructorNameAsVariable false
namespace Go.Proofs.YtncbkikenbcbdaaGreatDoor
open Go.ChangeShapes Go.WideShapes Go.ChangeAt Go.WideMaps Go.WideElems Go.RowKit Go.Rk
theorem laidOut_tryz : laidOutB Tryz.prog = true := by kernel_rfl
theorem cells3_tryz : Tryz.prog.cellsOf 3 = 1 := by kernel_rfl
theorem laid_all {W : World} (h : laidMetH Tryz.prog laid1 W) : ∃ t, ∀ (T : Nt) (M : @Nu T), @Lies T M LP lsig 2 W 1 (.cells (p10 20 1) t false) := by
  obtain ⟨t, hl⟩ := @of_laid NtE (nuE fun _ => 0) W h
  refine ⟨t, fun T M => ?_⟩
  exact Lies_agree (nuE fun _ => 0) M (S := noSym) (fun j hj => absurd hj Bool.false_ne_true) (show okL noSym (p10 20 1) = true by kernel_rfl) hl
theorem cell_heap {W : World} {b o : Nat} {v : Value} (h : W.cell? ⟨b, o, none⟩ = some v) : ∃ C t fr, W.heap[b]? = some (.cells C t fr) ∧ C[o]? = some v := by
  unfold World.cell? at h
  split at h
  · rename_i C t fr hh
    exact ⟨C, t, fr, hh, by simpa using h⟩
  · cases h
theorem ticks_nil (W : World) : Ticks W (.slice none 0 0) [] := ⟨none, 0, rfl, fun i n h => by simp at h⟩
theorem ticks_ints {W : World} {a : Addr} {len cap : Nat} {zs : List Int} (hz : len ≤ zs.length) (hcell : ∀ i, i < zs.length → W.cell? (a.add i) = some (.int .i64 (zs.getD i 0))) : Ticks W (.slice (some a) len cap) (zs.take len) := by
  refine ⟨some a, cap, by rw [List.length_take, Nat.min_eq_left hz], fun i n h => ?_⟩
  have hi : i < len := by
    have := (List.getElem?_eq_some_iff.1 h).1
    rw [List.length_take, Nat.min_eq_left hz] at this
    exact this
  obtain ⟨b, off, rfl, hc⟩ := ints_at hcell (by omega)
  have h1 := hc i (by omega)
  rw [List.getElem?_take_of_lt hi] at h
  have h2 : zs.getD i 0 = n := by rw [List.getD, h]; rfl
  rw [h2] at h1
  obtain ⟨C, t, fr, g1, g2⟩ := cell_heap h1
  exact ⟨_, C, t, fr, rfl, rfl, (Array.getElem?_eq_some_iff.1 g1).1, g1, g2⟩
set_option maxRecDepth 100000 in
theorem late_lifted (os : Os) (started : os.Started) (H : Type) (enc : TypeId × Value → H) :
    ReturnsInHanded {} Tryz.checked os 4 .any (fun w args => (Rows.topLateSpec.pre enc Tryz.prog Tryz.f4 [] false w args ∧ laidMetH Tryz.prog laid1 w) ∧ sizedMet enc Tryz.prog Tryz.f4 (OpenSpec.ofChange Rows.topLateSpec) false w args)
      (Rows.topLateSpec.post enc Tryz.prog Tryz.f4 false true false false) := by
  refine returnsInHanded_of_change_and (C := Tryz.checked) (X := fun w _ => laidMetH Tryz.prog laid1 w) (fun _ _ _ hh h => h.of_heap hh) own started (by kernel_rfl) Tryz.func4
    (ChangeSpec.witness_shaped (enc := enc) (C := Tryz.checked) (os := os) (X := fun w _ => laidMetH Tryz.prog laid1 w) false (World.doorLaid Tryz.prog 400 os) #[.int .i64 0, .slice none 0 0] 8 rfl (World.shaped_of_RefB (by kernel_rfl) (by kernel_rfl)) (by kernel_rfl) (by kernel_rfl) (by kernel_rfl) (door_met os _)) ?_
  intro W base args ds gs before hval0 hW _ _ hL _
  have hval : ∀ (j : Nat) t v, Tryz.f4.params[j]? = some t → args[j]? = some v → Value.okWide Tryz.prog W .any base t v := hval0
  have hW' := hW
  obtain ⟨p, q, hA0, hV, rfl, hfz, hnd⟩ := hW
  have hA : DataW.TrodAll enc Tryz.prog W 0 (fun _ => true) true Tryz.f4.params.toList args.toList ds p := hA0
  rw [Tryz.params4] at hA hval
  obtain ⟨v0, v1, d0, d1, p0, p1, rfl, rfl, rfl, h0, h1⟩ := trodAll_two hA
  obtain ⟨rfl, rfl⟩ := trodVars_none hV
  obtain ⟨n, rfl, rfl, rfl, wa⟩ := open_int Tryz.underlying3 (hval 0 3 v0 rfl rfl) h0
  obtain ⟨a0, len, cap, rfl⟩ := okWide_slice Tryz.underlying34 (hval 1 34 v1 rfl rfl)
  obtain ⟨t, hl⟩ := laid_all hL
  have h1k := h1
  obtain ⟨fuel, hf⟩ := h1
  clear hA0 hval0
  simp only [List.append_nil, List.nil_append] at hW'
  have hlt : ∀ x ∈ p1, x.block < W.heap.size := fun x hx => by simpa using hW'.lt x hx
  have hargs : ∀ (W' : World), Below W.heap.size W W' → DataW.Trod enc Tryz.prog W' 0 (fun b => decide (b < W.heap.size)) true 34 (.slice a0 len cap) d1 p1 :=
    fun W' hn => Below.trod laidOut_tryz (by kernel_rfl) (of_decide_eq_true (by kernel_rfl)) h1k hn hlt
  have hT : ∃ xs, Ticks W (.slice a0 len cap) xs := by
    rcases open_ints Tryz.underlying34 Tryz.underlying3 cells3_tryz hf with ⟨hcs, hx⟩ | ⟨a, len', cap', zs, hcs, _, hl', hm, hz, hx, hcell, hwz⟩
    · simp [Value.cells] at hcs
      obtain ⟨rfl, rfl, rfl⟩ := hcs
      exact ⟨_, ticks_nil W⟩
    · simp [Value.cells] at hcs
      obtain ⟨rfl, rfl, rfl⟩ := hcs
      simp only [if_true] at hz
      exact ⟨_, ticks_ints (by omega) hcell⟩
  obtain ⟨xs, hT⟩ := hT
  refine (late_calls hT hl n).mono fun e W' ⟨he, hB⟩ => ?_
  subst he
  exact ⟨_, rfl, _, _, _, [], p1, [], hW', trodAll_mk1 (shut_bool Tryz.underlying4 _), trodAll_mk2 (shut_int Tryz.underlying3 wa) (hargs _ hB), rfl, hB.frame _, fun h => by cases h⟩
end Go.Proofs.YtncbkikenbcbdaaGreatDoor
