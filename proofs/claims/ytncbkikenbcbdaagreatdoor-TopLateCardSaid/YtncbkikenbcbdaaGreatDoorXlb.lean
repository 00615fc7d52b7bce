/- Slices.Sorted at this program. No condition. -/
import Derived.Shelf.SlIterI.Nil
import Derived.Shelf.SortM.Plain
import Derived.Shelf.SortM.SortNone
import Derived.Ground.GgzProg
import Derived.Ground.SlgmProg
import Derived.Test.YtncbkikenbcbdaaGreatDoorProg
import Derived.Test.YtncbkikenbcbdaaGreatDoorXbf
import Derived.Test.YtncbkikenbcbdaaGreatDoorLa
set_option linter.unusedVariables false
set_option linter.unusedSimpArgs false
set_option linter.unusedSectionVars false
set_option linter.constructorNameAsVariable false
namespace Go.Proofs
open Go.RowKit Go.Maps Go.Sort Go.Shelf
set_option linter.unusedSectionVars false
theorem Tryz.sortsA (m : Nat) : AnyZI.SortsIn Tryz.prog Tryz.sortedA_ren Fence.wide m :=
  ⟨fun blk off cap ss W hH hblk hsz => callsIn_wide.2 (AnyM.slices_Sort_int Tryz.sortA blk off cap ss W hH hblk hsz),
   fun p cap W => callsIn_wide.2 (AnyM.slices_Sort_int_none Tryz.sortA p cap W)⟩
open Go.Rk
variable [Nt] [Nu]
theorem sorted_at {g : FuncId} (eg : ∀ args w, (callFunc g args).run Tryz.prog w = .ok (.enter g args) w)
    (hG : ∀ (w : World) (Bm o b nn : Nat) (D0 : DataW Unit) (R : Value → Option (DataW Unit × List MemPlace)), Bm < w.heap.size → w.cell? ⟨Bm, o, none⟩ = some (.map (some b)) → w.ownsMap Tryz.prog 3 R b nn D0 →
      SeqGives Fence.wide 2 Tryz.prog g #[.pointer (some ⟨Bm, o, none⟩)] encZ (fun ss => ss.Perm (intKeys D0)) (Maps.size D0) w) : SortedAt Tryz.prog 37 g := by
  intro w Bm o b nn D0 R hBm hm hown hmax hbytes
  have cS := AnyZI.sorted_in Tryz.sortedA Fence.wide 5 trivial trivial trivial trivial rfl (by omega) (Tryz.sortsA _) (enters_of Tryz.func62 (by kernel_rfl) rfl) g #[.pointer (some ⟨Bm, o, none⟩)] trivial eg _ _ hmax hbytes w (hG w Bm o b nn D0 R hBm hm hown)
  exact callsIn_wide.1 cS
theorem sorted63 : SortedAt Tryz.prog 37 63 := sorted_at (enters_of Tryz.func63 (by kernel_rfl) rfl) (fun w Bm o b nn D0 R hBm hm hown => keysAt_gives (ρ := Tryz.keysA_ren) { Tryz.keysA with } Fence.wide 2 trivial rfl (by omega) Bm o b nn D0 w hBm hm hown)
theorem sorted65 : SortedAt Tryz.prog 37 65 := sorted_at (enters_of Tryz.func65 (by kernel_rfl) rfl) (fun w Bm o b nn D0 R hBm hm hown => keysAt_gives (ρ := Tryz.keysB_ren) { Tryz.keysB with } Fence.wide 2 trivial rfl (by omega) Bm o b nn D0 w hBm hm hown)
theorem sorted160 : SortedAt Tryz.prog 37 160 := sorted_at (enters_of Tryz.func160 (by kernel_rfl) rfl) (fun w Bm o b nn D0 R hBm hm hown => keysAt_gives (ρ := Tryz.keysC_ren) { Tryz.keysC with } Fence.wide 2 trivial rfl (by omega) Bm o b nn D0 w hBm hm hown)
theorem ok37 : SmOk Tryz.prog 37 xSorted1 := xSorted1_ok sorted63 sorted65 sorted160 (enters_of Tryz.func37 (by kernel_rfl) rfl) (by kernel_rfl) (by kernel_rfl)
#print axioms ok37
end Go.Proofs
