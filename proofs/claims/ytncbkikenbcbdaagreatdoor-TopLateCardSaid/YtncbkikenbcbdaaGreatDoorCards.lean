/-
  DERIVED. GIVEN WITH THE SEED: THE CARDS: each row of YtncbkikenbcbdaaGreatDoorRows.lean that lists a variable, with what it lists TIED to the program's text (the seventh form; the later family's looks); each row that meets fmt, with fmt's text TOLD by the authors' own Lean function (tested against real Go, not proved from fmt's source: count such statements apart). THE CARD IS WHAT COUNTS. Prove the row's statement (the work); the ties are given (YtncbkikenbcbdaaGreatDoorTie.lean); close each card by the builder's one call (the guide's Derived/Test/ToyasCard.lean, 'card_holds'). Laid BY PROGRAM, IN A SANDBOX (cutbox-door.mjs). By AI agents, Wed Nov 11 2026. No macro, syntax, notation, axiom, sorry.
-/
import Derived.Test.YtncbkikenbcbdaaGreatDoorRows
import GoSem.ClaimSeven
namespace Go.Proofs.YtncbkikenbcbdaaGreatDoor
namespace Rows

/-- THE TIED CARD OF 'wlvtop.TopStop'. -/
def topStopCard : Claim7 := { stood := { row := topStopRow, standIns := [], harness := (true, "53029ac9bd130c380e75fc0802b7f7f2c14981a00a60cbd44e2e6f4517b046de"), looks := true }, kinds := [], alts := [], laidByText := true, laidKinds := [.data], laidTests := true, laidLooks := .later }
def TopStopCardSaid : Prop := Claim7.holds Tryz.pinned (.plain (OpenSpec.ofChange topStopSpec)) topStopCard

/-- THE TIED CARD OF 'wlvtop.TopLate'. -/
def topLateCard : Claim7 := { stood := { row := topLateRow, standIns := [], harness := (true, "53029ac9bd130c380e75fc0802b7f7f2c14981a00a60cbd44e2e6f4517b046de"), looks := true }, kinds := [], alts := [], laidByText := true, laidKinds := [.data], laidTests := true, laidLooks := .later }
def TopLateCardSaid : Prop := Claim7.holds Tryz.pinned (.plain (OpenSpec.ofChange topLateSpec)) topLateCard

/-- THE TIED CARD OF 'wlvtop.TopGone'. -/
def topGoneCard : Claim7 := { stood := { row := topGoneRow, standIns := [], harness := (true, "53029ac9bd130c380e75fc0802b7f7f2c14981a00a60cbd44e2e6f4517b046de"), looks := true }, kinds := [], alts := [], laidByText := true, laidKinds := [.data], laidTests := true, laidLooks := .later }
def TopGoneCardSaid : Prop := Claim7.holds Tryz.pinned (.plain (OpenSpec.ofChange topGoneSpec)) topGoneCard

/-- THE SECOND FORM's CARD OF 'wlvtop.TopStop'. -/
def topStopUptoCard : Claim7 := { stood := { row := topStopUptoRow, standIns := [], harness := (true, "53029ac9bd130c380e75fc0802b7f7f2c14981a00a60cbd44e2e6f4517b046de"), looks := true }, kinds := [], alts := [], laidByText := true, laidKinds := [.data], laidTests := true, laidLooks := .later }
def TopStopUptoCardSaid : Prop := Claim7.holds Tryz.pinned (.plain (OpenSpec.upto topStopSpec)) topStopUptoCard

/-- THE SECOND FORM's CARD OF 'wlvtop.TopLate'. -/
def topLateUptoCard : Claim7 := { stood := { row := topLateUptoRow, standIns := [], harness := (true, "53029ac9bd130c380e75fc0802b7f7f2c14981a00a60cbd44e2e6f4517b046de"), looks := true }, kinds := [], alts := [], laidByText := true, laidKinds := [.data], laidTests := true, laidLooks := .later }
def TopLateUptoCardSaid : Prop := Claim7.holds Tryz.pinned (.plain (OpenSpec.upto topLateSpec)) topLateUptoCard

/-- THE SECOND FORM's CARD OF 'wlvtop.TopGone'. -/
def topGoneUptoCard : Claim7 := { stood := { row := topGoneUptoRow, standIns := [], harness := (true, "53029ac9bd130c380e75fc0802b7f7f2c14981a00a60cbd44e2e6f4517b046de"), looks := true }, kinds := [], alts := [], laidByText := true, laidKinds := [.data], laidTests := true, laidLooks := .later }
def TopGoneUptoCardSaid : Prop := Claim7.holds Tryz.pinned (.plain (OpenSpec.upto topGoneSpec)) topGoneUptoCard
end Rows
end Go.Proofs.YtncbkikenbcbdaaGreatDoor
