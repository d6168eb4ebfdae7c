/-
  DERIVED. GIVEN WITH THE SEED: THE CARDS: each row of YtljcbmnkjiogmaaGreatDoorRows.lean that lists a variable, with what it lists TIED to the program's text (the seventh form; the later family's looks); each row that meets fmt, with fmt's text TOLD by the authors' own Lean function (tested against real Go, not proved from fmt's source: count such statements apart). THE CARD IS WHAT COUNTS. Prove the row's statement (the work); the ties are given (YtljcbmnkjiogmaaGreatDoorTie.lean); close each card by the builder's one call (the guide's Derived/Test/ToyasCard.lean, 'card_holds'). Laid BY PROGRAM, IN A SANDBOX (cutbox-door.mjs). By AI agents, Wed Nov 11 2026. No macro, syntax, notation, axiom, sorry.
-/
import Derived.Test.YtljcbmnkjiogmaaGreatDoorRows
import GoSem.ClaimSeven
namespace Go.Proofs.YtljcbmnkjiogmaaGreatDoor
namespace Rows

/-- THE TIED CARD OF 'spylaw1.AlertChecks'. -/
def alertChecksCard : Claim7 := { stood := { row := alertChecksRow, standIns := [], harness := (true, "1e3acc69ce7ad1fe402adc797e29c3977301235dec21f0a0c6a6470c537be3f7"), looks := false }, kinds := [], alts := [], laidByText := true, laidKinds := [.data, .data, .data, .data, .pinned], laidTests := true, laidLooks := .later }
def AlertChecksCardSaid : Prop := Claim7.holds Tryz.pinned (.plain (OpenSpec.ofChange alertChecksSpec)) alertChecksCard

/-- THE SECOND FORM's CARD OF 'spylaw1.AlertChecks'. -/
def alertChecksUptoCard : Claim7 := { stood := { row := alertChecksUptoRow, standIns := [], harness := (true, "1e3acc69ce7ad1fe402adc797e29c3977301235dec21f0a0c6a6470c537be3f7"), looks := false }, kinds := [], alts := [], laidByText := true, laidKinds := [.data, .data, .data, .data, .pinned], laidTests := true, laidLooks := .later }
def AlertChecksUptoCardSaid : Prop := Claim7.holds Tryz.pinned (.plain (OpenSpec.upto alertChecksSpec)) alertChecksUptoCard
end Rows
end Go.Proofs.YtljcbmnkjiogmaaGreatDoor
