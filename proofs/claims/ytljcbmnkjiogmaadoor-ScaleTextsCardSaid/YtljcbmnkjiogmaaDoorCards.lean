/-
  DERIVED. GIVEN WITH THE SEED: THE CARDS: each row of YtljcbmnkjiogmaaDoorRows.lean that lists a variable, with what it lists TIED to the program's text (the seventh form; the later family's looks); each row that meets fmt, with fmt's text TOLD by the authors' own Lean function (tested against real Go, not proved from fmt's source: count such statements apart). THE CARD IS WHAT COUNTS. Prove the row's statement (the work); the ties are given (YtljcbmnkjiogmaaDoorTie.lean); close each card by the builder's one call (the guide's Derived/Test/ToyasCard.lean, 'card_holds'). Laid BY PROGRAM, IN A SANDBOX (cutbox-door.mjs). By AI agents, Wed Nov 11 2026. No macro, syntax, notation, axiom, sorry.
-/
import Derived.Test.YtljcbmnkjiogmaaDoorRows
import GoSem.ClaimSeven
namespace Go.Proofs.YtljcbmnkjiogmaaDoor
namespace Rows

/-- THE TIED CARD OF 'spylaw1.AlertPacks'. -/
def alertPacksCard : Claim7 := { stood := { row := alertPacksRow, standIns := [], harness := (true, "e407ac8d96dcd68175df4116950d608774b2c7b46c496467aafe978e208d5e89"), looks := false }, kinds := [], alts := [], laidByText := true, laidKinds := [.data, .data, .data], laidTests := true, laidLooks := .later }
def AlertPacksCardSaid : Prop := Claim7.holds Tryd.pinned (.plain (OpenSpec.ofChange alertPacksSpec)) alertPacksCard

/-- THE TIED CARD OF 'spylaw1.ScaleTexts'. -/
def scaleTextsCard : Claim7 := { stood := { row := scaleTextsRow, standIns := [], harness := (true, "e407ac8d96dcd68175df4116950d608774b2c7b46c496467aafe978e208d5e89"), looks := false }, kinds := [], alts := [], laidByText := true, laidKinds := [.data, .data, .data], laidTests := true, laidLooks := .later }
def ScaleTextsCardSaid : Prop := Claim7.holds Tryd.pinned (.plain (OpenSpec.ofChange scaleTextsSpec)) scaleTextsCard

/-- THE SECOND FORM's CARD OF 'spylaw1.AlertPacks'. -/
def alertPacksUptoCard : Claim7 := { stood := { row := alertPacksUptoRow, standIns := [], harness := (true, "e407ac8d96dcd68175df4116950d608774b2c7b46c496467aafe978e208d5e89"), looks := false }, kinds := [], alts := [], laidByText := true, laidKinds := [.data, .data, .data], laidTests := true, laidLooks := .later }
def AlertPacksUptoCardSaid : Prop := Claim7.holds Tryd.pinned (.plain (OpenSpec.upto alertPacksSpec)) alertPacksUptoCard

/-- THE SECOND FORM's CARD OF 'spylaw1.ScaleTexts'. -/
def scaleTextsUptoCard : Claim7 := { stood := { row := scaleTextsUptoRow, standIns := [], harness := (true, "e407ac8d96dcd68175df4116950d608774b2c7b46c496467aafe978e208d5e89"), looks := false }, kinds := [], alts := [], laidByText := true, laidKinds := [.data, .data, .data], laidTests := true, laidLooks := .later }
def ScaleTextsUptoCardSaid : Prop := Claim7.holds Tryd.pinned (.plain (OpenSpec.upto scaleTextsSpec)) scaleTextsUptoCard
end Rows
end Go.Proofs.YtljcbmnkjiogmaaDoor
