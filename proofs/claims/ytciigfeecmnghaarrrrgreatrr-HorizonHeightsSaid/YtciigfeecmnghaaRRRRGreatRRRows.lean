/-
  No cell of these rows narrows 'for every input' (looked for: loops, veiled, ifaces, maps, wideKeys, modest, calm, conditions, laid).
  DERIVED. THE GIVEN ROWS OF THIS SEAT. 4 by the template 'for every input the law returns true; each argument reads behind the call as it read before'; 0 by the template 'total and deterministic' (their statements: YtciigfeecmnghaaRRRRGreatRRTotals.lean).
  GIVEN WITH THE SEED: the statements are not yours to turn. If you find one false, say at which input.
  Laid BY PROGRAM, IN A SANDBOX (cutbox-rows.mjs): the forced cells as the released guide's own fill.sh prints them over the translation c3325624424fbdca… (all of the seat's roots in one cut). By AI agents, Wed Nov 11 2026. No macro, syntax, notation, axiom, sorry.
-/
import Derived.Test.YtciigfeecmnghaaRRRRGreatRRChecked
import GoSem.Claim
import GoSem.ClaimJoined
import GoSem.ClaimMapViews
import Derived.JoinedTies
import Derived.KernelRfl
namespace Go.Proofs.YtciigfeecmnghaaRRRRGreatRR
/- THE CELL 'sum', in the pinned program and in every row, IS THE sha256 OF THE DUMP (.gsa) THAT YtciigfeecmnghaaRRRRGreatRRProg.lean LOADS. Nothing in Lean hashes anything: it is a label: what it is worth is what the hold of that sum in a sandbox is worth. -/
noncomputable def Tryz.pinned : Pinned := { name := "ytciigfeecmnghaarrrrgreatrr", sum := "c3325624424fbdcaf8598a05388272f6c14e1627167febf25b562e8c52253cd3", checked := Tryz.checked }
namespace Rows
def none {H : Type} : Left H := { results := [], args := [] }

/-- 'spylaw1.HorizonHeights': WHATEVER THE INPUT: true; the input reads as it did. -/
def horizonHeightsSpec : ChangeSpec := { name := "horizonHeights", fn := fun _ => fun
  | [d1, d2, d3] => { results := [.lit (.bool true)], args := [d1, d2, d3] }
  | _ => none }
def horizonHeightsRow : OpenClaim := { program := "ytciigfeecmnghaarrrrgreatrr", sum := "c3325624424fbdcaf8598a05388272f6c14e1627167febf25b562e8c52253cd3", func := "spyglass/spylaw1.HorizonHeights", spec := "horizonHeights", inPlace := ["math/bits.Add64"], unfollowed := true, recurses := true, named := ["math/bits.divideError", "math/bits.overflowError"], apart := false }
def HorizonHeightsSaid : Prop := horizonHeightsRow.holds Tryz.pinned (OpenSpec.ofChange horizonHeightsSpec)

/-- ITS FALSE NEIGHBOUR: 'it returns false'. Refute it at one input. -/
def horizonHeightsWrong : ChangeSpec := { name := "horizonHeights", fn := fun _ => fun
  | [d1, d2, d3] => { results := [.lit (.bool false)], args := [d1, d2, d3] }
  | _ => none }
def HorizonHeightsWrongFalsely : Prop := horizonHeightsRow.holds Tryz.pinned (OpenSpec.ofChange horizonHeightsWrong)

/-- 'spylaw1.TilePlaces': WHATEVER THE INPUT: true; the input reads as it did. -/
def tilePlacesSpec : ChangeSpec := { name := "tilePlaces", fn := fun _ => fun
  | [d1, d2, d3] => { results := [.lit (.bool true)], args := [d1, d2, d3] }
  | _ => none }
def tilePlacesRow : OpenClaim := { program := "ytciigfeecmnghaarrrrgreatrr", sum := "c3325624424fbdcaf8598a05388272f6c14e1627167febf25b562e8c52253cd3", func := "spyglass/spylaw1.TilePlaces", spec := "tilePlaces", inPlace := ["math/bits.Add64"], unfollowed := true, recurses := true, named := ["math/bits.divideError", "math/bits.overflowError"], apart := false }
def TilePlacesSaid : Prop := tilePlacesRow.holds Tryz.pinned (OpenSpec.ofChange tilePlacesSpec)

/-- ITS FALSE NEIGHBOUR: 'it returns false'. Refute it at one input. -/
def tilePlacesWrong : ChangeSpec := { name := "tilePlaces", fn := fun _ => fun
  | [d1, d2, d3] => { results := [.lit (.bool false)], args := [d1, d2, d3] }
  | _ => none }
def TilePlacesWrongFalsely : Prop := tilePlacesRow.holds Tryz.pinned (OpenSpec.ofChange tilePlacesWrong)

/-- 'spylaw1.TileCones': WHATEVER THE INPUT: true; the input reads as it did. -/
def tileConesSpec : ChangeSpec := { name := "tileCones", fn := fun _ => fun
  | [d1, d2, d3] => { results := [.lit (.bool true)], args := [d1, d2, d3] }
  | _ => none }
def tileConesRow : OpenClaim := { program := "ytciigfeecmnghaarrrrgreatrr", sum := "c3325624424fbdcaf8598a05388272f6c14e1627167febf25b562e8c52253cd3", func := "spyglass/spylaw1.TileCones", spec := "tileCones", inPlace := ["math/bits.Add64"], unfollowed := true, recurses := true, named := ["math/bits.divideError", "math/bits.overflowError"], apart := false }
def TileConesSaid : Prop := tileConesRow.holds Tryz.pinned (OpenSpec.ofChange tileConesSpec)

/-- ITS FALSE NEIGHBOUR: 'it returns false'. Refute it at one input. -/
def tileConesWrong : ChangeSpec := { name := "tileCones", fn := fun _ => fun
  | [d1, d2, d3] => { results := [.lit (.bool false)], args := [d1, d2, d3] }
  | _ => none }
def TileConesWrongFalsely : Prop := tileConesRow.holds Tryz.pinned (OpenSpec.ofChange tileConesWrong)

/-- 'spylaw1.TileZones': WHATEVER THE INPUT: true; the input reads as it did. -/
def tileZonesSpec : ChangeSpec := { name := "tileZones", fn := fun _ => fun
  | [d1, d2] => { results := [.lit (.bool true)], args := [d1, d2] }
  | _ => none }
def tileZonesRow : OpenClaim := { program := "ytciigfeecmnghaarrrrgreatrr", sum := "c3325624424fbdcaf8598a05388272f6c14e1627167febf25b562e8c52253cd3", func := "spyglass/spylaw1.TileZones", spec := "tileZones", inPlace := ["math/bits.Add64"], unfollowed := true, recurses := true, named := ["math/bits.divideError", "math/bits.overflowError"], apart := false }
def TileZonesSaid : Prop := tileZonesRow.holds Tryz.pinned (OpenSpec.ofChange tileZonesSpec)

/-- ITS FALSE NEIGHBOUR: 'it returns false'. Refute it at one input. -/
def tileZonesWrong : ChangeSpec := { name := "tileZones", fn := fun _ => fun
  | [d1, d2] => { results := [.lit (.bool false)], args := [d1, d2] }
  | _ => none }
def TileZonesWrongFalsely : Prop := tileZonesRow.holds Tryz.pinned (OpenSpec.ofChange tileZonesWrong)

/- THE SECOND FORM. 'bulk': how many values and letters a reading holds, each counted each time it is reached (what is shared counts as often as it is met; a slice's spare places count too). A statement '..UptoSaid' is the law's where the arguments, and the package variables that the reading takes, are together of bulk at most 1048576: NARROWER than '..Said'. Prove '..Said' where nothing that the law and all that it calls make is longer than what came in: it says more and counts as full. Else prove '..UptoSaid'. A law counts once. -/
mutual
def uptoBulk {H : Type} : DataW H → Nat
  | .lit (.string bytes) => bytes.length + 1
  | .lit _ => 1
  | .nil => 1
  | .ptr d => uptoBulk d + 1
  | .slice elems spare => uptoBulkAll elems + uptoBulkAll spare + 1
  | .agg parts => uptoBulkAll parts + 1
  | .iface _ d => uptoBulk d + 1
  | .map entries => uptoBulkEntries entries + 1
  | .held _ => 1
def uptoBulkAll {H : Type} : List (DataW H) → Nat
  | [] => 0
  | d :: r => uptoBulk d + uptoBulkAll r
def uptoBulkEntries {H : Type} : List (Lit × DataW H) → Nat
  | [] => 0
  | x :: r => uptoBulkEntry x + uptoBulkEntries r
def uptoBulkEntry {H : Type} : Lit × DataW H → Nat
  | (.string bytes, d) => bytes.length + uptoBulk d + 1
  | (_, d) => uptoBulk d + 1
 end
def uptoSmall : (H : Type) → List (DataW H) → Bool := fun _ ds => decide (uptoBulkAll ds ≤ 1048576)
def OpenSpec.upto (s : _root_.Go.ChangeSpec) : _root_.Go.OpenSpec := { _root_.Go.OpenSpec.ofChange s with cond := some uptoSmall }

/-- 'spylaw1.HorizonHeights', WHERE WHAT IT READS IS OF BULK AT MOST 1048576: true; the input reads as it did. -/
def horizonHeightsUptoRow : OpenClaim := { program := "ytciigfeecmnghaarrrrgreatrr", sum := "c3325624424fbdcaf8598a05388272f6c14e1627167febf25b562e8c52253cd3", func := "spyglass/spylaw1.HorizonHeights", spec := "horizonHeights", inPlace := ["math/bits.Add64"], unfollowed := true, recurses := true, named := ["math/bits.divideError", "math/bits.overflowError"], apart := false, narrowed := true }
def HorizonHeightsUptoSaid : Prop := horizonHeightsUptoRow.holds Tryz.pinned (OpenSpec.upto horizonHeightsSpec)

/-- 'spylaw1.TilePlaces', WHERE WHAT IT READS IS OF BULK AT MOST 1048576: true; the input reads as it did. -/
def tilePlacesUptoRow : OpenClaim := { program := "ytciigfeecmnghaarrrrgreatrr", sum := "c3325624424fbdcaf8598a05388272f6c14e1627167febf25b562e8c52253cd3", func := "spyglass/spylaw1.TilePlaces", spec := "tilePlaces", inPlace := ["math/bits.Add64"], unfollowed := true, recurses := true, named := ["math/bits.divideError", "math/bits.overflowError"], apart := false, narrowed := true }
def TilePlacesUptoSaid : Prop := tilePlacesUptoRow.holds Tryz.pinned (OpenSpec.upto tilePlacesSpec)

/-- 'spylaw1.TileCones', WHERE WHAT IT READS IS OF BULK AT MOST 1048576: true; the input reads as it did. -/
def tileConesUptoRow : OpenClaim := { program := "ytciigfeecmnghaarrrrgreatrr", sum := "c3325624424fbdcaf8598a05388272f6c14e1627167febf25b562e8c52253cd3", func := "spyglass/spylaw1.TileCones", spec := "tileCones", inPlace := ["math/bits.Add64"], unfollowed := true, recurses := true, named := ["math/bits.divideError", "math/bits.overflowError"], apart := false, narrowed := true }
def TileConesUptoSaid : Prop := tileConesUptoRow.holds Tryz.pinned (OpenSpec.upto tileConesSpec)

/-- 'spylaw1.TileZones', WHERE WHAT IT READS IS OF BULK AT MOST 1048576: true; the input reads as it did. -/
def tileZonesUptoRow : OpenClaim := { program := "ytciigfeecmnghaarrrrgreatrr", sum := "c3325624424fbdcaf8598a05388272f6c14e1627167febf25b562e8c52253cd3", func := "spyglass/spylaw1.TileZones", spec := "tileZones", inPlace := ["math/bits.Add64"], unfollowed := true, recurses := true, named := ["math/bits.divideError", "math/bits.overflowError"], apart := false, narrowed := true }
def TileZonesUptoSaid : Prop := tileZonesUptoRow.holds Tryz.pinned (OpenSpec.upto tileZonesSpec)

end Rows
end Go.Proofs.YtciigfeecmnghaaRRRRGreatRR
