/-
  No cell of these rows narrows 'for every input' (looked for: loops, veiled, ifaces, maps, wideKeys, modest, calm, conditions, laid).
  DERIVED. THE GIVEN ROWS OF THIS SEAT. 11 by the template 'for every input the law returns true; each argument reads behind the call as it read before'; 0 by the template 'total and deterministic' (their statements: YtdceakejbnolpaaTotals.lean).
  GIVEN WITH THE SEED: the statements are not yours to turn. If you find one false, say at which input.
  Laid BY PROGRAM, IN A SANDBOX (cutbox-rows.mjs): the forced cells as the released guide's own fill.sh prints them over the translation fdcf8556aaae645a… (all of the seat's roots in one cut). By AI agents, Wed Nov 11 2026. No macro, syntax, notation, axiom, sorry.
-/
import Derived.Test.YtdceakejbnolpaaChecked
import GoSem.Claim
import GoSem.ClaimJoined
import GoSem.ClaimMapViews
import Derived.JoinedTies
import Derived.KernelRfl
namespace Go.Proofs.Ytdceakejbnolpaa
/- THE CELL 'sum', in the pinned program and in every row, IS THE sha256 OF THE DUMP (.gsa) THAT YtdceakejbnolpaaProg.lean LOADS. Nothing in Lean hashes anything: it is a label: what it is worth is what the hold of that sum in a sandbox is worth. -/
noncomputable def Try.pinned : Pinned := { name := "ytdceakejbnolpaa", sum := "fdcf8556aaae645a335a7831c540ed0f0733eb33d57024cd2217696cf3c34d4b", checked := Try.checked }
namespace Rows
def none {H : Type} : Left H := { results := [], args := [] }

/-- 'spylaw1.TrigNear': WHATEVER THE INPUT: true; the input reads as it did. -/
def trigNearSpec : ChangeSpec := { name := "trigNear", fn := fun _ => fun
  | [d] => { results := [.lit (.bool true)], args := [d] }
  | _ => none }
def trigNearRow : OpenClaim := { program := "ytdceakejbnolpaa", sum := "fdcf8556aaae645a335a7831c540ed0f0733eb33d57024cd2217696cf3c34d4b", func := "spyglass/spylaw1.TrigNear", spec := "trigNear", inPlace := ["math/bits.Add64"], unfollowed := true, recurses := true, named := ["math/bits.divideError", "math/bits.overflowError"], apart := false }
def TrigNearSaid : Prop := trigNearRow.holds Try.pinned (OpenSpec.ofChange trigNearSpec)

/-- ITS FALSE NEIGHBOUR: 'it returns false'. Refute it at one input. -/
def trigNearWrong : ChangeSpec := { name := "trigNear", fn := fun _ => fun
  | [d] => { results := [.lit (.bool false)], args := [d] }
  | _ => none }
def TrigNearWrongFalsely : Prop := trigNearRow.holds Try.pinned (OpenSpec.ofChange trigNearWrong)

/-- 'spylaw1.TrigAngles': WHATEVER THE INPUT: true; the input reads as it did. -/
def trigAnglesSpec : ChangeSpec := { name := "trigAngles", fn := fun _ => fun
  | [d1, d2] => { results := [.lit (.bool true)], args := [d1, d2] }
  | _ => none }
def trigAnglesRow : OpenClaim := { program := "ytdceakejbnolpaa", sum := "fdcf8556aaae645a335a7831c540ed0f0733eb33d57024cd2217696cf3c34d4b", func := "spyglass/spylaw1.TrigAngles", spec := "trigAngles", inPlace := ["math/bits.Add64"], named := ["math/bits.divideError", "math/bits.overflowError"], apart := false }
def TrigAnglesSaid : Prop := trigAnglesRow.holds Try.pinned (OpenSpec.ofChange trigAnglesSpec)

/-- ITS FALSE NEIGHBOUR: 'it returns false'. Refute it at one input. -/
def trigAnglesWrong : ChangeSpec := { name := "trigAngles", fn := fun _ => fun
  | [d1, d2] => { results := [.lit (.bool false)], args := [d1, d2] }
  | _ => none }
def TrigAnglesWrongFalsely : Prop := trigAnglesRow.holds Try.pinned (OpenSpec.ofChange trigAnglesWrong)

/-- 'spylaw1.TrigAngleNear': WHATEVER THE INPUT: true; the input reads as it did. -/
def trigAngleNearSpec : ChangeSpec := { name := "trigAngleNear", fn := fun _ => fun
  | [d1, d2] => { results := [.lit (.bool true)], args := [d1, d2] }
  | _ => none }
def trigAngleNearRow : OpenClaim := { program := "ytdceakejbnolpaa", sum := "fdcf8556aaae645a335a7831c540ed0f0733eb33d57024cd2217696cf3c34d4b", func := "spyglass/spylaw1.TrigAngleNear", spec := "trigAngleNear", inPlace := ["math/bits.Add64"], unfollowed := true, recurses := true, named := ["math/bits.divideError", "math/bits.overflowError"], apart := false }
def TrigAngleNearSaid : Prop := trigAngleNearRow.holds Try.pinned (OpenSpec.ofChange trigAngleNearSpec)

/-- ITS FALSE NEIGHBOUR: 'it returns false'. Refute it at one input. -/
def trigAngleNearWrong : ChangeSpec := { name := "trigAngleNear", fn := fun _ => fun
  | [d1, d2] => { results := [.lit (.bool false)], args := [d1, d2] }
  | _ => none }
def TrigAngleNearWrongFalsely : Prop := trigAngleNearRow.holds Try.pinned (OpenSpec.ofChange trigAngleNearWrong)

/-- 'spylaw1.ClockRuns': WHATEVER THE INPUT: true; the input reads as it did. -/
def clockRunsSpec : ChangeSpec := { name := "clockRuns", fn := fun _ => fun
  | [d1, d2] => { results := [.lit (.bool true)], args := [d1, d2] }
  | _ => none }
def clockRunsRow : OpenClaim := { program := "ytdceakejbnolpaa", sum := "fdcf8556aaae645a335a7831c540ed0f0733eb33d57024cd2217696cf3c34d4b", func := "spyglass/spylaw1.ClockRuns", spec := "clockRuns", inPlace := ["math/bits.Add64"], named := ["math/bits.divideError", "math/bits.overflowError"], apart := false }
def ClockRunsSaid : Prop := clockRunsRow.holds Try.pinned (OpenSpec.ofChange clockRunsSpec)

/-- ITS FALSE NEIGHBOUR: 'it returns false'. Refute it at one input. -/
def clockRunsWrong : ChangeSpec := { name := "clockRuns", fn := fun _ => fun
  | [d1, d2] => { results := [.lit (.bool false)], args := [d1, d2] }
  | _ => none }
def ClockRunsWrongFalsely : Prop := clockRunsRow.holds Try.pinned (OpenSpec.ofChange clockRunsWrong)

/-- 'spylaw1.ClockSyncs': WHATEVER THE INPUT: true; the input reads as it did. -/
def clockSyncsSpec : ChangeSpec := { name := "clockSyncs", fn := fun _ => fun
  | [d1, d2, d3, d4] => { results := [.lit (.bool true)], args := [d1, d2, d3, d4] }
  | _ => none }
def clockSyncsRow : OpenClaim := { program := "ytdceakejbnolpaa", sum := "fdcf8556aaae645a335a7831c540ed0f0733eb33d57024cd2217696cf3c34d4b", func := "spyglass/spylaw1.ClockSyncs", spec := "clockSyncs", inPlace := ["math/bits.Add64"], named := ["math/bits.divideError", "math/bits.overflowError"], apart := false }
def ClockSyncsSaid : Prop := clockSyncsRow.holds Try.pinned (OpenSpec.ofChange clockSyncsSpec)

/-- ITS FALSE NEIGHBOUR: 'it returns false'. Refute it at one input. -/
def clockSyncsWrong : ChangeSpec := { name := "clockSyncs", fn := fun _ => fun
  | [d1, d2, d3, d4] => { results := [.lit (.bool false)], args := [d1, d2, d3, d4] }
  | _ => none }
def ClockSyncsWrongFalsely : Prop := clockSyncsRow.holds Try.pinned (OpenSpec.ofChange clockSyncsWrong)

/-- 'spylaw1.BoundFuses': WHATEVER THE INPUT: true; the input reads as it did. -/
def boundFusesSpec : ChangeSpec := { name := "boundFuses", fn := fun _ => fun
  | [d1, d2, d3] => { results := [.lit (.bool true)], args := [d1, d2, d3] }
  | _ => none }
def boundFusesRow : OpenClaim := { program := "ytdceakejbnolpaa", sum := "fdcf8556aaae645a335a7831c540ed0f0733eb33d57024cd2217696cf3c34d4b", func := "spyglass/spylaw1.BoundFuses", spec := "boundFuses", inPlace := ["math/bits.Add64"], unfollowed := true, recurses := true, named := ["math/bits.divideError", "math/bits.overflowError"], apart := false }
def BoundFusesSaid : Prop := boundFusesRow.holds Try.pinned (OpenSpec.ofChange boundFusesSpec)

/-- ITS FALSE NEIGHBOUR: 'it returns false'. Refute it at one input. -/
def boundFusesWrong : ChangeSpec := { name := "boundFuses", fn := fun _ => fun
  | [d1, d2, d3] => { results := [.lit (.bool false)], args := [d1, d2, d3] }
  | _ => none }
def BoundFusesWrongFalsely : Prop := boundFusesRow.holds Try.pinned (OpenSpec.ofChange boundFusesWrong)

/-- 'spylaw1.FracBests': WHATEVER THE INPUT: true; the input reads as it did. -/
def fracBestsSpec : ChangeSpec := { name := "fracBests", fn := fun _ => fun
  | [d1, d2] => { results := [.lit (.bool true)], args := [d1, d2] }
  | _ => none }
def fracBestsRow : OpenClaim := { program := "ytdceakejbnolpaa", sum := "fdcf8556aaae645a335a7831c540ed0f0733eb33d57024cd2217696cf3c34d4b", func := "spyglass/spylaw1.FracBests", spec := "fracBests", inPlace := ["math/bits.Add64"], named := ["math/bits.divideError", "math/bits.overflowError"], apart := false }
def FracBestsSaid : Prop := fracBestsRow.holds Try.pinned (OpenSpec.ofChange fracBestsSpec)

/-- ITS FALSE NEIGHBOUR: 'it returns false'. Refute it at one input. -/
def fracBestsWrong : ChangeSpec := { name := "fracBests", fn := fun _ => fun
  | [d1, d2] => { results := [.lit (.bool false)], args := [d1, d2] }
  | _ => none }
def FracBestsWrongFalsely : Prop := fracBestsRow.holds Try.pinned (OpenSpec.ofChange fracBestsWrong)

/-- 'spylaw1.TrigBounds': WHATEVER THE INPUT: true; the input reads as it did. -/
def trigBoundsSpec : ChangeSpec := { name := "trigBounds", fn := fun _ => fun
  | [d] => { results := [.lit (.bool true)], args := [d] }
  | _ => none }
def trigBoundsRow : OpenClaim := { program := "ytdceakejbnolpaa", sum := "fdcf8556aaae645a335a7831c540ed0f0733eb33d57024cd2217696cf3c34d4b", func := "spyglass/spylaw1.TrigBounds", spec := "trigBounds", inPlace := ["math/bits.Add64"], unfollowed := true, recurses := true, named := ["math/bits.divideError", "math/bits.overflowError"], apart := false }
def TrigBoundsSaid : Prop := trigBoundsRow.holds Try.pinned (OpenSpec.ofChange trigBoundsSpec)

/-- ITS FALSE NEIGHBOUR: 'it returns false'. Refute it at one input. -/
def trigBoundsWrong : ChangeSpec := { name := "trigBounds", fn := fun _ => fun
  | [d] => { results := [.lit (.bool false)], args := [d] }
  | _ => none }
def TrigBoundsWrongFalsely : Prop := trigBoundsRow.holds Try.pinned (OpenSpec.ofChange trigBoundsWrong)

/-- 'spylaw1.HorizonAims': WHATEVER THE INPUT: true; the input reads as it did. -/
def horizonAimsSpec : ChangeSpec := { name := "horizonAims", fn := fun _ => fun
  | [d1, d2, d3] => { results := [.lit (.bool true)], args := [d1, d2, d3] }
  | _ => none }
def horizonAimsRow : OpenClaim := { program := "ytdceakejbnolpaa", sum := "fdcf8556aaae645a335a7831c540ed0f0733eb33d57024cd2217696cf3c34d4b", func := "spyglass/spylaw1.HorizonAims", spec := "horizonAims", inPlace := ["math/bits.Add64"], unfollowed := true, recurses := true, named := ["math/bits.divideError", "math/bits.overflowError"], apart := false }
def HorizonAimsSaid : Prop := horizonAimsRow.holds Try.pinned (OpenSpec.ofChange horizonAimsSpec)

/-- ITS FALSE NEIGHBOUR: 'it returns false'. Refute it at one input. -/
def horizonAimsWrong : ChangeSpec := { name := "horizonAims", fn := fun _ => fun
  | [d1, d2, d3] => { results := [.lit (.bool false)], args := [d1, d2, d3] }
  | _ => none }
def HorizonAimsWrongFalsely : Prop := horizonAimsRow.holds Try.pinned (OpenSpec.ofChange horizonAimsWrong)

/-- 'spylaw1.ClockAgrees': WHATEVER THE INPUT: true; the input reads as it did. -/
def clockAgreesSpec : ChangeSpec := { name := "clockAgrees", fn := fun _ => fun
  | [d1, d2, d3] => { results := [.lit (.bool true)], args := [d1, d2, d3] }
  | _ => none }
def clockAgreesRow : OpenClaim := { program := "ytdceakejbnolpaa", sum := "fdcf8556aaae645a335a7831c540ed0f0733eb33d57024cd2217696cf3c34d4b", func := "spyglass/spylaw1.ClockAgrees", spec := "clockAgrees", inPlace := ["math/bits.Add64"], unfollowed := true, recurses := true, named := ["math/bits.divideError", "math/bits.overflowError"], apart := false }
def ClockAgreesSaid : Prop := clockAgreesRow.holds Try.pinned (OpenSpec.ofChange clockAgreesSpec)

/-- ITS FALSE NEIGHBOUR: 'it returns false'. Refute it at one input. -/
def clockAgreesWrong : ChangeSpec := { name := "clockAgrees", fn := fun _ => fun
  | [d1, d2, d3] => { results := [.lit (.bool false)], args := [d1, d2, d3] }
  | _ => none }
def ClockAgreesWrongFalsely : Prop := clockAgreesRow.holds Try.pinned (OpenSpec.ofChange clockAgreesWrong)

/-- 'spylaw1.BoundProducts': WHATEVER THE INPUT: true; the input reads as it did. -/
def boundProductsSpec : ChangeSpec := { name := "boundProducts", fn := fun _ => fun
  | [d1, d2, d3, d4, d5] => { results := [.lit (.bool true)], args := [d1, d2, d3, d4, d5] }
  | _ => none }
def boundProductsRow : OpenClaim := { program := "ytdceakejbnolpaa", sum := "fdcf8556aaae645a335a7831c540ed0f0733eb33d57024cd2217696cf3c34d4b", func := "spyglass/spylaw1.BoundProducts", spec := "boundProducts", inPlace := ["math/bits.Add64"], unfollowed := true, recurses := true, named := ["math/bits.divideError", "math/bits.overflowError"], apart := false }
def BoundProductsSaid : Prop := boundProductsRow.holds Try.pinned (OpenSpec.ofChange boundProductsSpec)

/-- ITS FALSE NEIGHBOUR: 'it returns false'. Refute it at one input. -/
def boundProductsWrong : ChangeSpec := { name := "boundProducts", fn := fun _ => fun
  | [d1, d2, d3, d4, d5] => { results := [.lit (.bool false)], args := [d1, d2, d3, d4, d5] }
  | _ => none }
def BoundProductsWrongFalsely : Prop := boundProductsRow.holds Try.pinned (OpenSpec.ofChange boundProductsWrong)

/- THE SECOND FORM. 'bulk': how many values and letters a reading holds, each counted each time it is reached (what is shared counts as often as it is met; a slice's spare places count too). A statement '..UptoSaid' is the law's where the arguments, and the package variables that the reading takes, are together of bulk at most 1048576: NARROWER than '..Said'. Prove '..Said' where nothing that the law and all that it calls make is longer than what came in: it says more and counts as full. Else prove '..UptoSaid'. A law counts once. -/
mutual
def uptoBulk {H : Type} : DataW H → Nat
  | .lit (.string bytes) => bytes.length + 1
  | .lit _ => 1
  | .nil => 1
  | .ptr d => uptoBulk d + 1
  | .slice elems spare => uptoBulkAll elems + uptoBulkAll spare + 1
  | .agg parts => uptoBulkAll parts + 1
  | .iface _ d => uptoBulk d + 1
  | .map entries => uptoBulkEntries entries + 1
  | .held _ => 1
def uptoBulkAll {H : Type} : List (DataW H) → Nat
  | [] => 0
  | d :: r => uptoBulk d + uptoBulkAll r
def uptoBulkEntries {H : Type} : List (Lit × DataW H) → Nat
  | [] => 0
  | x :: r => uptoBulkEntry x + uptoBulkEntries r
def uptoBulkEntry {H : Type} : Lit × DataW H → Nat
  | (.string bytes, d) => bytes.length + uptoBulk d + 1
  | (_, d) => uptoBulk d + 1
 end
def uptoSmall : (H : Type) → List (DataW H) → Bool := fun _ ds => decide (uptoBulkAll ds ≤ 1048576)
def OpenSpec.upto (s : _root_.Go.ChangeSpec) : _root_.Go.OpenSpec := { _root_.Go.OpenSpec.ofChange s with cond := some uptoSmall }

/-- 'spylaw1.TrigNear', WHERE WHAT IT READS IS OF BULK AT MOST 1048576: true; the input reads as it did. -/
def trigNearUptoRow : OpenClaim := { program := "ytdceakejbnolpaa", sum := "fdcf8556aaae645a335a7831c540ed0f0733eb33d57024cd2217696cf3c34d4b", func := "spyglass/spylaw1.TrigNear", spec := "trigNear", inPlace := ["math/bits.Add64"], unfollowed := true, recurses := true, named := ["math/bits.divideError", "math/bits.overflowError"], apart := false, narrowed := true }
def TrigNearUptoSaid : Prop := trigNearUptoRow.holds Try.pinned (OpenSpec.upto trigNearSpec)

/-- 'spylaw1.TrigAngles', WHERE WHAT IT READS IS OF BULK AT MOST 1048576: true; the input reads as it did. -/
def trigAnglesUptoRow : OpenClaim := { program := "ytdceakejbnolpaa", sum := "fdcf8556aaae645a335a7831c540ed0f0733eb33d57024cd2217696cf3c34d4b", func := "spyglass/spylaw1.TrigAngles", spec := "trigAngles", inPlace := ["math/bits.Add64"], named := ["math/bits.divideError", "math/bits.overflowError"], apart := false, narrowed := true }
def TrigAnglesUptoSaid : Prop := trigAnglesUptoRow.holds Try.pinned (OpenSpec.upto trigAnglesSpec)

/-- 'spylaw1.TrigAngleNear', WHERE WHAT IT READS IS OF BULK AT MOST 1048576: true; the input reads as it did. -/
def trigAngleNearUptoRow : OpenClaim := { program := "ytdceakejbnolpaa", sum := "fdcf8556aaae645a335a7831c540ed0f0733eb33d57024cd2217696cf3c34d4b", func := "spyglass/spylaw1.TrigAngleNear", spec := "trigAngleNear", inPlace := ["math/bits.Add64"], unfollowed := true, recurses := true, named := ["math/bits.divideError", "math/bits.overflowError"], apart := false, narrowed := true }
def TrigAngleNearUptoSaid : Prop := trigAngleNearUptoRow.holds Try.pinned (OpenSpec.upto trigAngleNearSpec)

/-- 'spylaw1.ClockRuns', WHERE WHAT IT READS IS OF BULK AT MOST 1048576: true; the input reads as it did. -/
def clockRunsUptoRow : OpenClaim := { program := "ytdceakejbnolpaa", sum := "fdcf8556aaae645a335a7831c540ed0f0733eb33d57024cd2217696cf3c34d4b", func := "spyglass/spylaw1.ClockRuns", spec := "clockRuns", inPlace := ["math/bits.Add64"], named := ["math/bits.divideError", "math/bits.overflowError"], apart := false, narrowed := true }
def ClockRunsUptoSaid : Prop := clockRunsUptoRow.holds Try.pinned (OpenSpec.upto clockRunsSpec)

/-- 'spylaw1.ClockSyncs', WHERE WHAT IT READS IS OF BULK AT MOST 1048576: true; the input reads as it did. -/
def clockSyncsUptoRow : OpenClaim := { program := "ytdceakejbnolpaa", sum := "fdcf8556aaae645a335a7831c540ed0f0733eb33d57024cd2217696cf3c34d4b", func := "spyglass/spylaw1.ClockSyncs", spec := "clockSyncs", inPlace := ["math/bits.Add64"], named := ["math/bits.divideError", "math/bits.overflowError"], apart := false, narrowed := true }
def ClockSyncsUptoSaid : Prop := clockSyncsUptoRow.holds Try.pinned (OpenSpec.upto clockSyncsSpec)

/-- 'spylaw1.BoundFuses', WHERE WHAT IT READS IS OF BULK AT MOST 1048576: true; the input reads as it did. -/
def boundFusesUptoRow : OpenClaim := { program := "ytdceakejbnolpaa", sum := "fdcf8556aaae645a335a7831c540ed0f0733eb33d57024cd2217696cf3c34d4b", func := "spyglass/spylaw1.BoundFuses", spec := "boundFuses", inPlace := ["math/bits.Add64"], unfollowed := true, recurses := true, named := ["math/bits.divideError", "math/bits.overflowError"], apart := false, narrowed := true }
def BoundFusesUptoSaid : Prop := boundFusesUptoRow.holds Try.pinned (OpenSpec.upto boundFusesSpec)

/-- 'spylaw1.FracBests', WHERE WHAT IT READS IS OF BULK AT MOST 1048576: true; the input reads as it did. -/
def fracBestsUptoRow : OpenClaim := { program := "ytdceakejbnolpaa", sum := "fdcf8556aaae645a335a7831c540ed0f0733eb33d57024cd2217696cf3c34d4b", func := "spyglass/spylaw1.FracBests", spec := "fracBests", inPlace := ["math/bits.Add64"], named := ["math/bits.divideError", "math/bits.overflowError"], apart := false, narrowed := true }
def FracBestsUptoSaid : Prop := fracBestsUptoRow.holds Try.pinned (OpenSpec.upto fracBestsSpec)

/-- 'spylaw1.TrigBounds', WHERE WHAT IT READS IS OF BULK AT MOST 1048576: true; the input reads as it did. -/
def trigBoundsUptoRow : OpenClaim := { program := "ytdceakejbnolpaa", sum := "fdcf8556aaae645a335a7831c540ed0f0733eb33d57024cd2217696cf3c34d4b", func := "spyglass/spylaw1.TrigBounds", spec := "trigBounds", inPlace := ["math/bits.Add64"], unfollowed := true, recurses := true, named := ["math/bits.divideError", "math/bits.overflowError"], apart := false, narrowed := true }
def TrigBoundsUptoSaid : Prop := trigBoundsUptoRow.holds Try.pinned (OpenSpec.upto trigBoundsSpec)

/-- 'spylaw1.HorizonAims', WHERE WHAT IT READS IS OF BULK AT MOST 1048576: true; the input reads as it did. -/
def horizonAimsUptoRow : OpenClaim := { program := "ytdceakejbnolpaa", sum := "fdcf8556aaae645a335a7831c540ed0f0733eb33d57024cd2217696cf3c34d4b", func := "spyglass/spylaw1.HorizonAims", spec := "horizonAims", inPlace := ["math/bits.Add64"], unfollowed := true, recurses := true, named := ["math/bits.divideError", "math/bits.overflowError"], apart := false, narrowed := true }
def HorizonAimsUptoSaid : Prop := horizonAimsUptoRow.holds Try.pinned (OpenSpec.upto horizonAimsSpec)

/-- 'spylaw1.ClockAgrees', WHERE WHAT IT READS IS OF BULK AT MOST 1048576: true; the input reads as it did. -/
def clockAgreesUptoRow : OpenClaim := { program := "ytdceakejbnolpaa", sum := "fdcf8556aaae645a335a7831c540ed0f0733eb33d57024cd2217696cf3c34d4b", func := "spyglass/spylaw1.ClockAgrees", spec := "clockAgrees", inPlace := ["math/bits.Add64"], unfollowed := true, recurses := true, named := ["math/bits.divideError", "math/bits.overflowError"], apart := false, narrowed := true }
def ClockAgreesUptoSaid : Prop := clockAgreesUptoRow.holds Try.pinned (OpenSpec.upto clockAgreesSpec)

/-- 'spylaw1.BoundProducts', WHERE WHAT IT READS IS OF BULK AT MOST 1048576: true; the input reads as it did. -/
def boundProductsUptoRow : OpenClaim := { program := "ytdceakejbnolpaa", sum := "fdcf8556aaae645a335a7831c540ed0f0733eb33d57024cd2217696cf3c34d4b", func := "spyglass/spylaw1.BoundProducts", spec := "boundProducts", inPlace := ["math/bits.Add64"], unfollowed := true, recurses := true, named := ["math/bits.divideError", "math/bits.overflowError"], apart := false, narrowed := true }
def BoundProductsUptoSaid : Prop := boundProductsUptoRow.holds Try.pinned (OpenSpec.upto boundProductsSpec)

end Rows
end Go.Proofs.Ytdceakejbnolpaa
