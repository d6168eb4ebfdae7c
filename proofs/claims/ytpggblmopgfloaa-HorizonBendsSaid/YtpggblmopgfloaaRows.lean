/-
  No cell of these rows narrows 'for every input' (looked for: loops, veiled, ifaces, maps, wideKeys, modest, calm, conditions, laid).
  DERIVED. THE GIVEN ROWS OF THIS SEAT. 10 by the template 'for every input the law returns true; each argument reads behind the call as it read before'; 0 by the template 'total and deterministic' (their statements: YtpggblmopgfloaaTotals.lean).
  GIVEN WITH THE SEED: the statements are not yours to turn. If you find one false, say at which input.
  Laid BY PROGRAM, IN A SANDBOX (cutbox-rows.mjs): the forced cells as the released guide's own fill.sh prints them over the translation 47b00691643f1109… (all of the seat's roots in one cut). By AI agents, Wed Nov 11 2026. No macro, syntax, notation, axiom, sorry.
-/
import Derived.Test.YtpggblmopgfloaaChecked
import GoSem.Claim
import GoSem.ClaimJoined
import GoSem.ClaimMapViews
import Derived.JoinedTies
import Derived.KernelRfl
namespace Go.Proofs.Ytpggblmopgfloaa
/- THE CELL 'sum', in the pinned program and in every row, IS THE sha256 OF THE DUMP (.gsa) THAT YtpggblmopgfloaaProg.lean LOADS. Nothing in Lean hashes anything: it is a label: what it is worth is what the hold of that sum in a sandbox is worth. -/
noncomputable def Try.pinned : Pinned := { name := "ytpggblmopgfloaa", sum := "47b00691643f1109f32f7ba5a6a4a9c10c58b265d98de0f2e6c07e080d7315a1", checked := Try.checked }
namespace Rows
def none {H : Type} : Left H := { results := [], args := [] }

/-- 'spylaw1.BoundChecks': WHATEVER THE INPUT: true; the input reads as it did. -/
def boundChecksSpec : ChangeSpec := { name := "boundChecks", fn := fun _ => fun
  | [d1, d2, d3, d4] => { results := [.lit (.bool true)], args := [d1, d2, d3, d4] }
  | _ => none }
def boundChecksRow : OpenClaim := { program := "ytpggblmopgfloaa", sum := "47b00691643f1109f32f7ba5a6a4a9c10c58b265d98de0f2e6c07e080d7315a1", func := "spyglass/spylaw1.BoundChecks", spec := "boundChecks", inPlace := ["math/bits.Add64"], unfollowed := true, recurses := true, named := ["math/bits.divideError", "math/bits.overflowError"], apart := false }
def BoundChecksSaid : Prop := boundChecksRow.holds Try.pinned (OpenSpec.ofChange boundChecksSpec)

/-- ITS FALSE NEIGHBOUR: 'it returns false'. Refute it at one input. -/
def boundChecksWrong : ChangeSpec := { name := "boundChecks", fn := fun _ => fun
  | [d1, d2, d3, d4] => { results := [.lit (.bool false)], args := [d1, d2, d3, d4] }
  | _ => none }
def BoundChecksWrongFalsely : Prop := boundChecksRow.holds Try.pinned (OpenSpec.ofChange boundChecksWrong)

/-- 'spylaw1.BoundSums': WHATEVER THE INPUT: true; the input reads as it did. -/
def boundSumsSpec : ChangeSpec := { name := "boundSums", fn := fun _ => fun
  | [d1, d2, d3] => { results := [.lit (.bool true)], args := [d1, d2, d3] }
  | _ => none }
def boundSumsRow : OpenClaim := { program := "ytpggblmopgfloaa", sum := "47b00691643f1109f32f7ba5a6a4a9c10c58b265d98de0f2e6c07e080d7315a1", func := "spyglass/spylaw1.BoundSums", spec := "boundSums", inPlace := ["math/bits.Add64"], unfollowed := true, recurses := true, named := ["math/bits.divideError", "math/bits.overflowError"], apart := false }
def BoundSumsSaid : Prop := boundSumsRow.holds Try.pinned (OpenSpec.ofChange boundSumsSpec)

/-- ITS FALSE NEIGHBOUR: 'it returns false'. Refute it at one input. -/
def boundSumsWrong : ChangeSpec := { name := "boundSums", fn := fun _ => fun
  | [d1, d2, d3] => { results := [.lit (.bool false)], args := [d1, d2, d3] }
  | _ => none }
def BoundSumsWrongFalsely : Prop := boundSumsRow.holds Try.pinned (OpenSpec.ofChange boundSumsWrong)

/-- 'spylaw1.BoundPairs': WHATEVER THE INPUT: true; the input reads as it did. -/
def boundPairsSpec : ChangeSpec := { name := "boundPairs", fn := fun _ => fun
  | [d1, d2] => { results := [.lit (.bool true)], args := [d1, d2] }
  | _ => none }
def boundPairsRow : OpenClaim := { program := "ytpggblmopgfloaa", sum := "47b00691643f1109f32f7ba5a6a4a9c10c58b265d98de0f2e6c07e080d7315a1", func := "spyglass/spylaw1.BoundPairs", spec := "boundPairs", inPlace := ["math/bits.Add64"], unfollowed := true, recurses := true, named := ["math/bits.divideError", "math/bits.overflowError"], apart := false }
def BoundPairsSaid : Prop := boundPairsRow.holds Try.pinned (OpenSpec.ofChange boundPairsSpec)

/-- ITS FALSE NEIGHBOUR: 'it returns false'. Refute it at one input. -/
def boundPairsWrong : ChangeSpec := { name := "boundPairs", fn := fun _ => fun
  | [d1, d2] => { results := [.lit (.bool false)], args := [d1, d2] }
  | _ => none }
def BoundPairsWrongFalsely : Prop := boundPairsRow.holds Try.pinned (OpenSpec.ofChange boundPairsWrong)

/-- 'spylaw1.FracRounds': WHATEVER THE INPUT: true; the input reads as it did. -/
def fracRoundsSpec : ChangeSpec := { name := "fracRounds", fn := fun _ => fun
  | [d1, d2] => { results := [.lit (.bool true)], args := [d1, d2] }
  | _ => none }
def fracRoundsRow : OpenClaim := { program := "ytpggblmopgfloaa", sum := "47b00691643f1109f32f7ba5a6a4a9c10c58b265d98de0f2e6c07e080d7315a1", func := "spyglass/spylaw1.FracRounds", spec := "fracRounds", inPlace := ["math/bits.Add64"], unfollowed := true, recurses := true, named := ["math/bits.divideError", "math/bits.overflowError"], apart := false }
def FracRoundsSaid : Prop := fracRoundsRow.holds Try.pinned (OpenSpec.ofChange fracRoundsSpec)

/-- ITS FALSE NEIGHBOUR: 'it returns false'. Refute it at one input. -/
def fracRoundsWrong : ChangeSpec := { name := "fracRounds", fn := fun _ => fun
  | [d1, d2] => { results := [.lit (.bool false)], args := [d1, d2] }
  | _ => none }
def FracRoundsWrongFalsely : Prop := fracRoundsRow.holds Try.pinned (OpenSpec.ofChange fracRoundsWrong)

/-- 'spylaw1.FracSums': WHATEVER THE INPUT: true; the input reads as it did. -/
def fracSumsSpec : ChangeSpec := { name := "fracSums", fn := fun _ => fun
  | [d1, d2, d3, d4] => { results := [.lit (.bool true)], args := [d1, d2, d3, d4] }
  | _ => none }
def fracSumsRow : OpenClaim := { program := "ytpggblmopgfloaa", sum := "47b00691643f1109f32f7ba5a6a4a9c10c58b265d98de0f2e6c07e080d7315a1", func := "spyglass/spylaw1.FracSums", spec := "fracSums", inPlace := ["math/bits.Add64"], unfollowed := true, recurses := true, named := ["math/bits.divideError", "math/bits.overflowError"], apart := false }
def FracSumsSaid : Prop := fracSumsRow.holds Try.pinned (OpenSpec.ofChange fracSumsSpec)

/-- ITS FALSE NEIGHBOUR: 'it returns false'. Refute it at one input. -/
def fracSumsWrong : ChangeSpec := { name := "fracSums", fn := fun _ => fun
  | [d1, d2, d3, d4] => { results := [.lit (.bool false)], args := [d1, d2, d3, d4] }
  | _ => none }
def FracSumsWrongFalsely : Prop := fracSumsRow.holds Try.pinned (OpenSpec.ofChange fracSumsWrong)

/-- 'spylaw1.ScaleWhens': WHATEVER THE INPUT: true; the input reads as it did. -/
def scaleWhensSpec : ChangeSpec := { name := "scaleWhens", fn := fun _ => fun
  | [d1, d2, d3] => { results := [.lit (.bool true)], args := [d1, d2, d3] }
  | _ => none }
def scaleWhensRow : OpenClaim := { program := "ytpggblmopgfloaa", sum := "47b00691643f1109f32f7ba5a6a4a9c10c58b265d98de0f2e6c07e080d7315a1", func := "spyglass/spylaw1.ScaleWhens", spec := "scaleWhens", inPlace := ["math/bits.Add64"], unfollowed := true, recurses := true, named := ["math/bits.divideError", "math/bits.overflowError"], apart := false }
def ScaleWhensSaid : Prop := scaleWhensRow.holds Try.pinned (OpenSpec.ofChange scaleWhensSpec)

/-- ITS FALSE NEIGHBOUR: 'it returns false'. Refute it at one input. -/
def scaleWhensWrong : ChangeSpec := { name := "scaleWhens", fn := fun _ => fun
  | [d1, d2, d3] => { results := [.lit (.bool false)], args := [d1, d2, d3] }
  | _ => none }
def ScaleWhensWrongFalsely : Prop := scaleWhensRow.holds Try.pinned (OpenSpec.ofChange scaleWhensWrong)

/-- 'spylaw1.FracTerms': WHATEVER THE INPUT: true; the input reads as it did. -/
def fracTermsSpec : ChangeSpec := { name := "fracTerms", fn := fun _ => fun
  | [d1, d2] => { results := [.lit (.bool true)], args := [d1, d2] }
  | _ => none }
def fracTermsRow : OpenClaim := { program := "ytpggblmopgfloaa", sum := "47b00691643f1109f32f7ba5a6a4a9c10c58b265d98de0f2e6c07e080d7315a1", func := "spyglass/spylaw1.FracTerms", spec := "fracTerms", inPlace := ["math/bits.Add64"], unfollowed := true, recurses := true, named := ["math/bits.divideError", "math/bits.overflowError"], apart := false }
def FracTermsSaid : Prop := fracTermsRow.holds Try.pinned (OpenSpec.ofChange fracTermsSpec)

/-- ITS FALSE NEIGHBOUR: 'it returns false'. Refute it at one input. -/
def fracTermsWrong : ChangeSpec := { name := "fracTerms", fn := fun _ => fun
  | [d1, d2] => { results := [.lit (.bool false)], args := [d1, d2] }
  | _ => none }
def FracTermsWrongFalsely : Prop := fracTermsRow.holds Try.pinned (OpenSpec.ofChange fracTermsWrong)

/-- 'spylaw1.BoundRoots': WHATEVER THE INPUT: true; the input reads as it did. -/
def boundRootsSpec : ChangeSpec := { name := "boundRoots", fn := fun _ => fun
  | [d1, d2] => { results := [.lit (.bool true)], args := [d1, d2] }
  | _ => none }
def boundRootsRow : OpenClaim := { program := "ytpggblmopgfloaa", sum := "47b00691643f1109f32f7ba5a6a4a9c10c58b265d98de0f2e6c07e080d7315a1", func := "spyglass/spylaw1.BoundRoots", spec := "boundRoots", inPlace := ["math/bits.Add64"], unfollowed := true, recurses := true, named := ["math/bits.divideError", "math/bits.overflowError"], apart := false }
def BoundRootsSaid : Prop := boundRootsRow.holds Try.pinned (OpenSpec.ofChange boundRootsSpec)

/-- ITS FALSE NEIGHBOUR: 'it returns false'. Refute it at one input. -/
def boundRootsWrong : ChangeSpec := { name := "boundRoots", fn := fun _ => fun
  | [d1, d2] => { results := [.lit (.bool false)], args := [d1, d2] }
  | _ => none }
def BoundRootsWrongFalsely : Prop := boundRootsRow.holds Try.pinned (OpenSpec.ofChange boundRootsWrong)

/-- 'spylaw1.ScaleAngles': WHATEVER THE INPUT: true; the input reads as it did. -/
def scaleAnglesSpec : ChangeSpec := { name := "scaleAngles", fn := fun _ => fun
  | [d1, d2, d3] => { results := [.lit (.bool true)], args := [d1, d2, d3] }
  | _ => none }
def scaleAnglesRow : OpenClaim := { program := "ytpggblmopgfloaa", sum := "47b00691643f1109f32f7ba5a6a4a9c10c58b265d98de0f2e6c07e080d7315a1", func := "spyglass/spylaw1.ScaleAngles", spec := "scaleAngles", inPlace := ["math/bits.Add64"], unfollowed := true, recurses := true, named := ["math/bits.divideError", "math/bits.overflowError"], apart := false }
def ScaleAnglesSaid : Prop := scaleAnglesRow.holds Try.pinned (OpenSpec.ofChange scaleAnglesSpec)

/-- ITS FALSE NEIGHBOUR: 'it returns false'. Refute it at one input. -/
def scaleAnglesWrong : ChangeSpec := { name := "scaleAngles", fn := fun _ => fun
  | [d1, d2, d3] => { results := [.lit (.bool false)], args := [d1, d2, d3] }
  | _ => none }
def ScaleAnglesWrongFalsely : Prop := scaleAnglesRow.holds Try.pinned (OpenSpec.ofChange scaleAnglesWrong)

/-- 'spylaw1.HorizonBends': WHATEVER THE INPUT: true; the input reads as it did. -/
def horizonBendsSpec : ChangeSpec := { name := "horizonBends", fn := fun _ => fun
  | [d1, d2] => { results := [.lit (.bool true)], args := [d1, d2] }
  | _ => none }
def horizonBendsRow : OpenClaim := { program := "ytpggblmopgfloaa", sum := "47b00691643f1109f32f7ba5a6a4a9c10c58b265d98de0f2e6c07e080d7315a1", func := "spyglass/spylaw1.HorizonBends", spec := "horizonBends", inPlace := ["math/bits.Add64"], unfollowed := true, recurses := true, named := ["math/bits.divideError", "math/bits.overflowError"], apart := false }
def HorizonBendsSaid : Prop := horizonBendsRow.holds Try.pinned (OpenSpec.ofChange horizonBendsSpec)

/-- ITS FALSE NEIGHBOUR: 'it returns false'. Refute it at one input. -/
def horizonBendsWrong : ChangeSpec := { name := "horizonBends", fn := fun _ => fun
  | [d1, d2] => { results := [.lit (.bool false)], args := [d1, d2] }
  | _ => none }
def HorizonBendsWrongFalsely : Prop := horizonBendsRow.holds Try.pinned (OpenSpec.ofChange horizonBendsWrong)

/- THE SECOND FORM. 'bulk': how many values and letters a reading holds, each counted each time it is reached (what is shared counts as often as it is met; a slice's spare places count too). A statement '..UptoSaid' is the law's where the arguments, and the package variables that the reading takes, are together of bulk at most 1048576: NARROWER than '..Said'. Prove '..Said' where nothing that the law and all that it calls make is longer than what came in: it says more and counts as full. Else prove '..UptoSaid'. A law counts once. -/
mutual
def uptoBulk {H : Type} : DataW H → Nat
  | .lit (.string bytes) => bytes.length + 1
  | .lit _ => 1
  | .nil => 1
  | .ptr d => uptoBulk d + 1
  | .slice elems spare => uptoBulkAll elems + uptoBulkAll spare + 1
  | .agg parts => uptoBulkAll parts + 1
  | .iface _ d => uptoBulk d + 1
  | .map entries => uptoBulkEntries entries + 1
  | .held _ => 1
def uptoBulkAll {H : Type} : List (DataW H) → Nat
  | [] => 0
  | d :: r => uptoBulk d + uptoBulkAll r
def uptoBulkEntries {H : Type} : List (Lit × DataW H) → Nat
  | [] => 0
  | x :: r => uptoBulkEntry x + uptoBulkEntries r
def uptoBulkEntry {H : Type} : Lit × DataW H → Nat
  | (.string bytes, d) => bytes.length + uptoBulk d + 1
  | (_, d) => uptoBulk d + 1
 end
def uptoSmall : (H : Type) → List (DataW H) → Bool := fun _ ds => decide (uptoBulkAll ds ≤ 1048576)
def OpenSpec.upto (s : _root_.Go.ChangeSpec) : _root_.Go.OpenSpec := { _root_.Go.OpenSpec.ofChange s with cond := some uptoSmall }

/-- 'spylaw1.BoundChecks', WHERE WHAT IT READS IS OF BULK AT MOST 1048576: true; the input reads as it did. -/
def boundChecksUptoRow : OpenClaim := { program := "ytpggblmopgfloaa", sum := "47b00691643f1109f32f7ba5a6a4a9c10c58b265d98de0f2e6c07e080d7315a1", func := "spyglass/spylaw1.BoundChecks", spec := "boundChecks", inPlace := ["math/bits.Add64"], unfollowed := true, recurses := true, named := ["math/bits.divideError", "math/bits.overflowError"], apart := false, narrowed := true }
def BoundChecksUptoSaid : Prop := boundChecksUptoRow.holds Try.pinned (OpenSpec.upto boundChecksSpec)

/-- 'spylaw1.BoundSums', WHERE WHAT IT READS IS OF BULK AT MOST 1048576: true; the input reads as it did. -/
def boundSumsUptoRow : OpenClaim := { program := "ytpggblmopgfloaa", sum := "47b00691643f1109f32f7ba5a6a4a9c10c58b265d98de0f2e6c07e080d7315a1", func := "spyglass/spylaw1.BoundSums", spec := "boundSums", inPlace := ["math/bits.Add64"], unfollowed := true, recurses := true, named := ["math/bits.divideError", "math/bits.overflowError"], apart := false, narrowed := true }
def BoundSumsUptoSaid : Prop := boundSumsUptoRow.holds Try.pinned (OpenSpec.upto boundSumsSpec)

/-- 'spylaw1.BoundPairs', WHERE WHAT IT READS IS OF BULK AT MOST 1048576: true; the input reads as it did. -/
def boundPairsUptoRow : OpenClaim := { program := "ytpggblmopgfloaa", sum := "47b00691643f1109f32f7ba5a6a4a9c10c58b265d98de0f2e6c07e080d7315a1", func := "spyglass/spylaw1.BoundPairs", spec := "boundPairs", inPlace := ["math/bits.Add64"], unfollowed := true, recurses := true, named := ["math/bits.divideError", "math/bits.overflowError"], apart := false, narrowed := true }
def BoundPairsUptoSaid : Prop := boundPairsUptoRow.holds Try.pinned (OpenSpec.upto boundPairsSpec)

/-- 'spylaw1.FracRounds', WHERE WHAT IT READS IS OF BULK AT MOST 1048576: true; the input reads as it did. -/
def fracRoundsUptoRow : OpenClaim := { program := "ytpggblmopgfloaa", sum := "47b00691643f1109f32f7ba5a6a4a9c10c58b265d98de0f2e6c07e080d7315a1", func := "spyglass/spylaw1.FracRounds", spec := "fracRounds", inPlace := ["math/bits.Add64"], unfollowed := true, recurses := true, named := ["math/bits.divideError", "math/bits.overflowError"], apart := false, narrowed := true }
def FracRoundsUptoSaid : Prop := fracRoundsUptoRow.holds Try.pinned (OpenSpec.upto fracRoundsSpec)

/-- 'spylaw1.FracSums', WHERE WHAT IT READS IS OF BULK AT MOST 1048576: true; the input reads as it did. -/
def fracSumsUptoRow : OpenClaim := { program := "ytpggblmopgfloaa", sum := "47b00691643f1109f32f7ba5a6a4a9c10c58b265d98de0f2e6c07e080d7315a1", func := "spyglass/spylaw1.FracSums", spec := "fracSums", inPlace := ["math/bits.Add64"], unfollowed := true, recurses := true, named := ["math/bits.divideError", "math/bits.overflowError"], apart := false, narrowed := true }
def FracSumsUptoSaid : Prop := fracSumsUptoRow.holds Try.pinned (OpenSpec.upto fracSumsSpec)

/-- 'spylaw1.ScaleWhens', WHERE WHAT IT READS IS OF BULK AT MOST 1048576: true; the input reads as it did. -/
def scaleWhensUptoRow : OpenClaim := { program := "ytpggblmopgfloaa", sum := "47b00691643f1109f32f7ba5a6a4a9c10c58b265d98de0f2e6c07e080d7315a1", func := "spyglass/spylaw1.ScaleWhens", spec := "scaleWhens", inPlace := ["math/bits.Add64"], unfollowed := true, recurses := true, named := ["math/bits.divideError", "math/bits.overflowError"], apart := false, narrowed := true }
def ScaleWhensUptoSaid : Prop := scaleWhensUptoRow.holds Try.pinned (OpenSpec.upto scaleWhensSpec)

/-- 'spylaw1.FracTerms', WHERE WHAT IT READS IS OF BULK AT MOST 1048576: true; the input reads as it did. -/
def fracTermsUptoRow : OpenClaim := { program := "ytpggblmopgfloaa", sum := "47b00691643f1109f32f7ba5a6a4a9c10c58b265d98de0f2e6c07e080d7315a1", func := "spyglass/spylaw1.FracTerms", spec := "fracTerms", inPlace := ["math/bits.Add64"], unfollowed := true, recurses := true, named := ["math/bits.divideError", "math/bits.overflowError"], apart := false, narrowed := true }
def FracTermsUptoSaid : Prop := fracTermsUptoRow.holds Try.pinned (OpenSpec.upto fracTermsSpec)

/-- 'spylaw1.BoundRoots', WHERE WHAT IT READS IS OF BULK AT MOST 1048576: true; the input reads as it did. -/
def boundRootsUptoRow : OpenClaim := { program := "ytpggblmopgfloaa", sum := "47b00691643f1109f32f7ba5a6a4a9c10c58b265d98de0f2e6c07e080d7315a1", func := "spyglass/spylaw1.BoundRoots", spec := "boundRoots", inPlace := ["math/bits.Add64"], unfollowed := true, recurses := true, named := ["math/bits.divideError", "math/bits.overflowError"], apart := false, narrowed := true }
def BoundRootsUptoSaid : Prop := boundRootsUptoRow.holds Try.pinned (OpenSpec.upto boundRootsSpec)

/-- 'spylaw1.ScaleAngles', WHERE WHAT IT READS IS OF BULK AT MOST 1048576: true; the input reads as it did. -/
def scaleAnglesUptoRow : OpenClaim := { program := "ytpggblmopgfloaa", sum := "47b00691643f1109f32f7ba5a6a4a9c10c58b265d98de0f2e6c07e080d7315a1", func := "spyglass/spylaw1.ScaleAngles", spec := "scaleAngles", inPlace := ["math/bits.Add64"], unfollowed := true, recurses := true, named := ["math/bits.divideError", "math/bits.overflowError"], apart := false, narrowed := true }
def ScaleAnglesUptoSaid : Prop := scaleAnglesUptoRow.holds Try.pinned (OpenSpec.upto scaleAnglesSpec)

/-- 'spylaw1.HorizonBends', WHERE WHAT IT READS IS OF BULK AT MOST 1048576: true; the input reads as it did. -/
def horizonBendsUptoRow : OpenClaim := { program := "ytpggblmopgfloaa", sum := "47b00691643f1109f32f7ba5a6a4a9c10c58b265d98de0f2e6c07e080d7315a1", func := "spyglass/spylaw1.HorizonBends", spec := "horizonBends", inPlace := ["math/bits.Add64"], unfollowed := true, recurses := true, named := ["math/bits.divideError", "math/bits.overflowError"], apart := false, narrowed := true }
def HorizonBendsUptoSaid : Prop := horizonBendsUptoRow.holds Try.pinned (OpenSpec.upto horizonBendsSpec)

end Rows
end Go.Proofs.Ytpggblmopgfloaa
