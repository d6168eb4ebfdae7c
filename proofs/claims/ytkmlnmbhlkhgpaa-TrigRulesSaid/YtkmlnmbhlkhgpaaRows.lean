/-
  No cell of these rows narrows 'for every input' (looked for: loops, veiled, ifaces, maps, wideKeys, modest, calm, conditions, laid).
  DERIVED. THE GIVEN ROWS OF THIS SEAT. 12 by the template 'for every input the law returns true; each argument reads behind the call as it read before'; 0 by the template 'total and deterministic' (their statements: YtkmlnmbhlkhgpaaTotals.lean).
  GIVEN WITH THE SEED: the statements are not yours to turn. If you find one false, say at which input.
  Laid BY PROGRAM, IN A SANDBOX (cutbox-rows.mjs): the forced cells as the released guide's own fill.sh prints them over the translation 27b4d39d0fe0dafd… (all of the seat's roots in one cut). By AI agents, Wed Nov 11 2026. No macro, syntax, notation, axiom, sorry.
-/
import Derived.Test.YtkmlnmbhlkhgpaaChecked
import GoSem.Claim
import GoSem.ClaimJoined
import GoSem.ClaimMapViews
import Derived.JoinedTies
import Derived.KernelRfl
namespace Go.Proofs.Ytkmlnmbhlkhgpaa
/- THE CELL 'sum', in the pinned program and in every row, IS THE sha256 OF THE DUMP (.gsa) THAT YtkmlnmbhlkhgpaaProg.lean LOADS. Nothing in Lean hashes anything: it is a label: what it is worth is what the hold of that sum in a sandbox is worth. -/
noncomputable def Try.pinned : Pinned := { name := "ytkmlnmbhlkhgpaa", sum := "27b4d39d0fe0dafd1d47ffbab365bbe0c642557c52a06a96f1a4c1c77bf4f1ee", checked := Try.checked }
namespace Rows
def none {H : Type} : Left H := { results := [], args := [] }

/-- 'spylaw1.ScaleUniforms': WHATEVER THE INPUT: true; the input reads as it did. -/
def scaleUniformsSpec : ChangeSpec := { name := "scaleUniforms", fn := fun _ => fun
  | [d1, d2] => { results := [.lit (.bool true)], args := [d1, d2] }
  | _ => none }
def scaleUniformsRow : OpenClaim := { program := "ytkmlnmbhlkhgpaa", sum := "27b4d39d0fe0dafd1d47ffbab365bbe0c642557c52a06a96f1a4c1c77bf4f1ee", func := "spyglass/spylaw1.ScaleUniforms", spec := "scaleUniforms", unfollowed := true, recurses := true, apart := false }
def ScaleUniformsSaid : Prop := scaleUniformsRow.holds Try.pinned (OpenSpec.ofChange scaleUniformsSpec)

/-- ITS FALSE NEIGHBOUR: 'it returns false'. Refute it at one input. -/
def scaleUniformsWrong : ChangeSpec := { name := "scaleUniforms", fn := fun _ => fun
  | [d1, d2] => { results := [.lit (.bool false)], args := [d1, d2] }
  | _ => none }
def ScaleUniformsWrongFalsely : Prop := scaleUniformsRow.holds Try.pinned (OpenSpec.ofChange scaleUniformsWrong)

/-- 'spylaw1.ScaleDates': WHATEVER THE INPUT: true; the input reads as it did. -/
def scaleDatesSpec : ChangeSpec := { name := "scaleDates", fn := fun _ => fun
  | [d1, d2, d3, d4] => { results := [.lit (.bool true)], args := [d1, d2, d3, d4] }
  | _ => none }
def scaleDatesRow : OpenClaim := { program := "ytkmlnmbhlkhgpaa", sum := "27b4d39d0fe0dafd1d47ffbab365bbe0c642557c52a06a96f1a4c1c77bf4f1ee", func := "spyglass/spylaw1.ScaleDates", spec := "scaleDates", apart := false }
def ScaleDatesSaid : Prop := scaleDatesRow.holds Try.pinned (OpenSpec.ofChange scaleDatesSpec)

/-- ITS FALSE NEIGHBOUR: 'it returns false'. Refute it at one input. -/
def scaleDatesWrong : ChangeSpec := { name := "scaleDates", fn := fun _ => fun
  | [d1, d2, d3, d4] => { results := [.lit (.bool false)], args := [d1, d2, d3, d4] }
  | _ => none }
def ScaleDatesWrongFalsely : Prop := scaleDatesRow.holds Try.pinned (OpenSpec.ofChange scaleDatesWrong)

/-- 'spylaw1.ScaleCivils': WHATEVER THE INPUT: true; the input reads as it did. -/
def scaleCivilsSpec : ChangeSpec := { name := "scaleCivils", fn := fun _ => fun
  | [d1, d2] => { results := [.lit (.bool true)], args := [d1, d2] }
  | _ => none }
def scaleCivilsRow : OpenClaim := { program := "ytkmlnmbhlkhgpaa", sum := "27b4d39d0fe0dafd1d47ffbab365bbe0c642557c52a06a96f1a4c1c77bf4f1ee", func := "spyglass/spylaw1.ScaleCivils", spec := "scaleCivils", unfollowed := true, recurses := true, apart := false }
def ScaleCivilsSaid : Prop := scaleCivilsRow.holds Try.pinned (OpenSpec.ofChange scaleCivilsSpec)

/-- ITS FALSE NEIGHBOUR: 'it returns false'. Refute it at one input. -/
def scaleCivilsWrong : ChangeSpec := { name := "scaleCivils", fn := fun _ => fun
  | [d1, d2] => { results := [.lit (.bool false)], args := [d1, d2] }
  | _ => none }
def ScaleCivilsWrongFalsely : Prop := scaleCivilsRow.holds Try.pinned (OpenSpec.ofChange scaleCivilsWrong)

/-- 'spylaw1.Names': WHATEVER THE INPUT: true; the input reads as it did. -/
def namesSpec : ChangeSpec := { name := "names", fn := fun _ => fun
  | [] => { results := [.lit (.bool true)], args := [] }
  | _ => none }
def namesRow : OpenClaim := { program := "ytkmlnmbhlkhgpaa", sum := "27b4d39d0fe0dafd1d47ffbab365bbe0c642557c52a06a96f1a4c1c77bf4f1ee", func := "spyglass/spylaw1.Names", spec := "names", inPlace := ["math/bits.Add64"], named := ["math/bits.divideError", "math/bits.overflowError"], apart := false }
def NamesSaid : Prop := namesRow.holds Try.pinned (OpenSpec.ofChange namesSpec)

/-- ITS FALSE NEIGHBOUR: 'it returns false'. Refute it at one input. -/
def namesWrong : ChangeSpec := { name := "names", fn := fun _ => fun
  | [] => { results := [.lit (.bool false)], args := [] }
  | _ => none }
def NamesWrongFalsely : Prop := namesRow.holds Try.pinned (OpenSpec.ofChange namesWrong)

/-- 'spylaw1.NumWideQuotients': WHATEVER THE INPUT: true; the input reads as it did. -/
def numWideQuotientsSpec : ChangeSpec := { name := "numWideQuotients", fn := fun _ => fun
  | [d1, d2] => { results := [.lit (.bool true)], args := [d1, d2] }
  | _ => none }
def numWideQuotientsRow : OpenClaim := { program := "ytkmlnmbhlkhgpaa", sum := "27b4d39d0fe0dafd1d47ffbab365bbe0c642557c52a06a96f1a4c1c77bf4f1ee", func := "spyglass/spylaw1.NumWideQuotients", spec := "numWideQuotients", inPlace := ["math/bits.Add64"], named := ["math/bits.divideError", "math/bits.overflowError"], apart := false }
def NumWideQuotientsSaid : Prop := numWideQuotientsRow.holds Try.pinned (OpenSpec.ofChange numWideQuotientsSpec)

/-- ITS FALSE NEIGHBOUR: 'it returns false'. Refute it at one input. -/
def numWideQuotientsWrong : ChangeSpec := { name := "numWideQuotients", fn := fun _ => fun
  | [d1, d2] => { results := [.lit (.bool false)], args := [d1, d2] }
  | _ => none }
def NumWideQuotientsWrongFalsely : Prop := numWideQuotientsRow.holds Try.pinned (OpenSpec.ofChange numWideQuotientsWrong)

/-- 'spylaw1.NumQuotients': WHATEVER THE INPUT: true; the input reads as it did. -/
def numQuotientsSpec : ChangeSpec := { name := "numQuotients", fn := fun _ => fun
  | [d1, d2] => { results := [.lit (.bool true)], args := [d1, d2] }
  | _ => none }
def numQuotientsRow : OpenClaim := { program := "ytkmlnmbhlkhgpaa", sum := "27b4d39d0fe0dafd1d47ffbab365bbe0c642557c52a06a96f1a4c1c77bf4f1ee", func := "spyglass/spylaw1.NumQuotients", spec := "numQuotients", inPlace := ["math/bits.Add64"], unfollowed := true, recurses := true, named := ["math/bits.divideError", "math/bits.overflowError"], apart := false }
def NumQuotientsSaid : Prop := numQuotientsRow.holds Try.pinned (OpenSpec.ofChange numQuotientsSpec)

/-- ITS FALSE NEIGHBOUR: 'it returns false'. Refute it at one input. -/
def numQuotientsWrong : ChangeSpec := { name := "numQuotients", fn := fun _ => fun
  | [d1, d2] => { results := [.lit (.bool false)], args := [d1, d2] }
  | _ => none }
def NumQuotientsWrongFalsely : Prop := numQuotientsRow.holds Try.pinned (OpenSpec.ofChange numQuotientsWrong)

/-- 'spylaw1.NumSums': WHATEVER THE INPUT: true; the input reads as it did. -/
def numSumsSpec : ChangeSpec := { name := "numSums", fn := fun _ => fun
  | [d1, d2] => { results := [.lit (.bool true)], args := [d1, d2] }
  | _ => none }
def numSumsRow : OpenClaim := { program := "ytkmlnmbhlkhgpaa", sum := "27b4d39d0fe0dafd1d47ffbab365bbe0c642557c52a06a96f1a4c1c77bf4f1ee", func := "spyglass/spylaw1.NumSums", spec := "numSums", inPlace := ["math/bits.Add64"], unfollowed := true, recurses := true, named := ["math/bits.divideError", "math/bits.overflowError"], apart := false }
def NumSumsSaid : Prop := numSumsRow.holds Try.pinned (OpenSpec.ofChange numSumsSpec)

/-- ITS FALSE NEIGHBOUR: 'it returns false'. Refute it at one input. -/
def numSumsWrong : ChangeSpec := { name := "numSums", fn := fun _ => fun
  | [d1, d2] => { results := [.lit (.bool false)], args := [d1, d2] }
  | _ => none }
def NumSumsWrongFalsely : Prop := numSumsRow.holds Try.pinned (OpenSpec.ofChange numSumsWrong)

/-- 'spylaw1.NumRoots': WHATEVER THE INPUT: true; the input reads as it did. -/
def numRootsSpec : ChangeSpec := { name := "numRoots", fn := fun _ => fun
  | [d1, d2] => { results := [.lit (.bool true)], args := [d1, d2] }
  | _ => none }
def numRootsRow : OpenClaim := { program := "ytkmlnmbhlkhgpaa", sum := "27b4d39d0fe0dafd1d47ffbab365bbe0c642557c52a06a96f1a4c1c77bf4f1ee", func := "spyglass/spylaw1.NumRoots", spec := "numRoots", inPlace := ["math/bits.Add64"], named := ["math/bits.divideError", "math/bits.overflowError"], apart := false }
def NumRootsSaid : Prop := numRootsRow.holds Try.pinned (OpenSpec.ofChange numRootsSpec)

/-- ITS FALSE NEIGHBOUR: 'it returns false'. Refute it at one input. -/
def numRootsWrong : ChangeSpec := { name := "numRoots", fn := fun _ => fun
  | [d1, d2] => { results := [.lit (.bool false)], args := [d1, d2] }
  | _ => none }
def NumRootsWrongFalsely : Prop := numRootsRow.holds Try.pinned (OpenSpec.ofChange numRootsWrong)

/-- 'spylaw1.NumMulDivs': WHATEVER THE INPUT: true; the input reads as it did. -/
def numMulDivsSpec : ChangeSpec := { name := "numMulDivs", fn := fun _ => fun
  | [d1, d2, d3] => { results := [.lit (.bool true)], args := [d1, d2, d3] }
  | _ => none }
def numMulDivsRow : OpenClaim := { program := "ytkmlnmbhlkhgpaa", sum := "27b4d39d0fe0dafd1d47ffbab365bbe0c642557c52a06a96f1a4c1c77bf4f1ee", func := "spyglass/spylaw1.NumMulDivs", spec := "numMulDivs", inPlace := ["math/bits.Add64"], named := ["math/bits.divideError", "math/bits.overflowError"], apart := false }
def NumMulDivsSaid : Prop := numMulDivsRow.holds Try.pinned (OpenSpec.ofChange numMulDivsSpec)

/-- ITS FALSE NEIGHBOUR: 'it returns false'. Refute it at one input. -/
def numMulDivsWrong : ChangeSpec := { name := "numMulDivs", fn := fun _ => fun
  | [d1, d2, d3] => { results := [.lit (.bool false)], args := [d1, d2, d3] }
  | _ => none }
def NumMulDivsWrongFalsely : Prop := numMulDivsRow.holds Try.pinned (OpenSpec.ofChange numMulDivsWrong)

/-- 'spylaw1.NumWides': WHATEVER THE INPUT: true; the input reads as it did. -/
def numWidesSpec : ChangeSpec := { name := "numWides", fn := fun _ => fun
  | [d1, d2, d3, d4] => { results := [.lit (.bool true)], args := [d1, d2, d3, d4] }
  | _ => none }
def numWidesRow : OpenClaim := { program := "ytkmlnmbhlkhgpaa", sum := "27b4d39d0fe0dafd1d47ffbab365bbe0c642557c52a06a96f1a4c1c77bf4f1ee", func := "spyglass/spylaw1.NumWides", spec := "numWides", inPlace := ["math/bits.Add64"], unfollowed := true, recurses := true, named := ["math/bits.divideError", "math/bits.overflowError"], apart := false }
def NumWidesSaid : Prop := numWidesRow.holds Try.pinned (OpenSpec.ofChange numWidesSpec)

/-- ITS FALSE NEIGHBOUR: 'it returns false'. Refute it at one input. -/
def numWidesWrong : ChangeSpec := { name := "numWides", fn := fun _ => fun
  | [d1, d2, d3, d4] => { results := [.lit (.bool false)], args := [d1, d2, d3, d4] }
  | _ => none }
def NumWidesWrongFalsely : Prop := numWidesRow.holds Try.pinned (OpenSpec.ofChange numWidesWrong)

/-- 'spylaw1.ClockTimes': WHATEVER THE INPUT: true; the input reads as it did. -/
def clockTimesSpec : ChangeSpec := { name := "clockTimes", fn := fun _ => fun
  | [d1, d2, d3] => { results := [.lit (.bool true)], args := [d1, d2, d3] }
  | _ => none }
def clockTimesRow : OpenClaim := { program := "ytkmlnmbhlkhgpaa", sum := "27b4d39d0fe0dafd1d47ffbab365bbe0c642557c52a06a96f1a4c1c77bf4f1ee", func := "spyglass/spylaw1.ClockTimes", spec := "clockTimes", inPlace := ["math/bits.Add64"], named := ["math/bits.divideError", "math/bits.overflowError"], apart := false }
def ClockTimesSaid : Prop := clockTimesRow.holds Try.pinned (OpenSpec.ofChange clockTimesSpec)

/-- ITS FALSE NEIGHBOUR: 'it returns false'. Refute it at one input. -/
def clockTimesWrong : ChangeSpec := { name := "clockTimes", fn := fun _ => fun
  | [d1, d2, d3] => { results := [.lit (.bool false)], args := [d1, d2, d3] }
  | _ => none }
def ClockTimesWrongFalsely : Prop := clockTimesRow.holds Try.pinned (OpenSpec.ofChange clockTimesWrong)

/-- 'spylaw1.TrigRules': WHATEVER THE INPUT: true; the input reads as it did. -/
def trigRulesSpec : ChangeSpec := { name := "trigRules", fn := fun _ => fun
  | [d] => { results := [.lit (.bool true)], args := [d] }
  | _ => none }
def trigRulesRow : OpenClaim := { program := "ytkmlnmbhlkhgpaa", sum := "27b4d39d0fe0dafd1d47ffbab365bbe0c642557c52a06a96f1a4c1c77bf4f1ee", func := "spyglass/spylaw1.TrigRules", spec := "trigRules", inPlace := ["math/bits.Add64"], named := ["math/bits.divideError", "math/bits.overflowError"], apart := false }
def TrigRulesSaid : Prop := trigRulesRow.holds Try.pinned (OpenSpec.ofChange trigRulesSpec)

/-- ITS FALSE NEIGHBOUR: 'it returns false'. Refute it at one input. -/
def trigRulesWrong : ChangeSpec := { name := "trigRules", fn := fun _ => fun
  | [d] => { results := [.lit (.bool false)], args := [d] }
  | _ => none }
def TrigRulesWrongFalsely : Prop := trigRulesRow.holds Try.pinned (OpenSpec.ofChange trigRulesWrong)

/- THE SECOND FORM. 'bulk': how many values and letters a reading holds, each counted each time it is reached (what is shared counts as often as it is met; a slice's spare places count too). A statement '..UptoSaid' is the law's where the arguments, and the package variables that the reading takes, are together of bulk at most 1048576: NARROWER than '..Said'. Prove '..Said' where nothing that the law and all that it calls make is longer than what came in: it says more and counts as full. Else prove '..UptoSaid'. A law counts once. -/
mutual
def uptoBulk {H : Type} : DataW H → Nat
  | .lit (.string bytes) => bytes.length + 1
  | .lit _ => 1
  | .nil => 1
  | .ptr d => uptoBulk d + 1
  | .slice elems spare => uptoBulkAll elems + uptoBulkAll spare + 1
  | .agg parts => uptoBulkAll parts + 1
  | .iface _ d => uptoBulk d + 1
  | .map entries => uptoBulkEntries entries + 1
  | .held _ => 1
def uptoBulkAll {H : Type} : List (DataW H) → Nat
  | [] => 0
  | d :: r => uptoBulk d + uptoBulkAll r
def uptoBulkEntries {H : Type} : List (Lit × DataW H) → Nat
  | [] => 0
  | x :: r => uptoBulkEntry x + uptoBulkEntries r
def uptoBulkEntry {H : Type} : Lit × DataW H → Nat
  | (.string bytes, d) => bytes.length + uptoBulk d + 1
  | (_, d) => uptoBulk d + 1
 end
def uptoSmall : (H : Type) → List (DataW H) → Bool := fun _ ds => decide (uptoBulkAll ds ≤ 1048576)
def OpenSpec.upto (s : _root_.Go.ChangeSpec) : _root_.Go.OpenSpec := { _root_.Go.OpenSpec.ofChange s with cond := some uptoSmall }

/-- 'spylaw1.ScaleUniforms', WHERE WHAT IT READS IS OF BULK AT MOST 1048576: true; the input reads as it did. -/
def scaleUniformsUptoRow : OpenClaim := { program := "ytkmlnmbhlkhgpaa", sum := "27b4d39d0fe0dafd1d47ffbab365bbe0c642557c52a06a96f1a4c1c77bf4f1ee", func := "spyglass/spylaw1.ScaleUniforms", spec := "scaleUniforms", unfollowed := true, recurses := true, apart := false, narrowed := true }
def ScaleUniformsUptoSaid : Prop := scaleUniformsUptoRow.holds Try.pinned (OpenSpec.upto scaleUniformsSpec)

/-- 'spylaw1.ScaleDates', WHERE WHAT IT READS IS OF BULK AT MOST 1048576: true; the input reads as it did. -/
def scaleDatesUptoRow : OpenClaim := { program := "ytkmlnmbhlkhgpaa", sum := "27b4d39d0fe0dafd1d47ffbab365bbe0c642557c52a06a96f1a4c1c77bf4f1ee", func := "spyglass/spylaw1.ScaleDates", spec := "scaleDates", apart := false, narrowed := true }
def ScaleDatesUptoSaid : Prop := scaleDatesUptoRow.holds Try.pinned (OpenSpec.upto scaleDatesSpec)

/-- 'spylaw1.ScaleCivils', WHERE WHAT IT READS IS OF BULK AT MOST 1048576: true; the input reads as it did. -/
def scaleCivilsUptoRow : OpenClaim := { program := "ytkmlnmbhlkhgpaa", sum := "27b4d39d0fe0dafd1d47ffbab365bbe0c642557c52a06a96f1a4c1c77bf4f1ee", func := "spyglass/spylaw1.ScaleCivils", spec := "scaleCivils", unfollowed := true, recurses := true, apart := false, narrowed := true }
def ScaleCivilsUptoSaid : Prop := scaleCivilsUptoRow.holds Try.pinned (OpenSpec.upto scaleCivilsSpec)

/-- 'spylaw1.Names', WHERE WHAT IT READS IS OF BULK AT MOST 1048576: true; the input reads as it did. -/
def namesUptoRow : OpenClaim := { program := "ytkmlnmbhlkhgpaa", sum := "27b4d39d0fe0dafd1d47ffbab365bbe0c642557c52a06a96f1a4c1c77bf4f1ee", func := "spyglass/spylaw1.Names", spec := "names", inPlace := ["math/bits.Add64"], named := ["math/bits.divideError", "math/bits.overflowError"], apart := false, narrowed := true }
def NamesUptoSaid : Prop := namesUptoRow.holds Try.pinned (OpenSpec.upto namesSpec)

/-- 'spylaw1.NumWideQuotients', WHERE WHAT IT READS IS OF BULK AT MOST 1048576: true; the input reads as it did. -/
def numWideQuotientsUptoRow : OpenClaim := { program := "ytkmlnmbhlkhgpaa", sum := "27b4d39d0fe0dafd1d47ffbab365bbe0c642557c52a06a96f1a4c1c77bf4f1ee", func := "spyglass/spylaw1.NumWideQuotients", spec := "numWideQuotients", inPlace := ["math/bits.Add64"], named := ["math/bits.divideError", "math/bits.overflowError"], apart := false, narrowed := true }
def NumWideQuotientsUptoSaid : Prop := numWideQuotientsUptoRow.holds Try.pinned (OpenSpec.upto numWideQuotientsSpec)

/-- 'spylaw1.NumQuotients', WHERE WHAT IT READS IS OF BULK AT MOST 1048576: true; the input reads as it did. -/
def numQuotientsUptoRow : OpenClaim := { program := "ytkmlnmbhlkhgpaa", sum := "27b4d39d0fe0dafd1d47ffbab365bbe0c642557c52a06a96f1a4c1c77bf4f1ee", func := "spyglass/spylaw1.NumQuotients", spec := "numQuotients", inPlace := ["math/bits.Add64"], unfollowed := true, recurses := true, named := ["math/bits.divideError", "math/bits.overflowError"], apart := false, narrowed := true }
def NumQuotientsUptoSaid : Prop := numQuotientsUptoRow.holds Try.pinned (OpenSpec.upto numQuotientsSpec)

/-- 'spylaw1.NumSums', WHERE WHAT IT READS IS OF BULK AT MOST 1048576: true; the input reads as it did. -/
def numSumsUptoRow : OpenClaim := { program := "ytkmlnmbhlkhgpaa", sum := "27b4d39d0fe0dafd1d47ffbab365bbe0c642557c52a06a96f1a4c1c77bf4f1ee", func := "spyglass/spylaw1.NumSums", spec := "numSums", inPlace := ["math/bits.Add64"], unfollowed := true, recurses := true, named := ["math/bits.divideError", "math/bits.overflowError"], apart := false, narrowed := true }
def NumSumsUptoSaid : Prop := numSumsUptoRow.holds Try.pinned (OpenSpec.upto numSumsSpec)

/-- 'spylaw1.NumRoots', WHERE WHAT IT READS IS OF BULK AT MOST 1048576: true; the input reads as it did. -/
def numRootsUptoRow : OpenClaim := { program := "ytkmlnmbhlkhgpaa", sum := "27b4d39d0fe0dafd1d47ffbab365bbe0c642557c52a06a96f1a4c1c77bf4f1ee", func := "spyglass/spylaw1.NumRoots", spec := "numRoots", inPlace := ["math/bits.Add64"], named := ["math/bits.divideError", "math/bits.overflowError"], apart := false, narrowed := true }
def NumRootsUptoSaid : Prop := numRootsUptoRow.holds Try.pinned (OpenSpec.upto numRootsSpec)

/-- 'spylaw1.NumMulDivs', WHERE WHAT IT READS IS OF BULK AT MOST 1048576: true; the input reads as it did. -/
def numMulDivsUptoRow : OpenClaim := { program := "ytkmlnmbhlkhgpaa", sum := "27b4d39d0fe0dafd1d47ffbab365bbe0c642557c52a06a96f1a4c1c77bf4f1ee", func := "spyglass/spylaw1.NumMulDivs", spec := "numMulDivs", inPlace := ["math/bits.Add64"], named := ["math/bits.divideError", "math/bits.overflowError"], apart := false, narrowed := true }
def NumMulDivsUptoSaid : Prop := numMulDivsUptoRow.holds Try.pinned (OpenSpec.upto numMulDivsSpec)

/-- 'spylaw1.NumWides', WHERE WHAT IT READS IS OF BULK AT MOST 1048576: true; the input reads as it did. -/
def numWidesUptoRow : OpenClaim := { program := "ytkmlnmbhlkhgpaa", sum := "27b4d39d0fe0dafd1d47ffbab365bbe0c642557c52a06a96f1a4c1c77bf4f1ee", func := "spyglass/spylaw1.NumWides", spec := "numWides", inPlace := ["math/bits.Add64"], unfollowed := true, recurses := true, named := ["math/bits.divideError", "math/bits.overflowError"], apart := false, narrowed := true }
def NumWidesUptoSaid : Prop := numWidesUptoRow.holds Try.pinned (OpenSpec.upto numWidesSpec)

/-- 'spylaw1.ClockTimes', WHERE WHAT IT READS IS OF BULK AT MOST 1048576: true; the input reads as it did. -/
def clockTimesUptoRow : OpenClaim := { program := "ytkmlnmbhlkhgpaa", sum := "27b4d39d0fe0dafd1d47ffbab365bbe0c642557c52a06a96f1a4c1c77bf4f1ee", func := "spyglass/spylaw1.ClockTimes", spec := "clockTimes", inPlace := ["math/bits.Add64"], named := ["math/bits.divideError", "math/bits.overflowError"], apart := false, narrowed := true }
def ClockTimesUptoSaid : Prop := clockTimesUptoRow.holds Try.pinned (OpenSpec.upto clockTimesSpec)

/-- 'spylaw1.TrigRules', WHERE WHAT IT READS IS OF BULK AT MOST 1048576: true; the input reads as it did. -/
def trigRulesUptoRow : OpenClaim := { program := "ytkmlnmbhlkhgpaa", sum := "27b4d39d0fe0dafd1d47ffbab365bbe0c642557c52a06a96f1a4c1c77bf4f1ee", func := "spyglass/spylaw1.TrigRules", spec := "trigRules", inPlace := ["math/bits.Add64"], named := ["math/bits.divideError", "math/bits.overflowError"], apart := false, narrowed := true }
def TrigRulesUptoSaid : Prop := trigRulesUptoRow.holds Try.pinned (OpenSpec.upto trigRulesSpec)

end Rows
end Go.Proofs.Ytkmlnmbhlkhgpaa
