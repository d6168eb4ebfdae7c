/- The functions Check, Make, Add, Sub, Mul and Div of fractions return what the reference says, for all numbers. There are no further conditions. -/
import Derived.Test.YtpggblmopgfloaaRows
import Derived.Test.YtpggblmopgfloaaFn
import Derived.WalkKit
import Derived.ProofKit
namespace Go.Proofs.Ytpggblmopgfloaa.fracSums
open Go Go.RowKit Go.Proofs.Ytpggblmopgfloaa.Sv
set_option linter.unusedVariables false
theorem own : ownKnob Try.prog.godebug = none := by kernel_rfl
set_option maxRecDepth 100000 in
theorem shape : Ty.ofArgs Try.prog 100 Try.f7.params.toList = some ((.pair (.n .i64) (.pair (.n .i64) (.pair (.pair (.n .i64) (.pair (.n .i64) .nil)) (.pair (.pair (.n .i64) (.pair (.n .i64) .nil)) .nil))))) := by kernel_rfl
set_option maxRecDepth 100000 in
theorem entered : (Fn1.of Try.prog 7 ⟨false, [], false⟩ [[0, 1, 6, 7], [0, 1, 6, 7, 9, 10], [0, 1, 6, 7, 9, 10, 11, 12], [0, 1, 6, 7, 9, 10, 11, 12, 32], [6, 7, 9, 10, 11, 12], [6, 7, 59], [8], [6, 7, 13], [6, 7, 13, 63], [6, 7, 13], [6, 7, 13, 14, 15, 16, 17], [6, 7, 13, 14, 15, 16, 17, 78, 79, 80], [6, 7, 13, 14, 15, 16, 17, 78, 79, 80], [6, 7, 13, 14, 15, 16, 17, 78, 79, 80, 81], [6, 7, 13, 14, 15, 16, 17, 18, 19, 78, 79, 80], [6, 7, 13, 14, 15, 16, 17, 18, 20, 21, 78, 79, 80], [6, 7, 13, 14, 15, 16, 17, 18, 20, 21, 22, 23, 78, 79, 80], [6, 7, 13, 14, 15, 16, 17, 18, 20, 21, 22, 23, 78, 79, 80, 104], [6, 7, 13, 14, 15, 16, 17, 18, 20, 21, 22, 78, 79, 80, 107], [6, 7, 13, 14, 15, 16, 17, 20, 21, 22, 23, 78, 79, 80], [6, 7, 13, 14, 15, 16, 17, 18, 20, 21, 22, 78, 79, 80, 124], [6, 7, 13, 14, 15, 16, 17, 20, 21, 22, 23, 78, 79, 80], [6, 7, 13, 14, 15, 16, 17, 20, 21, 22, 78, 79, 80, 141], [6, 7, 13, 14, 15, 16, 17, 20, 21, 22, 23, 78, 79, 80], [6, 7, 13, 14, 15, 16, 17, 20, 21, 22, 78, 79, 80, 154], [6, 7, 13, 14, 15, 16, 17, 20, 21, 22, 23, 78, 79, 80], [6, 7, 13, 14, 15, 16, 17, 20, 21, 22, 23, 78, 79, 80], [6, 7, 13, 14, 15, 16, 17, 78, 79, 80, 165], [8], [6, 7, 13, 14, 15, 16, 17, 78, 79, 80], [8]]).isSome = true := by kernel_rfl
set_option maxRecDepth 100000 in
theorem laid : laidOutB Try.prog = true := by kernel_rfl
set_option maxRecDepth 100000 in
theorem rows : Try.f7.params.toList.all (fun t => Try.prog.readableRec t && decide (t < Try.prog.types.size)) = true := by kernel_rfl
set_option maxRecDepth 100000 in
theorem count : Try.f7.params.toList.length = 4 := by kernel_rfl
set_option maxRecDepth 100000 in
theorem isBool : ∃ tb, Try.f7.resultTypes = #[tb] ∧ Try.prog.underlying tb = some .bool := ⟨4, by kernel_rfl, by kernel_rfl⟩
theorem spec {H : Type} (ds : List (DataW H)) (h : ds.length = Try.f7.params.toList.length) : Rows.fracSumsSpec.fn H ds = { results := [.lit (.bool true)], args := ds } := by
  rw [count] at h
  match ds, h with
  | [_, _, _, _], _ => rfl
set_option maxRecDepth 100000 in
theorem lifted (os : Os) (started : os.Started) (H : Type) (enc : TypeId × Value → H) :
    ReturnsInHanded {} Try.checked os 7 .any (Rows.fracSumsSpec.pre6 enc Try.prog Try.f7 Rows.fracSumsRow.domain false) (Rows.fracSumsSpec.post enc Try.prog Try.f7 false true false false) := by
  refine returnsInHanded_of_change_sized (C := Try.checked) own started (by kernel_rfl) Try.func7
    (ChangeSpec.witness6 (enc := enc) (C := Try.checked) false ⟨#[], #[.int .i64 0, .int .i64 0, .agg #[.int .i64 0, .int .i64 0], .agg #[.int .i64 0, .int .i64 0]], []⟩ 8 (by kernel_rfl) (by kernel_rfl) (by kernel_rfl) (by kernel_rfl)) ?_
  intro W base args ds gs before hval hW hcnd hsz _
  obtain ⟨tb, h1, h2⟩ := isBool
  exact contract_of_pure (P := Try.prog) (fn := Try.f7) (s := Rows.fracSumsSpec) Try.func7 entered laid rows h1 h2 rfl spec shape
    (fun x h => fracSums_pure x.1 x.2.1 x.2.2.1.1 x.2.2.1.2.1 x.2.2.2.1.1 x.2.2.2.1.2.1 h.1 h.2.1 h.2.2.1.1 h.2.2.1.2.1 h.2.2.2.1.1 h.2.2.2.1.2.1)
    hval hW hsz
theorem over : Rows.fracSumsRow.holds Try.pinned (OpenSpec.ofChange Rows.fracSumsSpec) :=
  OpenClaim.holds_of_wide 7 Try.f7 rfl rfl rfl rfl rfl rfl rfl ⟨rfl, rfl, rfl, rfl, rfl⟩ rfl rfl rfl rfl rfl (by kernel_rfl) Try.func7 (by kernel_rfl)
    (of_decide_eq_true (by kernel_rfl)) (by unfold Func.isWrapper; first | (rw [if_pos (by decide +kernel)]; kernel_rfl) | (rw [if_neg (by decide +kernel)]; exact ⟨rfl, rfl⟩))
    (fun os started H enc _ => lifted os started H enc)
theorem proved : Rows.FracSumsSaid := over
end Go.Proofs.Ytpggblmopgfloaa.fracSums
namespace Go.Proofs.Ytpggblmopgfloaa
/-- The statement, as it is given. -/
theorem fracSums_holds : Rows.FracSumsSaid := fracSums.proved
#print axioms fracSums_holds
end Go.Proofs.Ytpggblmopgfloaa
