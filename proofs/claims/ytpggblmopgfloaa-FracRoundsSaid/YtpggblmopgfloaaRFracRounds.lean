/- The functions Cmp, Floor, Ceil and Round of fractions return what the reference says, for all numbers. There are no further conditions. -/
import Derived.Test.YtpggblmopgfloaaRows
import Derived.Test.YtpggblmopgfloaaFk
import Derived.WalkKit
import Derived.ProofKit
namespace Go.Proofs.Ytpggblmopgfloaa.fracRounds
open Go Go.RowKit Go.Proofs.Ytpggblmopgfloaa.Sv
set_option linter.unusedVariables false
theorem own : ownKnob Try.prog.godebug = none := by kernel_rfl
set_option maxRecDepth 100000 in
theorem shape : Ty.ofArgs Try.prog 100 Try.f6.params.toList = some ((.pair (.pair (.n .i64) (.pair (.n .i64) .nil)) (.pair (.pair (.n .i64) (.pair (.n .i64) .nil)) .nil))) := by kernel_rfl
set_option maxRecDepth 100000 in
theorem entered : (Fn1.of Try.prog 6 ⟨false, [], false⟩ [[2, 3], [2, 3, 5], [2, 3, 5, 6, 7, 8], [2, 3, 5, 6, 7, 8, 13], [2, 3, 5, 6, 7, 8, 9, 10], [2, 3, 5, 6, 7, 8, 9, 10], [2, 3, 5, 6, 7, 8, 9, 10, 31], [2, 3, 5, 6, 7, 8], [4]]).isSome = true := by kernel_rfl
set_option maxRecDepth 100000 in
theorem laid : laidOutB Try.prog = true := by kernel_rfl
set_option maxRecDepth 100000 in
theorem rows : Try.f6.params.toList.all (fun t => Try.prog.readableRec t && decide (t < Try.prog.types.size)) = true := by kernel_rfl
set_option maxRecDepth 100000 in
theorem count : Try.f6.params.toList.length = 2 := by kernel_rfl
set_option maxRecDepth 100000 in
theorem isBool : ∃ tb, Try.f6.resultTypes = #[tb] ∧ Try.prog.underlying tb = some .bool := ⟨4, by kernel_rfl, by kernel_rfl⟩
theorem spec {H : Type} (ds : List (DataW H)) (h : ds.length = Try.f6.params.toList.length) : Rows.fracRoundsSpec.fn H ds = { results := [.lit (.bool true)], args := ds } := by
  rw [count] at h
  match ds, h with
  | [_, _], _ => rfl
set_option maxRecDepth 100000 in
theorem lifted (os : Os) (started : os.Started) (H : Type) (enc : TypeId × Value → H) :
    ReturnsInHanded {} Try.checked os 6 .any (Rows.fracRoundsSpec.pre6 enc Try.prog Try.f6 Rows.fracRoundsRow.domain false) (Rows.fracRoundsSpec.post enc Try.prog Try.f6 false true false false) := by
  refine returnsInHanded_of_change_sized (C := Try.checked) own started (by kernel_rfl) Try.func6
    (ChangeSpec.witness6 (enc := enc) (C := Try.checked) false ⟨#[], #[.agg #[.int .i64 0, .int .i64 0], .agg #[.int .i64 0, .int .i64 0]], []⟩ 8 (by kernel_rfl) (by kernel_rfl) (by kernel_rfl) (by kernel_rfl)) ?_
  intro W base args ds gs before hval hW hcnd hsz _
  obtain ⟨tb, h1, h2⟩ := isBool
  exact contract_of_pure (P := Try.prog) (fn := Try.f6) (s := Rows.fracRoundsSpec) Try.func6 entered laid rows h1 h2 rfl spec shape
    (fun x h => fracRounds_pure x.1.1 x.1.2.1 x.2.1.1 x.2.1.2.1 h.1.1 h.1.2.1 h.2.1.1 h.2.1.2.1)
    hval hW hsz
theorem over : Rows.fracRoundsRow.holds Try.pinned (OpenSpec.ofChange Rows.fracRoundsSpec) :=
  OpenClaim.holds_of_wide 6 Try.f6 rfl rfl rfl rfl rfl rfl rfl ⟨rfl, rfl, rfl, rfl, rfl⟩ rfl rfl rfl rfl rfl (by kernel_rfl) Try.func6 (by kernel_rfl)
    (of_decide_eq_true (by kernel_rfl)) (by unfold Func.isWrapper; first | (rw [if_pos (by decide +kernel)]; kernel_rfl) | (rw [if_neg (by decide +kernel)]; exact ⟨rfl, rfl⟩))
    (fun os started H enc _ => lifted os started H enc)
theorem proved : Rows.FracRoundsSaid := over
end Go.Proofs.Ytpggblmopgfloaa.fracRounds
namespace Go.Proofs.Ytpggblmopgfloaa
/-- The statement, as it is given. -/
theorem fracRounds_holds : Rows.FracRoundsSaid := fracRounds.proved
#print axioms fracRounds_holds
end Go.Proofs.Ytpggblmopgfloaa
