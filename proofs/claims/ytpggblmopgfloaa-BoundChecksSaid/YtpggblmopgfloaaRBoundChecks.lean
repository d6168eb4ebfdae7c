/- The functions Check, None, Norm, Of, Exact, As, Has, Inside, Cmp and Width of bounds return what the reference says, for all bounds and numbers. There are no further conditions. -/
import Derived.Test.YtpggblmopgfloaaRows
import Derived.Test.YtpggblmopgfloaaBz
import Derived.WalkKit
import Derived.ProofKit
namespace Go.Proofs.Ytpggblmopgfloaa.boundChecks
open Go Go.RowKit Go.Proofs.Ytpggblmopgfloaa.Sv
set_option linter.unusedVariables false
theorem own : ownKnob Try.prog.godebug = none := by kernel_rfl
set_option maxRecDepth 100000 in
theorem shape : Ty.ofArgs Try.prog 100 Try.f3.params.toList = some ((.pair (.pair (.n .i64) (.pair (.n .i64) (.pair .b .nil))) (.pair (.pair (.n .i64) (.pair (.n .i64) (.pair .b .nil))) (.pair (.n .i64) (.pair (.n .i64) .nil))))) := by kernel_rfl
set_option maxRecDepth 100000 in
theorem entered : (Fn1.of Try.prog 3 ⟨false, [], false⟩ [[2, 3, 4, 5], [2, 3, 4, 5, 9], [2, 3, 4, 5, 9, 10, 11, 12], [2, 3, 4, 5, 9, 10, 11, 12, 13, 14, 15], [2, 3, 4, 5, 9, 10, 11, 12, 13, 14, 15, 16, 17], [2, 3, 4, 5, 9, 10, 11, 12, 13, 14, 15, 16, 17, 36], [2, 3, 4, 5, 9, 10, 11, 12, 13, 14, 15, 16, 17], [2, 3, 4, 5, 9, 10, 11, 12, 13, 14, 15, 16, 17, 18], [2, 3, 4, 5, 9, 10, 11, 12, 13, 14, 15, 16, 17, 18, 52], [2, 3, 4, 5, 9, 10, 11, 12, 13, 14, 15, 16, 17, 18], [2, 3, 4, 5, 9, 10, 11, 12, 13, 14, 15, 16, 17, 18, 62], [2, 3, 4, 5, 9, 10, 11, 12, 13, 14, 15, 16, 17, 18], [2, 3, 4, 5, 9, 10, 11, 12, 13, 14, 15, 16, 17, 18, 19, 20], [2, 3, 4, 5, 9, 10, 11, 12, 13, 14, 15, 16, 17, 18, 19, 20, 21], [8]]).isSome = true := by kernel_rfl
set_option maxRecDepth 100000 in
theorem laid : laidOutB Try.prog = true := by kernel_rfl
set_option maxRecDepth 100000 in
theorem rows : Try.f3.params.toList.all (fun t => Try.prog.readableRec t && decide (t < Try.prog.types.size)) = true := by kernel_rfl
set_option maxRecDepth 100000 in
theorem count : Try.f3.params.toList.length = 4 := by kernel_rfl
set_option maxRecDepth 100000 in
theorem isBool : ∃ tb, Try.f3.resultTypes = #[tb] ∧ Try.prog.underlying tb = some .bool := ⟨4, by kernel_rfl, by kernel_rfl⟩
theorem spec {H : Type} (ds : List (DataW H)) (h : ds.length = Try.f3.params.toList.length) : Rows.boundChecksSpec.fn H ds = { results := [.lit (.bool true)], args := ds } := by
  rw [count] at h
  match ds, h with
  | [_, _, _, _], _ => rfl
set_option maxRecDepth 100000 in
theorem lifted (os : Os) (started : os.Started) (H : Type) (enc : TypeId × Value → H) :
    ReturnsInHanded {} Try.checked os 3 .any (Rows.boundChecksSpec.pre6 enc Try.prog Try.f3 Rows.boundChecksRow.domain false) (Rows.boundChecksSpec.post enc Try.prog Try.f3 false true false false) := by
  refine returnsInHanded_of_change_sized (C := Try.checked) own started (by kernel_rfl) Try.func3
    (ChangeSpec.witness6 (enc := enc) (C := Try.checked) false ⟨#[], #[.agg #[.int .i64 0, .int .i64 0, .bool false], .agg #[.int .i64 0, .int .i64 0, .bool false], .int .i64 0, .int .i64 0], []⟩ 8 (by kernel_rfl) (by kernel_rfl) (by kernel_rfl) (by kernel_rfl)) ?_
  intro W base args ds gs before hval hW hcnd hsz _
  obtain ⟨tb, h1, h2⟩ := isBool
  exact contract_of_pure (P := Try.prog) (fn := Try.f3) (s := Rows.boundChecksSpec) Try.func3 entered laid rows h1 h2 rfl spec shape
    (fun x h => boundChecks_pure x.1.1 x.1.2.1 x.1.2.2.1 x.2.1.1 x.2.1.2.1 x.2.1.2.2.1 x.2.2.1 x.2.2.2.1 h.2.2.1 h.2.2.2.1)
    (fun _ _ h => nomatch h) hval hW hsz
theorem over : Rows.boundChecksRow.holds Try.pinned (OpenSpec.ofChange Rows.boundChecksSpec) :=
  OpenClaim.holds_of_wide 3 Try.f3 rfl rfl rfl rfl rfl rfl rfl ⟨rfl, rfl, rfl, rfl, rfl⟩ rfl rfl rfl rfl rfl (by kernel_rfl) Try.func3 (by kernel_rfl)
    (of_decide_eq_true (by kernel_rfl)) (by unfold Func.isWrapper; first | (rw [if_pos (by decide +kernel)]; kernel_rfl) | (rw [if_neg (by decide +kernel)]; exact ⟨rfl, rfl⟩))
    (fun os started H enc _ => lifted os started H enc)
theorem proved : Rows.BoundChecksSaid := over
end Go.Proofs.Ytpggblmopgfloaa.boundChecks
namespace Go.Proofs.Ytpggblmopgfloaa
/-- The statement, as it is given. -/
theorem boundChecks_holds : Rows.BoundChecksSaid := boundChecks.proved
#print axioms boundChecks_holds
end Go.Proofs.Ytpggblmopgfloaa
