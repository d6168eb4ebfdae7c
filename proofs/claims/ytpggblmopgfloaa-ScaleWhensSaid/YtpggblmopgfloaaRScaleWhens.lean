/- The function When of rotations returns what the reference says, for all rotations, times and angles. There are no further conditions. -/
import Derived.Test.YtpggblmopgfloaaRows
import Derived.Test.YtpggblmopgfloaaUb
import Derived.WalkKit
import Derived.ProofKit
namespace Go.Proofs.Ytpggblmopgfloaa.scaleWhens
open Go Go.RowKit Go.Proofs.Ytpggblmopgfloaa.Sv
set_option linter.unusedVariables false
theorem own : ownKnob Try.prog.godebug = none := by kernel_rfl
set_option maxRecDepth 100000 in
theorem shape : Ty.ofArgs Try.prog 100 Try.f8.params.toList = some ((.pair (.pair (.n .i64) (.pair (.n .i64) (.pair (.pair (.n .i64) (.pair (.n .i64) .nil)) .nil))) (.pair (.n .i64) (.pair (.n .i64) .nil)))) := by kernel_rfl
set_option maxRecDepth 100000 in
theorem entered : (Fn1.of Try.prog 8 ⟨false, [], false⟩ [[1, 2, 3], [1, 2, 3, 7, 8], [1, 2, 3, 7, 8, 9], [1, 2, 3, 7, 8, 9, 38], [1, 2, 3, 7, 8, 9], [1, 2, 3, 7, 8, 9, 44], [6], [7, 8, 10, 11], [6]]).isSome = true := by kernel_rfl
set_option maxRecDepth 100000 in
theorem laid : laidOutB Try.prog = true := by kernel_rfl
set_option maxRecDepth 100000 in
theorem rows : Try.f8.params.toList.all (fun t => Try.prog.readableRec t && decide (t < Try.prog.types.size)) = true := by kernel_rfl
set_option maxRecDepth 100000 in
theorem count : Try.f8.params.toList.length = 3 := by kernel_rfl
set_option maxRecDepth 100000 in
theorem isBool : ∃ tb, Try.f8.resultTypes = #[tb] ∧ Try.prog.underlying tb = some .bool := ⟨4, by kernel_rfl, by kernel_rfl⟩
theorem spec {H : Type} (ds : List (DataW H)) (h : ds.length = Try.f8.params.toList.length) : Rows.scaleWhensSpec.fn H ds = { results := [.lit (.bool true)], args := ds } := by
  rw [count] at h
  match ds, h with
  | [_, _, _], _ => rfl
set_option maxRecDepth 100000 in
theorem lifted (os : Os) (started : os.Started) (H : Type) (enc : TypeId × Value → H) :
    ReturnsInHanded {} Try.checked os 8 .any (Rows.scaleWhensSpec.pre6 enc Try.prog Try.f8 Rows.scaleWhensRow.domain false) (Rows.scaleWhensSpec.post enc Try.prog Try.f8 false true false false) := by
  refine returnsInHanded_of_change_sized (C := Try.checked) own started (by kernel_rfl) Try.func8
    (ChangeSpec.witness6 (enc := enc) (C := Try.checked) false ⟨#[], #[.agg #[.int .i64 0, .int .i64 0, .int .i64 0, .int .i64 0], .int .i64 0, .int .i64 0], []⟩ 8 (by kernel_rfl) (by kernel_rfl) (by kernel_rfl) (by kernel_rfl)) ?_
  intro W base args ds gs before hval hW hcnd hsz _
  obtain ⟨tb, h1, h2⟩ := isBool
  exact contract_of_pure (P := Try.prog) (fn := Try.f8) (s := Rows.scaleWhensSpec) Try.func8 entered laid rows h1 h2 rfl spec shape
    (fun x h => scaleWhens_pure x.1.1 x.1.2.1 x.1.2.2.1.1 x.1.2.2.1.2.1 x.2.1 x.2.2.1 h.1.2.2.1.1 h.1.2.2.1.2.1)
    hval hW hsz
theorem over : Rows.scaleWhensRow.holds Try.pinned (OpenSpec.ofChange Rows.scaleWhensSpec) :=
  OpenClaim.holds_of_wide 8 Try.f8 rfl rfl rfl rfl rfl rfl rfl ⟨rfl, rfl, rfl, rfl, rfl⟩ rfl rfl rfl rfl rfl (by kernel_rfl) Try.func8 (by kernel_rfl)
    (of_decide_eq_true (by kernel_rfl)) (by unfold Func.isWrapper; first | (rw [if_pos (by decide +kernel)]; kernel_rfl) | (rw [if_neg (by decide +kernel)]; exact ⟨rfl, rfl⟩))
    (fun os started H enc _ => lifted os started H enc)
theorem proved : Rows.ScaleWhensSaid := over
end Go.Proofs.Ytpggblmopgfloaa.scaleWhens
namespace Go.Proofs.Ytpggblmopgfloaa
/-- The statement, as it is given. -/
theorem scaleWhens_holds : Rows.ScaleWhensSaid := scaleWhens.proved
#print axioms scaleWhens_holds
end Go.Proofs.Ytpggblmopgfloaa
