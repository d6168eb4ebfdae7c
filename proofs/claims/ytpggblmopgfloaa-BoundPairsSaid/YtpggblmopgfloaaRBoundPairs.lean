/- The functions Min, Max, Abs, Hull and Meet of bounds return what the reference says, for all bounds. There are no further conditions. -/
import Derived.Test.YtpggblmopgfloaaRows
import Derived.Test.YtpggblmopgfloaaBw
import Derived.WalkKit
import Derived.ProofKit
namespace Go.Proofs.Ytpggblmopgfloaa.boundPairs
open Go Go.RowKit Go.Proofs.Ytpggblmopgfloaa.Sv
set_option linter.unusedVariables false
theorem own : ownKnob Try.prog.godebug = none := by kernel_rfl
set_option maxRecDepth 100000 in
theorem shape : Ty.ofArgs Try.prog 100 Try.f5.params.toList = some ((.pair (.pair (.n .i64) (.pair (.n .i64) (.pair .b .nil))) (.pair (.pair (.n .i64) (.pair (.n .i64) (.pair .b .nil))) .nil))) := by kernel_rfl
set_option maxRecDepth 100000 in
theorem entered : (Fn1.of Try.prog 5 ⟨false, [], false⟩ [[2, 3], [2, 3, 5, 6, 7], [2, 3, 5, 6, 7, 8, 9, 10], [2, 3, 5, 6, 7, 8, 9, 10, 11], [2, 3, 5, 6, 7, 8, 9, 10, 11, 12], [2, 3, 5, 6, 7, 8, 9, 10, 11, 12, 13, 14, 15, 16], [2, 3, 5, 6, 7, 8, 9, 10, 11, 12, 13, 14, 15, 16, 42], [2, 3, 5, 6, 7, 8, 9, 10, 11, 12, 13, 14, 15, 16], [2, 3, 5, 6, 7, 8, 9, 10, 11, 12, 13, 14, 15, 16], [2, 3, 5, 6, 7, 8, 9, 10, 11, 12, 13, 14, 15, 16, 70], [2, 3, 5, 6, 7, 8, 9, 10, 11, 12, 13, 14, 15, 16, 17], [2, 3, 5, 6, 7, 8, 9, 10, 11, 12, 13, 14, 15, 16, 17, 76], [2, 3, 5, 6, 7, 8, 9, 10, 11, 12, 13, 14, 15, 16, 17], [2, 3, 5, 6, 7, 8, 9, 10, 11, 12, 13, 14, 15, 16], [2, 3, 5, 6, 7, 8, 9, 10, 12, 13, 14, 15, 16, 18, 19], [2, 3, 5, 6, 7, 8, 9, 10, 12, 13, 14, 15, 16, 18, 19, 92], [2, 3, 13, 14, 15, 16, 18, 19], [2, 3, 13, 14, 15, 16, 18, 19, 107], [2, 3, 13, 14, 15, 16, 18, 19], [2, 3, 10, 13, 14, 15, 16, 18, 19, 109], [2, 3, 13, 14, 15, 16, 18, 19], [2, 3, 13, 14, 15, 16, 18, 19, 112], [2, 3, 13, 14, 15, 16, 18, 19], [2, 3, 13, 14, 15, 16, 18, 19, 20, 21], [4]]).isSome = true := by kernel_rfl
set_option maxRecDepth 100000 in
theorem laid : laidOutB Try.prog = true := by kernel_rfl
set_option maxRecDepth 100000 in
theorem rows : Try.f5.params.toList.all (fun t => Try.prog.readableRec t && decide (t < Try.prog.types.size)) = true := by kernel_rfl
set_option maxRecDepth 100000 in
theorem count : Try.f5.params.toList.length = 2 := by kernel_rfl
set_option maxRecDepth 100000 in
theorem isBool : ∃ tb, Try.f5.resultTypes = #[tb] ∧ Try.prog.underlying tb = some .bool := ⟨4, by kernel_rfl, by kernel_rfl⟩
theorem spec {H : Type} (ds : List (DataW H)) (h : ds.length = Try.f5.params.toList.length) : Rows.boundPairsSpec.fn H ds = { results := [.lit (.bool true)], args := ds } := by
  rw [count] at h
  match ds, h with
  | [_, _], _ => rfl
set_option maxRecDepth 100000 in
theorem lifted (os : Os) (started : os.Started) (H : Type) (enc : TypeId × Value → H) :
    ReturnsInHanded {} Try.checked os 5 .any (Rows.boundPairsSpec.pre6 enc Try.prog Try.f5 Rows.boundPairsRow.domain false) (Rows.boundPairsSpec.post enc Try.prog Try.f5 false true false false) := by
  refine returnsInHanded_of_change_sized (C := Try.checked) own started (by kernel_rfl) Try.func5
    (ChangeSpec.witness6 (enc := enc) (C := Try.checked) false ⟨#[], #[.agg #[.int .i64 0, .int .i64 0, .bool false], .agg #[.int .i64 0, .int .i64 0, .bool false]], []⟩ 8 (by kernel_rfl) (by kernel_rfl) (by kernel_rfl) (by kernel_rfl)) ?_
  intro W base args ds gs before hval hW hcnd hsz _
  obtain ⟨tb, h1, h2⟩ := isBool
  exact contract_of_pure (P := Try.prog) (fn := Try.f5) (s := Rows.boundPairsSpec) Try.func5 entered laid rows h1 h2 rfl spec shape
    (fun x h => boundPairs_pure x.1.1 x.1.2.1 x.1.2.2.1 x.2.1.1 x.2.1.2.1 x.2.1.2.2.1)
    hval hW hsz
theorem over : Rows.boundPairsRow.holds Try.pinned (OpenSpec.ofChange Rows.boundPairsSpec) :=
  OpenClaim.holds_of_wide 5 Try.f5 rfl rfl rfl rfl rfl rfl rfl ⟨rfl, rfl, rfl, rfl, rfl⟩ rfl rfl rfl rfl rfl (by kernel_rfl) Try.func5 (by kernel_rfl)
    (of_decide_eq_true (by kernel_rfl)) (by unfold Func.isWrapper; first | (rw [if_pos (by decide +kernel)]; kernel_rfl) | (rw [if_neg (by decide +kernel)]; exact ⟨rfl, rfl⟩))
    (fun os started H enc _ => lifted os started H enc)
theorem proved : Rows.BoundPairsSaid := over
end Go.Proofs.Ytpggblmopgfloaa.boundPairs
namespace Go.Proofs.Ytpggblmopgfloaa
/-- The statement, as it is given. -/
theorem boundPairs_holds : Rows.BoundPairsSaid := boundPairs.proved
#print axioms boundPairs_holds
end Go.Proofs.Ytpggblmopgfloaa
