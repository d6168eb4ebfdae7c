/- Mul, Div and Scale return the specified results for all bounds and numbers; no condition. -/
import Derived.Test.YtdceakejbnolpaaRows
import Derived.Test.YtdceakejbnolpaaBo
import Derived.WalkKit
import Derived.ProofKit
namespace Go.Proofs.Ytdceakejbnolpaa.boundProducts
open Go Go.RowKit Go.Proofs.Ytdceakejbnolpaa.Sv
set_option linter.unusedVariables false
theorem own : ownKnob Try.prog.godebug = none := by kernel_rfl
set_option maxRecDepth 100000 in
theorem shape : Ty.ofArgs Try.prog 100 Try.f13.params.toList = some ((.pair (.pair (.n .i64) (.pair (.n .i64) (.pair .b .nil))) (.pair (.pair (.n .i64) (.pair (.n .i64) (.pair .b .nil))) (.pair (.n .i64) (.pair (.n .i64) (.pair (.n .i64) .nil)))))) := by kernel_rfl
set_option maxRecDepth 100000 in
theorem entered : (Fn1.of Try.prog 13 ⟨false, []⟩ [[2, 3, 4, 5, 6], [2, 3, 4, 5, 6, 11, 12, 13], [2, 3, 4, 5, 6, 11, 12, 13, 14, 15, 16], [2, 3, 4, 5, 6, 11, 12, 13, 14, 15, 16, 17], [2, 3, 4, 5, 6, 11, 12, 13, 14, 15, 16, 18, 19, 20], [2, 3, 4, 5, 6, 11, 12, 13, 14, 15, 16, 18, 19, 20, 21], [2, 3, 4, 5, 6, 11, 12, 13, 14, 15, 18, 19, 20, 21, 47], [2, 3, 4, 5, 6, 11, 12, 13, 14, 15, 18, 19, 20, 21], [2, 3, 4, 5, 6, 11, 12, 13, 14, 15, 18, 19, 20, 21, 76], [2, 3, 4, 5, 6, 11, 12, 13, 18, 19, 20], [2, 3, 4, 5, 6, 11, 12, 18, 19, 20, 108], [2, 3, 4, 5, 6, 18, 19, 20], [10]]).isSome = true := by kernel_rfl
set_option maxRecDepth 100000 in
theorem laid : laidOutB Try.prog = true := by kernel_rfl
set_option maxRecDepth 100000 in
theorem rows : Try.f13.params.toList.all (fun t => Try.prog.readableRec t && decide (t < Try.prog.types.size)) = true := by kernel_rfl
set_option maxRecDepth 100000 in
theorem count : Try.f13.params.toList.length = 5 := by kernel_rfl
set_option maxRecDepth 100000 in
theorem isBool : ∃ tb, Try.f13.resultTypes = #[tb] ∧ Try.prog.underlying tb = some .bool := ⟨4, by kernel_rfl, by kernel_rfl⟩
theorem spec {H : Type} (ds : List (DataW H)) (h : ds.length = Try.f13.params.toList.length) : Rows.boundProductsSpec.fn H ds = { results := [.lit (.bool true)], args := ds } := by
  rw [count] at h
  match ds, h with
  | [_, _, _, _, _], _ => rfl
set_option maxRecDepth 100000 in
theorem lifted (os : Os) (started : os.Started) (H : Type) (enc : TypeId × Value → H) :
    ReturnsInHanded {} Try.checked os 13 .any (Rows.boundProductsSpec.pre6 enc Try.prog Try.f13 Rows.boundProductsRow.domain false) (Rows.boundProductsSpec.post enc Try.prog Try.f13 false true false false) := by
  refine returnsInHanded_of_change_sized (C := Try.checked) own started (by kernel_rfl) Try.func13
    (ChangeSpec.witness6 (enc := enc) (C := Try.checked) false ⟨#[], #[.agg #[.int .i64 0, .int .i64 0, .bool false], .agg #[.int .i64 0, .int .i64 0, .bool false], .int .i64 0, .int .i64 0, .int .i64 0], []⟩ 8 (by kernel_rfl) (by kernel_rfl) (by kernel_rfl) (by kernel_rfl)) ?_
  intro W base args ds gs before hval hW hcnd hsz _
  obtain ⟨tb, h1, h2⟩ := isBool
  exact contract_of_pure (P := Try.prog) (fn := Try.f13) (s := Rows.boundProductsSpec) Try.func13 entered laid rows h1 h2 rfl spec shape
    (fun x h => boundProducts_pure x.1.1 x.1.2.1 x.1.2.2.1 x.2.1.1 x.2.1.2.1 x.2.1.2.2.1 x.2.2.1 x.2.2.2.1 x.2.2.2.2.1 h.2.2.1 h.2.2.2.1 h.2.2.2.2.1)
    hval hW hsz
theorem over : Rows.boundProductsRow.holds Try.pinned (OpenSpec.ofChange Rows.boundProductsSpec) :=
  OpenClaim.holds_of_wide 13 Try.f13 rfl rfl rfl rfl rfl rfl rfl ⟨rfl, rfl, rfl, rfl, rfl⟩ rfl rfl rfl rfl rfl (by kernel_rfl) Try.func13 (by kernel_rfl)
    (of_decide_eq_true (by kernel_rfl)) (by unfold Func.isWrapper; first | (rw [if_pos (by decide +kernel)]; kernel_rfl) | (rw [if_neg (by decide +kernel)]; exact ⟨rfl, rfl⟩))
    (fun os started H enc _ => lifted os started H enc)
theorem proved : Rows.BoundProductsSaid := over
end Go.Proofs.Ytdceakejbnolpaa.boundProducts
namespace Go.Proofs.Ytdceakejbnolpaa
/-- The statement, as it is given. -/
theorem boundProducts_holds : Rows.BoundProductsSaid := boundProducts.proved
#print axioms boundProducts_holds
end Go.Proofs.Ytdceakejbnolpaa
