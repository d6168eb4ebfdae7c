/- The statement FracTerms holds: the terms of a continued fraction and the number that terms stand for are the specified ones. No condition. -/
import Derived.Test.YtjeafcngljbdlaaRows
import Derived.Test.YtjeafcngljbdlaaFs
import Derived.WalkKit
import Derived.ProofKit
namespace Go.Proofs.Ytjeafcngljbdlaa.fracTerms
open Go Go.RowKit Go.Proofs.Ytjeafcngljbdlaa.Sv
set_option linter.unusedVariables false
theorem own : ownKnob Try.prog.godebug = none := by kernel_rfl
set_option maxRecDepth 100000 in
theorem shape : Ty.ofArgs Try.prog 100 Try.f4.params.toList = some ((.pair (.pair (.n .i64) (.pair (.n .i64) .nil)) (.pair (.sl 8 (.n .i64)) .nil))) := by kernel_rfl
set_option maxRecDepth 100000 in
theorem entered : (Fn1.of Try.prog 4 ⟨true, [], false⟩ [[1, 2], [1, 2, 5], [1, 2, 5, 28], [1, 2, 5, 6, 7], [1, 2, 5, 6, 7], [1, 2, 5, 6, 7, 37], [1, 2, 5, 6, 7, 8, 9], [1, 2, 5, 6, 7, 9, 10], [1, 2, 5, 6, 7, 9], [1, 2, 5, 6, 7], [1, 2, 5, 12, 13], [1, 73], [4], [1, 14, 15], [1, 14, 15, 16], [1, 14, 15, 16, 81], [1, 14, 15, 16], [1, 14, 15, 16, 82, 83, 84], [1, 14, 15, 16, 82, 83, 84], [1, 14, 15, 16, 82, 83, 84, 85], [1, 14, 15, 16, 17, 18, 82, 83, 84], [1, 14, 15, 16, 82, 83, 84, 106], [1, 14, 15, 16, 82, 83, 84], [1, 14, 15, 16, 82, 83, 84], [1, 14, 15, 16, 19], [1, 14, 15, 16, 123], [1, 14, 15, 16], [1, 14, 15, 16, 125], [4], [1, 14, 15, 20, 21], [14, 15, 20, 21, 144, 145, 146], [14, 15, 20, 21, 144, 145, 146], [14, 15, 20, 21, 144, 145, 146, 147], [14, 15, 20, 21, 23, 144, 145, 146], [14, 15, 20, 21, 23, 144, 145, 146], [14, 15, 20, 21, 144, 145, 146], [14, 15, 20, 21, 144, 145, 146], [14, 15, 24, 25], [4]]).isSome = true := by rw [of4]; rfl
set_option maxRecDepth 100000 in
theorem laid : laidOutB Try.prog = true := by kernel_rfl
set_option maxRecDepth 100000 in
theorem rows : Try.f4.params.toList.all (fun t => Try.prog.readableRec t && decide (t < Try.prog.types.size)) = true := by kernel_rfl
set_option maxRecDepth 100000 in
theorem count : Try.f4.params.toList.length = 2 := by kernel_rfl
set_option maxRecDepth 100000 in
theorem isBool : ∃ tb, Try.f4.resultTypes = #[tb] ∧ Try.prog.underlying tb = some .bool := ⟨4, by kernel_rfl, by kernel_rfl⟩
theorem spec {H : Type} (ds : List (DataW H)) (h : ds.length = Try.f4.params.toList.length) : Rows.fracTermsSpec.fn H ds = { results := [.lit (.bool true)], args := ds } := by
  rw [count] at h
  match ds, h with
  | [_, _], _ => rfl
set_option maxRecDepth 100000 in
theorem lifted (os : Os) (started : os.Started) (H : Type) (enc : TypeId × Value → H) :
    ReturnsInHanded {} Try.checked os 4 .any (Rows.fracTermsSpec.pre6 enc Try.prog Try.f4 Rows.fracTermsRow.domain false) (Rows.fracTermsSpec.post enc Try.prog Try.f4 false true false false) := by
  refine returnsInHanded_of_change_sized (C := Try.checked) own started (by kernel_rfl) Try.func4
    (ChangeSpec.witness6 (enc := enc) (C := Try.checked) false ⟨#[], #[.agg #[.int .i64 0, .int .i64 0], .slice none 0 0], []⟩ 8 (by kernel_rfl) (by kernel_rfl) (by kernel_rfl) (by kernel_rfl)) ?_
  intro W base args ds gs before hval hW hcnd hsz _
  obtain ⟨tb, h1, h2⟩ := isBool
  exact contract_of_pure (P := Try.prog) (fn := Try.f4) (s := Rows.fracTermsSpec) Try.func4 entered laid rows h1 h2 rfl spec shape
    (fun x h => fracTerms_pure x.1.1 x.1.2.1 x.2.1 h.1.1 h.1.2.1 (fun t ht => h.2.1.2 t ht) (len_reach h.2.1.1 (by decide)))
    (fun _ _ h => nomatch h) hval hW hsz
theorem over : Rows.fracTermsRow.holds Try.pinned (OpenSpec.ofChange Rows.fracTermsSpec) :=
  OpenClaim.holds_of_wide 4 Try.f4 rfl rfl rfl rfl rfl rfl rfl ⟨rfl, rfl, rfl, rfl, rfl⟩ rfl rfl rfl rfl rfl (by kernel_rfl) Try.func4 (by kernel_rfl)
    (of_decide_eq_true (by kernel_rfl)) (by unfold Func.isWrapper; first | (rw [if_pos (by decide +kernel)]; kernel_rfl) | (rw [if_neg (by decide +kernel)]; exact ⟨rfl, rfl⟩))
    (fun os started H enc _ => lifted os started H enc)
theorem proved : Rows.FracTermsSaid := over
end Go.Proofs.Ytjeafcngljbdlaa.fracTerms
namespace Go.Proofs.Ytjeafcngljbdlaa
/-- The statement, as it is given. -/
theorem fracTerms_holds : Rows.FracTermsSaid := fracTerms.proved
#print axioms fracTerms_holds
end Go.Proofs.Ytjeafcngljbdlaa
