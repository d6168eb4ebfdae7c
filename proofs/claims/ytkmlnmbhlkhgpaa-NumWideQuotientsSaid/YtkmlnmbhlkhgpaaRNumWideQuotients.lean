/- Mod and Div of wide numbers return the specified results for all numbers. No condition. -/
import Derived.Test.YtkmlnmbhlkhgpaaRows
import Derived.Test.YtkmlnmbhlkhgpaaNe
import Derived.WalkKit
import Derived.ProofKit
namespace Go.Proofs.Ytkmlnmbhlkhgpaa.numWideQuotients
open Go Go.RowKit Go.Proofs.Ytkmlnmbhlkhgpaa.Sv
set_option linter.unusedVariables false
theorem own : ownKnob Try.prog.godebug = none := by kernel_rfl
set_option maxRecDepth 100000 in
theorem shape : Ty.ofArgs Try.prog 100 Try.f7.params.toList = some ((.pair (.pair (.n .i64) (.pair (.n .u64) .nil)) (.pair (.n .i64) .nil))) := by kernel_rfl
set_option maxRecDepth 100000 in
theorem entered : (Fn1.of Try.prog 7 false [[1, 2], [1, 2, 5], [1, 2, 5, 6, 7], [1, 2, 5, 6, 7, 8, 9], [1, 2, 5, 6, 7, 8, 9, 27], [4], [1, 2, 6, 7, 8, 9, 11], [4]]).isSome = true := by kernel_rfl
set_option maxRecDepth 100000 in
theorem laid : laidOutB Try.prog = true := by kernel_rfl
set_option maxRecDepth 100000 in
theorem rows : Try.f7.params.toList.all (fun t => Try.prog.readableRec t && decide (t < Try.prog.types.size)) = true := by kernel_rfl
set_option maxRecDepth 100000 in
theorem count : Try.f7.params.toList.length = 2 := by kernel_rfl
set_option maxRecDepth 100000 in
theorem isBool : ∃ tb, Try.f7.resultTypes = #[tb] ∧ Try.prog.underlying tb = some .bool := ⟨4, by kernel_rfl, by kernel_rfl⟩
theorem spec {H : Type} (ds : List (DataW H)) (h : ds.length = Try.f7.params.toList.length) : Rows.numWideQuotientsSpec.fn H ds = { results := [.lit (.bool true)], args := ds } := by
  rw [count] at h
  match ds, h with
  | [_, _], _ => rfl
set_option maxRecDepth 100000 in
theorem lifted (os : Os) (started : os.Started) (H : Type) (enc : TypeId × Value → H) :
    ReturnsInHanded {} Try.checked os 7 .any (Rows.numWideQuotientsSpec.pre6 enc Try.prog Try.f7 Rows.numWideQuotientsRow.domain false) (Rows.numWideQuotientsSpec.post enc Try.prog Try.f7 false true false false) := by
  refine returnsInHanded_of_change_sized (C := Try.checked) own started (by kernel_rfl) Try.func7
    (ChangeSpec.witness6 (enc := enc) (C := Try.checked) false ⟨#[], #[.agg #[.int .i64 0, .int .u64 0], .int .i64 0], []⟩ 8 (by kernel_rfl) (by kernel_rfl) (by kernel_rfl) (by kernel_rfl)) ?_
  intro W base args ds gs before hval hW hcnd hsz _
  obtain ⟨tb, h1, h2⟩ := isBool
  exact contract_of_pure (P := Try.prog) (fn := Try.f7) (s := Rows.numWideQuotientsSpec) Try.func7 entered laid rows h1 h2 rfl spec shape
    (numWideQuotients_law)
    hval hW hsz
theorem over : Rows.numWideQuotientsRow.holds Try.pinned (OpenSpec.ofChange Rows.numWideQuotientsSpec) :=
  OpenClaim.holds_of_wide 7 Try.f7 rfl rfl rfl rfl rfl rfl rfl ⟨rfl, rfl, rfl, rfl, rfl⟩ rfl rfl rfl rfl rfl (by kernel_rfl) Try.func7 (by kernel_rfl)
    (of_decide_eq_true (by kernel_rfl)) (by unfold Func.isWrapper; first | (rw [if_pos (by decide +kernel)]; kernel_rfl) | (rw [if_neg (by decide +kernel)]; exact ⟨rfl, rfl⟩))
    (fun os started H enc _ => lifted os started H enc)
theorem proved : Rows.NumWideQuotientsSaid := over
end Go.Proofs.Ytkmlnmbhlkhgpaa.numWideQuotients
namespace Go.Proofs.Ytkmlnmbhlkhgpaa
/-- The statement, as it is given. -/
theorem numWideQuotients_holds : Rows.NumWideQuotientsSaid := numWideQuotients.proved
#print axioms numWideQuotients_holds
end Go.Proofs.Ytkmlnmbhlkhgpaa
