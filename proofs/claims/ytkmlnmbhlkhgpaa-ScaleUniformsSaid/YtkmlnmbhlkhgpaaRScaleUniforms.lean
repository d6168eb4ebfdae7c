/- CheckLeaps, Check and ToUniform return what the reference returns, for all civil times and tables: the statement ScaleUniforms; no condition. -/
import Derived.Test.YtkmlnmbhlkhgpaaRows
import Derived.Test.YtkmlnmbhlkhgpaaTf
import Derived.WalkKit
import Derived.ProofKit
namespace Go.Proofs.Ytkmlnmbhlkhgpaa.scaleUniforms
open Go Go.RowKit Go.Proofs.Ytkmlnmbhlkhgpaa.Sv
set_option linter.unusedVariables false
theorem own : ownKnob Try.prog.godebug = none := by kernel_rfl
set_option maxRecDepth 100000 in
theorem shape : Ty.ofArgs Try.prog 100 Try.f3.params.toList = some ((.pair (.pair (.n .i64) (.pair (.n .i64) (.pair (.n .i64) (.pair (.n .i64) (.pair (.n .i64) (.pair (.n .i64) (.pair (.n .i64) .nil))))))) (.pair (.sl 16 (.pair (.n .i64) (.pair (.n .i64) .nil))) .nil))) := by kernel_rfl
set_option maxRecDepth 100000 in
theorem entered : (Fn1.of Try.prog 3 [[1, 2], [1, 2, 5, 6], [1, 2, 5, 6, 7, 8], [4]]).isSome = true := by kernel_rfl
set_option maxRecDepth 100000 in
theorem laid : laidOutB Try.prog = true := by kernel_rfl
set_option maxRecDepth 100000 in
theorem rows : Try.f3.params.toList.all (fun t => Try.prog.readableRec t && decide (t < Try.prog.types.size)) = true := by kernel_rfl
set_option maxRecDepth 100000 in
theorem count : Try.f3.params.toList.length = 2 := by kernel_rfl
set_option maxRecDepth 100000 in
theorem isBool : ∃ tb, Try.f3.resultTypes = #[tb] ∧ Try.prog.underlying tb = some .bool := ⟨4, by kernel_rfl, by kernel_rfl⟩
theorem spec {H : Type} (ds : List (DataW H)) (h : ds.length = Try.f3.params.toList.length) : Rows.scaleUniformsSpec.fn H ds = { results := [.lit (.bool true)], args := ds } := by
  rw [count] at h
  match ds, h with
  | [_, _], _ => rfl
set_option maxRecDepth 100000 in
theorem lifted (os : Os) (started : os.Started) (H : Type) (enc : TypeId × Value → H) :
    ReturnsInHanded {} Try.checked os 3 .any (Rows.scaleUniformsSpec.pre6 enc Try.prog Try.f3 Rows.scaleUniformsRow.domain false) (Rows.scaleUniformsSpec.post enc Try.prog Try.f3 false true false false) := by
  refine returnsInHanded_of_change_sized (C := Try.checked) own started (by kernel_rfl) Try.func3
    (ChangeSpec.witness6 (enc := enc) (C := Try.checked) false ⟨#[], #[.agg #[.int .i64 0, .int .i64 0, .int .i64 0, .int .i64 0, .int .i64 0, .int .i64 0, .int .i64 0], .slice none 0 0], []⟩ 8 (by kernel_rfl) (by kernel_rfl) (by kernel_rfl) (by kernel_rfl)) ?_
  intro W base args ds gs before hval hW hcnd hsz _
  obtain ⟨tb, h1, h2⟩ := isBool
  exact contract_of_pure (P := Try.prog) (fn := Try.f3) (s := Rows.scaleUniformsSpec) Try.func3 entered laid rows h1 h2 rfl spec shape
    (fun ⟨⟨y, mo, d, h, mi, s, ms, _⟩, l, _⟩ ha => law_uniforms y mo d h mi s ms l (by have h1 : List.length l * 16 ≤ reachBytes := ha.2.1.1; unfold reachBytes at h1; omega))
    hval hW hsz
theorem over : Rows.scaleUniformsRow.holds Try.pinned (OpenSpec.ofChange Rows.scaleUniformsSpec) :=
  OpenClaim.holds_of_wide 3 Try.f3 rfl rfl rfl rfl rfl rfl rfl ⟨rfl, rfl, rfl, rfl, rfl⟩ rfl rfl rfl rfl rfl (by kernel_rfl) Try.func3 (by kernel_rfl)
    (of_decide_eq_true (by kernel_rfl)) (by unfold Func.isWrapper; first | (rw [if_pos (by decide +kernel)]; kernel_rfl) | (rw [if_neg (by decide +kernel)]; exact ⟨rfl, rfl⟩))
    (fun os started H enc _ => lifted os started H enc)
theorem proved : Rows.ScaleUniformsSaid := over
end Go.Proofs.Ytkmlnmbhlkhgpaa.scaleUniforms
namespace Go.Proofs.Ytkmlnmbhlkhgpaa
/-- The statement, as it is given. -/
theorem scaleUniforms_holds : Rows.ScaleUniformsSaid := scaleUniforms.proved
#print axioms scaleUniforms_holds
end Go.Proofs.Ytkmlnmbhlkhgpaa
