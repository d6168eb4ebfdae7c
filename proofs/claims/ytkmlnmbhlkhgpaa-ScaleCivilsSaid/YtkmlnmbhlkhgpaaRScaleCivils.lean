/- ToCivil returns what the reference returns, for all times and tables: the statement ScaleCivils; no condition. -/
import Derived.Test.YtkmlnmbhlkhgpaaRows
import Derived.Test.YtkmlnmbhlkhgpaaTh
import Derived.WalkKit
import Derived.ProofKit
namespace Go.Proofs.Ytkmlnmbhlkhgpaa.scaleCivils
open Go Go.RowKit Go.Proofs.Ytkmlnmbhlkhgpaa.Sv
set_option linter.unusedVariables false
theorem own : ownKnob Try.prog.godebug = none := by kernel_rfl
set_option maxRecDepth 100000 in
theorem shape : Ty.ofArgs Try.prog 100 Try.f5.params.toList = some ((.pair (.n .i64) (.pair (.sl 16 (.pair (.n .i64) (.pair (.n .i64) .nil))) .nil))) := by kernel_rfl
set_option maxRecDepth 100000 in
theorem entered : (Fn1.of Try.prog 5 false [[0, 1], [0, 1, 5, 6], [5, 6, 7, 8], [4]]).isSome = true := by kernel_rfl
set_option maxRecDepth 100000 in
theorem laid : laidOutB Try.prog = true := by kernel_rfl
set_option maxRecDepth 100000 in
theorem rows : Try.f5.params.toList.all (fun t => Try.prog.readableRec t && decide (t < Try.prog.types.size)) = true := by kernel_rfl
set_option maxRecDepth 100000 in
theorem count : Try.f5.params.toList.length = 2 := by kernel_rfl
set_option maxRecDepth 100000 in
theorem isBool : ∃ tb, Try.f5.resultTypes = #[tb] ∧ Try.prog.underlying tb = some .bool := ⟨4, by kernel_rfl, by kernel_rfl⟩
theorem spec {H : Type} (ds : List (DataW H)) (h : ds.length = Try.f5.params.toList.length) : Rows.scaleCivilsSpec.fn H ds = { results := [.lit (.bool true)], args := ds } := by
  rw [count] at h
  match ds, h with
  | [_, _], _ => rfl
set_option maxRecDepth 100000 in
theorem lifted (os : Os) (started : os.Started) (H : Type) (enc : TypeId × Value → H) :
    ReturnsInHanded {} Try.checked os 5 .any (Rows.scaleCivilsSpec.pre6 enc Try.prog Try.f5 Rows.scaleCivilsRow.domain false) (Rows.scaleCivilsSpec.post enc Try.prog Try.f5 false true false false) := by
  refine returnsInHanded_of_change_sized (C := Try.checked) own started (by kernel_rfl) Try.func5
    (ChangeSpec.witness6 (enc := enc) (C := Try.checked) false ⟨#[], #[.int .i64 0, .slice none 0 0], []⟩ 8 (by kernel_rfl) (by kernel_rfl) (by kernel_rfl) (by kernel_rfl)) ?_
  intro W base args ds gs before hval hW hcnd hsz _
  obtain ⟨tb, h1, h2⟩ := isBool
  exact contract_of_pure (P := Try.prog) (fn := Try.f5) (s := Rows.scaleCivilsSpec) Try.func5 entered laid rows h1 h2 rfl spec shape
    (fun ⟨t, l, _⟩ ha => law_civils t l (by have h1 : List.length l * 16 ≤ reachBytes := ha.2.1.1; unfold reachBytes at h1; omega))
    hval hW hsz
theorem over : Rows.scaleCivilsRow.holds Try.pinned (OpenSpec.ofChange Rows.scaleCivilsSpec) :=
  OpenClaim.holds_of_wide 5 Try.f5 rfl rfl rfl rfl rfl rfl rfl ⟨rfl, rfl, rfl, rfl, rfl⟩ rfl rfl rfl rfl rfl (by kernel_rfl) Try.func5 (by kernel_rfl)
    (of_decide_eq_true (by kernel_rfl)) (by unfold Func.isWrapper; first | (rw [if_pos (by decide +kernel)]; kernel_rfl) | (rw [if_neg (by decide +kernel)]; exact ⟨rfl, rfl⟩))
    (fun os started H enc _ => lifted os started H enc)
theorem proved : Rows.ScaleCivilsSaid := over
end Go.Proofs.Ytkmlnmbhlkhgpaa.scaleCivils
namespace Go.Proofs.Ytkmlnmbhlkhgpaa
/-- The statement, as it is given. -/
theorem scaleCivils_holds : Rows.ScaleCivilsSaid := scaleCivils.proved
#print axioms scaleCivils_holds
end Go.Proofs.Ytkmlnmbhlkhgpaa
