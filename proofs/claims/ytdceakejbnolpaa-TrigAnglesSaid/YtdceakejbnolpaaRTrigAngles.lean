/- Atan2 returns the specified result for all numbers; no condition. -/
import Derived.Test.YtdceakejbnolpaaRows
import Derived.Test.YtdceakejbnolpaaQe
import Derived.WalkKit
import Derived.ProofKit
namespace Go.Proofs.Ytdceakejbnolpaa.trigAngles
open Go Go.RowKit Go.Proofs.Ytdceakejbnolpaa.Sv
set_option linter.unusedVariables false
theorem own : ownKnob Try.prog.godebug = none := by kernel_rfl
set_option maxRecDepth 100000 in
theorem shape : Ty.ofArgs Try.prog 100 Try.f4.params.toList = some ((.pair (.n .i64) (.pair (.n .i64) .nil))) := by kernel_rfl
set_option maxRecDepth 100000 in
theorem entered : (Fn1.of Try.prog 4 false [[0, 1], [0, 1, 5, 6], [5, 6, 7, 8], [4]]).isSome = true := by kernel_rfl
set_option maxRecDepth 100000 in
theorem laid : laidOutB Try.prog = true := by kernel_rfl
set_option maxRecDepth 100000 in
theorem rows : Try.f4.params.toList.all (fun t => Try.prog.readableRec t && decide (t < Try.prog.types.size)) = true := by kernel_rfl
set_option maxRecDepth 100000 in
theorem count : Try.f4.params.toList.length = 2 := by kernel_rfl
set_option maxRecDepth 100000 in
theorem isBool : ∃ tb, Try.f4.resultTypes = #[tb] ∧ Try.prog.underlying tb = some .bool := ⟨4, by kernel_rfl, by kernel_rfl⟩
theorem spec {H : Type} (ds : List (DataW H)) (h : ds.length = Try.f4.params.toList.length) : Rows.trigAnglesSpec.fn H ds = { results := [.lit (.bool true)], args := ds } := by
  rw [count] at h
  match ds, h with
  | [_, _], _ => rfl
set_option maxRecDepth 100000 in
theorem lifted (os : Os) (started : os.Started) (H : Type) (enc : TypeId × Value → H) :
    ReturnsInHanded {} Try.checked os 4 .any (Rows.trigAnglesSpec.pre6 enc Try.prog Try.f4 Rows.trigAnglesRow.domain false) (Rows.trigAnglesSpec.post enc Try.prog Try.f4 false true false false) := by
  refine returnsInHanded_of_change_sized (C := Try.checked) own started (by kernel_rfl) Try.func4
    (ChangeSpec.witness6 (enc := enc) (C := Try.checked) false ⟨#[], #[.int .i64 0, .int .i64 0], []⟩ 8 (by kernel_rfl) (by kernel_rfl) (by kernel_rfl) (by kernel_rfl)) ?_
  intro W base args ds gs before hval hW hcnd hsz _
  obtain ⟨tb, h1, h2⟩ := isBool
  exact contract_of_pure (P := Try.prog) (fn := Try.f4) (s := Rows.trigAnglesSpec) Try.func4 entered laid rows h1 h2 rfl spec shape
    (fun a h => trigAngles_law a h)
    hval hW hsz
theorem over : Rows.trigAnglesRow.holds Try.pinned (OpenSpec.ofChange Rows.trigAnglesSpec) :=
  OpenClaim.holds_of_wide 4 Try.f4 rfl rfl rfl rfl rfl rfl rfl ⟨rfl, rfl, rfl, rfl, rfl⟩ rfl rfl rfl rfl rfl (by kernel_rfl) Try.func4 (by kernel_rfl)
    (of_decide_eq_true (by kernel_rfl)) (by unfold Func.isWrapper; first | (rw [if_pos (by decide +kernel)]; kernel_rfl) | (rw [if_neg (by decide +kernel)]; exact ⟨rfl, rfl⟩))
    (fun os started H enc _ => lifted os started H enc)
theorem proved : Rows.TrigAnglesSaid := over
end Go.Proofs.Ytdceakejbnolpaa.trigAngles
namespace Go.Proofs.Ytdceakejbnolpaa
/-- The statement, as it is given. -/
theorem trigAngles_holds : Rows.TrigAnglesSaid := trigAngles.proved
#print axioms trigAngles_holds
end Go.Proofs.Ytdceakejbnolpaa
