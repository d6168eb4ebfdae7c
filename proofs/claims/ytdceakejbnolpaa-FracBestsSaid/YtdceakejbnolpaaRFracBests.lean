/- Best returns the specified result for all numbers; no condition. -/
import Derived.Test.YtdceakejbnolpaaRows
import Derived.Test.YtdceakejbnolpaaFf
import Derived.WalkKit
import Derived.ProofKit
namespace Go.Proofs.Ytdceakejbnolpaa.fracBests
open Go Go.RowKit Go.Proofs.Ytdceakejbnolpaa.Sv
set_option linter.unusedVariables false
theorem own : ownKnob Try.prog.godebug = none := by kernel_rfl
set_option maxRecDepth 100000 in
theorem shape : Ty.ofArgs Try.prog 100 Try.f9.params.toList = some ((.pair (.pair (.n .i64) (.pair (.n .i64) .nil)) (.pair (.n .i64) .nil))) := by kernel_rfl
set_option maxRecDepth 100000 in
theorem entered : (Fn1.of Try.prog 9 ⟨false, [], false⟩ [[1, 2], [1, 2, 5, 6], [1, 2, 5, 6, 7, 8], [1, 2, 5, 6, 7, 8, 21], [1, 2, 5, 6, 7, 8, 24], [5, 6, 7, 8], [5, 6, 7, 8], [4]]).isSome = true := by kernel_rfl
set_option maxRecDepth 100000 in
theorem laid : laidOutB Try.prog = true := by kernel_rfl
set_option maxRecDepth 100000 in
theorem rows : Try.f9.params.toList.all (fun t => Try.prog.readableRec t && decide (t < Try.prog.types.size)) = true := by kernel_rfl
set_option maxRecDepth 100000 in
theorem count : Try.f9.params.toList.length = 2 := by kernel_rfl
set_option maxRecDepth 100000 in
theorem isBool : ∃ tb, Try.f9.resultTypes = #[tb] ∧ Try.prog.underlying tb = some .bool := ⟨4, by kernel_rfl, by kernel_rfl⟩
theorem spec {H : Type} (ds : List (DataW H)) (h : ds.length = Try.f9.params.toList.length) : Rows.fracBestsSpec.fn H ds = { results := [.lit (.bool true)], args := ds } := by
  rw [count] at h
  match ds, h with
  | [_, _], _ => rfl
set_option maxRecDepth 100000 in
theorem lifted (os : Os) (started : os.Started) (H : Type) (enc : TypeId × Value → H) :
    ReturnsInHanded {} Try.checked os 9 .any (Rows.fracBestsSpec.pre6 enc Try.prog Try.f9 Rows.fracBestsRow.domain false) (Rows.fracBestsSpec.post enc Try.prog Try.f9 false true false false) := by
  refine returnsInHanded_of_change_sized (C := Try.checked) own started (by kernel_rfl) Try.func9
    (ChangeSpec.witness6 (enc := enc) (C := Try.checked) false ⟨#[], #[.agg #[.int .i64 0, .int .i64 0], .int .i64 0], []⟩ 8 (by kernel_rfl) (by kernel_rfl) (by kernel_rfl) (by kernel_rfl)) ?_
  intro W base args ds gs before hval hW hcnd hsz _
  obtain ⟨tb, h1, h2⟩ := isBool
  exact contract_of_pure (P := Try.prog) (fn := Try.f9) (s := Rows.fracBestsSpec) Try.func9 entered laid rows h1 h2 rfl spec shape
    (fun x h => fracBests_pure x.1.1 x.1.2.1 x.2.1 h.1.1 h.1.2.1)
    hval hW hsz
theorem over : Rows.fracBestsRow.holds Try.pinned (OpenSpec.ofChange Rows.fracBestsSpec) :=
  OpenClaim.holds_of_wide 9 Try.f9 rfl rfl rfl rfl rfl rfl rfl ⟨rfl, rfl, rfl, rfl, rfl⟩ rfl rfl rfl rfl rfl (by kernel_rfl) Try.func9 (by kernel_rfl)
    (of_decide_eq_true (by kernel_rfl)) (by unfold Func.isWrapper; first | (rw [if_pos (by decide +kernel)]; kernel_rfl) | (rw [if_neg (by decide +kernel)]; exact ⟨rfl, rfl⟩))
    (fun os started H enc _ => lifted os started H enc)
theorem proved : Rows.FracBestsSaid := over
end Go.Proofs.Ytdceakejbnolpaa.fracBests
namespace Go.Proofs.Ytdceakejbnolpaa
/-- The statement, as it is given. -/
theorem fracBests_holds : Rows.FracBestsSaid := fracBests.proved
#print axioms fracBests_holds
end Go.Proofs.Ytdceakejbnolpaa
