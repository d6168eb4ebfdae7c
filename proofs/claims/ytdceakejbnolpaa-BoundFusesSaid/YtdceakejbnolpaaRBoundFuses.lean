/- Votes and Fuse return the specified results for at most 300 bounds; no condition. -/
import Derived.Test.YtdceakejbnolpaaRows
import Derived.Test.YtdceakejbnolpaaBl
import Derived.WalkKit
import Derived.ProofKit
namespace Go.Proofs.Ytdceakejbnolpaa.boundFuses
open Go Go.RowKit Go.Proofs.Ytdceakejbnolpaa.Sv
set_option linter.unusedVariables false
theorem own : ownKnob Try.prog.godebug = none := by kernel_rfl
set_option maxRecDepth 100000 in
theorem shape : Ty.ofArgs Try.prog 100 Try.f8.params.toList = some ((.pair (.sl 24 (.pair (.n .i64) (.pair (.n .i64) (.pair .b .nil)))) (.pair (.n .i64) (.pair (.n .i64) .nil)))) := by kernel_rfl
set_option maxRecDepth 100000 in
theorem entered : (Fn1.of Try.prog 8 ⟨false, []⟩ [[0, 1, 2], [0, 1, 2, 22], [6], [0, 1, 2, 25], [6], [0, 1, 2, 7], [0, 1, 2, 7, 26, 27, 28], [0, 1, 2, 7, 26, 27, 28], [0, 1, 2, 7, 26, 27, 28, 29], [0, 1, 2, 7, 9, 26, 27, 28], [0, 1, 2, 7, 12, 26, 27, 28], [0, 1, 2, 7, 26, 27, 28, 38], [0, 1, 2, 7, 26, 27, 28], [0, 1, 2, 7, 26, 27, 28], [0, 1, 2, 7, 13], [0, 1, 2, 7, 13, 43, 44, 45], [0, 1, 2, 7, 13, 43, 44, 45], [0, 1, 2, 7, 13, 43, 44, 45, 46], [0, 1, 2, 7, 13, 15, 43, 44, 45], [0, 1, 2, 7, 13, 15, 18, 43, 44, 45], [0, 1, 2, 7, 13, 15, 43, 44, 45, 65], [0, 1, 2, 7, 13, 43, 44, 45, 70, 71, 72], [0, 1, 2, 7, 13, 43, 44, 45, 70, 71, 72], [0, 1, 2, 7, 13, 43, 44, 45, 70, 71, 72, 73], [0, 1, 2, 7, 13, 20, 43, 44, 45, 70, 71, 72], [0, 1, 2, 7, 13, 20, 43, 44, 45, 70, 71, 72, 82], [0, 1, 2, 7, 13, 20, 43, 44, 45, 70, 71, 72, 84], [0, 1, 2, 7, 13, 20, 43, 44, 45, 70, 71, 72], [0, 1, 2, 7, 13, 43, 44, 45, 70, 71, 72], [0, 1, 2, 7, 13, 43, 44, 45, 70, 71, 72], [0, 1, 2, 7, 13, 43, 44, 45], [6]]).isSome = true := by kernel_rfl
set_option maxRecDepth 100000 in
theorem laid : laidOutB Try.prog = true := by kernel_rfl
set_option maxRecDepth 100000 in
theorem rows : Try.f8.params.toList.all (fun t => Try.prog.readableRec t && decide (t < Try.prog.types.size)) = true := by kernel_rfl
set_option maxRecDepth 100000 in
theorem count : Try.f8.params.toList.length = 3 := by kernel_rfl
set_option maxRecDepth 100000 in
theorem isBool : ∃ tb, Try.f8.resultTypes = #[tb] ∧ Try.prog.underlying tb = some .bool := ⟨4, by kernel_rfl, by kernel_rfl⟩
theorem spec {H : Type} (ds : List (DataW H)) (h : ds.length = Try.f8.params.toList.length) : Rows.boundFusesSpec.fn H ds = { results := [.lit (.bool true)], args := ds } := by
  rw [count] at h
  match ds, h with
  | [_, _, _], _ => rfl
set_option maxRecDepth 100000 in
theorem lifted (os : Os) (started : os.Started) (H : Type) (enc : TypeId × Value → H) :
    ReturnsInHanded {} Try.checked os 8 .any (Rows.boundFusesSpec.pre6 enc Try.prog Try.f8 Rows.boundFusesRow.domain false) (Rows.boundFusesSpec.post enc Try.prog Try.f8 false true false false) := by
  refine returnsInHanded_of_change_sized (C := Try.checked) own started (by kernel_rfl) Try.func8
    (ChangeSpec.witness6 (enc := enc) (C := Try.checked) false ⟨#[], #[.slice none 0 0, .int .i64 0, .int .i64 0], []⟩ 8 (by kernel_rfl) (by kernel_rfl) (by kernel_rfl) (by kernel_rfl)) ?_
  intro W base args ds gs before hval hW hcnd hsz _
  obtain ⟨tb, h1, h2⟩ := isBool
  exact contract_of_pure (P := Try.prog) (fn := Try.f8) (s := Rows.boundFusesSpec) Try.func8 entered laid rows h1 h2 rfl spec shape
    (fun x h => boundFuses_pure x.1 x.2.1 x.2.2.1 h.2.1 h.2.2.1 (by have h := h.1.1; have e : reachBytes ≤ 9000000000000000000 := (by decide); have h2 : List.length (α := BdT) x.1 * 24 ≤ reachBytes := h; omega))
    hval hW hsz
theorem over : Rows.boundFusesRow.holds Try.pinned (OpenSpec.ofChange Rows.boundFusesSpec) :=
  OpenClaim.holds_of_wide 8 Try.f8 rfl rfl rfl rfl rfl rfl rfl ⟨rfl, rfl, rfl, rfl, rfl⟩ rfl rfl rfl rfl rfl (by kernel_rfl) Try.func8 (by kernel_rfl)
    (of_decide_eq_true (by kernel_rfl)) (by unfold Func.isWrapper; first | (rw [if_pos (by decide +kernel)]; kernel_rfl) | (rw [if_neg (by decide +kernel)]; exact ⟨rfl, rfl⟩))
    (fun os started H enc _ => lifted os started H enc)
theorem proved : Rows.BoundFusesSaid := over
end Go.Proofs.Ytdceakejbnolpaa.boundFuses
namespace Go.Proofs.Ytdceakejbnolpaa
/-- The statement, as it is given. -/
theorem boundFuses_holds : Rows.BoundFusesSaid := boundFuses.proved
#print axioms boundFuses_holds
end Go.Proofs.Ytdceakejbnolpaa
