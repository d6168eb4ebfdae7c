/- Sync returns the specified result for all clocks and exchanges; no condition. -/
import Derived.Test.YtdceakejbnolpaaRows
import Derived.Test.YtdceakejbnolpaaCd
import Derived.WalkKit
import Derived.ProofKit
namespace Go.Proofs.Ytdceakejbnolpaa.clockSyncs
open Go Go.RowKit Go.Proofs.Ytdceakejbnolpaa.Sv
set_option linter.unusedVariables false
theorem own : ownKnob Try.prog.godebug = none := by kernel_rfl
set_option maxRecDepth 100000 in
theorem shape : Ty.ofArgs Try.prog 100 Try.f7.params.toList = some ((.pair (.pair (.n .i64) (.pair (.pair (.n .i64) (.pair (.n .i64) (.pair .b .nil))) (.pair (.n .i64) .nil))) (.pair (.n .i64) (.pair (.n .i64) (.pair (.pair (.n .i64) (.pair (.n .i64) (.pair .b .nil))) .nil))))) := by kernel_rfl
set_option maxRecDepth 100000 in
theorem entered : (Fn1.of Try.prog 7 false [[1, 2, 4, 7], [1, 2, 4, 7, 9, 10], [9, 10, 11, 12], [8]]).isSome = true := by kernel_rfl
set_option maxRecDepth 100000 in
theorem laid : laidOutB Try.prog = true := by kernel_rfl
set_option maxRecDepth 100000 in
theorem rows : Try.f7.params.toList.all (fun t => Try.prog.readableRec t && decide (t < Try.prog.types.size)) = true := by kernel_rfl
set_option maxRecDepth 100000 in
theorem count : Try.f7.params.toList.length = 4 := by kernel_rfl
set_option maxRecDepth 100000 in
theorem isBool : ∃ tb, Try.f7.resultTypes = #[tb] ∧ Try.prog.underlying tb = some .bool := ⟨4, by kernel_rfl, by kernel_rfl⟩
theorem spec {H : Type} (ds : List (DataW H)) (h : ds.length = Try.f7.params.toList.length) : Rows.clockSyncsSpec.fn H ds = { results := [.lit (.bool true)], args := ds } := by
  rw [count] at h
  match ds, h with
  | [_, _, _, _], _ => rfl
set_option maxRecDepth 100000 in
theorem lifted (os : Os) (started : os.Started) (H : Type) (enc : TypeId × Value → H) :
    ReturnsInHanded {} Try.checked os 7 .any (Rows.clockSyncsSpec.pre6 enc Try.prog Try.f7 Rows.clockSyncsRow.domain false) (Rows.clockSyncsSpec.post enc Try.prog Try.f7 false true false false) := by
  refine returnsInHanded_of_change_sized (C := Try.checked) own started (by kernel_rfl) Try.func7
    (ChangeSpec.witness6 (enc := enc) (C := Try.checked) false ⟨#[], #[.agg #[.int .i64 0, .int .i64 0, .int .i64 0, .bool false, .int .i64 0], .int .i64 0, .int .i64 0, .agg #[.int .i64 0, .int .i64 0, .bool false]], []⟩ 8 (by kernel_rfl) (by kernel_rfl) (by kernel_rfl) (by kernel_rfl)) ?_
  intro W base args ds gs before hval hW hcnd hsz _
  obtain ⟨tb, h1, h2⟩ := isBool
  exact contract_of_pure (P := Try.prog) (fn := Try.f7) (s := Rows.clockSyncsSpec) Try.func7 entered laid rows h1 h2 rfl spec shape
    (fun a h => clockSyncs_law a h)
    hval hW hsz
theorem over : Rows.clockSyncsRow.holds Try.pinned (OpenSpec.ofChange Rows.clockSyncsSpec) :=
  OpenClaim.holds_of_wide 7 Try.f7 rfl rfl rfl rfl rfl rfl rfl ⟨rfl, rfl, rfl, rfl, rfl⟩ rfl rfl rfl rfl rfl (by kernel_rfl) Try.func7 (by kernel_rfl)
    (of_decide_eq_true (by kernel_rfl)) (by unfold Func.isWrapper; first | (rw [if_pos (by decide +kernel)]; kernel_rfl) | (rw [if_neg (by decide +kernel)]; exact ⟨rfl, rfl⟩))
    (fun os started H enc _ => lifted os started H enc)
theorem proved : Rows.ClockSyncsSaid := over
end Go.Proofs.Ytdceakejbnolpaa.clockSyncs
namespace Go.Proofs.Ytdceakejbnolpaa
/-- The statement, as it is given. -/
theorem clockSyncs_holds : Rows.ClockSyncsSaid := clockSyncs.proved
#print axioms clockSyncs_holds
end Go.Proofs.Ytdceakejbnolpaa
