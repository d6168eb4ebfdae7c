/- Agree returns the specified result for all clocks, values and numbers; no condition. -/
import Derived.Test.YtdceakejbnolpaaRows
import Derived.Test.YtdceakejbnolpaaCg
import Derived.WalkKit
import Derived.ProofKit
namespace Go.Proofs.Ytdceakejbnolpaa.clockAgrees
open Go Go.RowKit Go.Proofs.Ytdceakejbnolpaa.Sv
set_option linter.unusedVariables false
theorem own : ownKnob Try.prog.godebug = none := by kernel_rfl
set_option maxRecDepth 100000 in
theorem shape : Ty.ofArgs Try.prog 100 Try.f12.params.toList = some ((.pair (.sl 40 (.pair (.n .i64) (.pair (.pair (.n .i64) (.pair (.n .i64) (.pair .b .nil))) (.pair (.n .i64) .nil)))) (.pair (.sl 8 (.n .i64)) (.pair (.n .i64) .nil)))) := by kernel_rfl
set_option maxRecDepth 100000 in
theorem entered : (Fn1.of Try.prog 12 ⟨false, [], false⟩ [[0, 1, 2], [0, 1, 2, 7, 8], [7, 8, 9, 10], [6]]).isSome = true := by kernel_rfl
set_option maxRecDepth 100000 in
theorem laid : laidOutB Try.prog = true := by kernel_rfl
set_option maxRecDepth 100000 in
theorem rows : Try.f12.params.toList.all (fun t => Try.prog.readableRec t && decide (t < Try.prog.types.size)) = true := by kernel_rfl
set_option maxRecDepth 100000 in
theorem count : Try.f12.params.toList.length = 3 := by kernel_rfl
set_option maxRecDepth 100000 in
theorem isBool : ∃ tb, Try.f12.resultTypes = #[tb] ∧ Try.prog.underlying tb = some .bool := ⟨4, by kernel_rfl, by kernel_rfl⟩
theorem spec {H : Type} (ds : List (DataW H)) (h : ds.length = Try.f12.params.toList.length) : Rows.clockAgreesSpec.fn H ds = { results := [.lit (.bool true)], args := ds } := by
  rw [count] at h
  match ds, h with
  | [_, _, _], _ => rfl
set_option maxRecDepth 100000 in
theorem lifted (os : Os) (started : os.Started) (H : Type) (enc : TypeId × Value → H) :
    ReturnsInHanded {} Try.checked os 12 .any (Rows.clockAgreesSpec.pre6 enc Try.prog Try.f12 Rows.clockAgreesRow.domain false) (Rows.clockAgreesSpec.post enc Try.prog Try.f12 false true false false) := by
  refine returnsInHanded_of_change_sized (C := Try.checked) own started (by kernel_rfl) Try.func12
    (ChangeSpec.witness6 (enc := enc) (C := Try.checked) false ⟨#[], #[.slice none 0 0, .slice none 0 0, .int .i64 0], []⟩ 8 (by kernel_rfl) (by kernel_rfl) (by kernel_rfl) (by kernel_rfl)) ?_
  intro W base args ds gs before hval hW hcnd hsz _
  obtain ⟨tb, h1, h2⟩ := isBool
  exact contract_of_pure (P := Try.prog) (fn := Try.f12) (s := Rows.clockAgreesSpec) Try.func12 entered laid rows h1 h2 rfl spec shape
    (fun x h => clockAgrees_pure x.1 x.2.1 x.2.2.1 h.2.2.1 (len_reach (z := 40) (α := ClkT) h.1.1 (by decide)) (len_reach (z := 8) (α := Int) h.2.1.1 (by decide)))
    hval hW hsz
theorem over : Rows.clockAgreesRow.holds Try.pinned (OpenSpec.ofChange Rows.clockAgreesSpec) :=
  OpenClaim.holds_of_wide 12 Try.f12 rfl rfl rfl rfl rfl rfl rfl ⟨rfl, rfl, rfl, rfl, rfl⟩ rfl rfl rfl rfl rfl (by kernel_rfl) Try.func12 (by kernel_rfl)
    (of_decide_eq_true (by kernel_rfl)) (by unfold Func.isWrapper; first | (rw [if_pos (by decide +kernel)]; kernel_rfl) | (rw [if_neg (by decide +kernel)]; exact ⟨rfl, rfl⟩))
    (fun os started H enc _ => lifted os started H enc)
theorem proved : Rows.ClockAgreesSaid := over
end Go.Proofs.Ytdceakejbnolpaa.clockAgrees
namespace Go.Proofs.Ytdceakejbnolpaa
/-- The statement, as it is given. -/
theorem clockAgrees_holds : Rows.ClockAgreesSaid := clockAgrees.proved
#print axioms clockAgrees_holds
end Go.Proofs.Ytdceakejbnolpaa
