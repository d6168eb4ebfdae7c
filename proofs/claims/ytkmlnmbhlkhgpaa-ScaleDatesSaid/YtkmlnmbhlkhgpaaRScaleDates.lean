/- Days and Date return what the reference returns, for all numbers: the statement ScaleDates; no condition. -/
import Derived.Test.YtkmlnmbhlkhgpaaRows
import Derived.Test.YtkmlnmbhlkhgpaaTf
import Derived.WalkKit
import Derived.ProofKit
namespace Go.Proofs.Ytkmlnmbhlkhgpaa.scaleDates
open Go Go.RowKit Go.Proofs.Ytkmlnmbhlkhgpaa.Sv
set_option linter.unusedVariables false
theorem own : ownKnob Try.prog.godebug = none := by kernel_rfl
set_option maxRecDepth 100000 in
theorem shape : Ty.ofArgs Try.prog 100 Try.f4.params.toList = some ((.pair (.n .i64) (.pair (.n .i64) (.pair (.n .i64) (.pair (.n .i64) .nil))))) := by kernel_rfl
set_option maxRecDepth 100000 in
theorem entered : (Fn1.of Try.prog 4 [[0, 1, 2, 3], [0, 1, 2, 3, 9, 10], [3, 9, 10, 11, 12], [3, 9, 10, 11, 12, 13, 14, 15, 16], [9, 10, 11, 12, 13, 14, 15, 16, 17, 18, 19, 20], [8]]).isSome = true := by kernel_rfl
set_option maxRecDepth 100000 in
theorem laid : laidOutB Try.prog = true := by kernel_rfl
set_option maxRecDepth 100000 in
theorem rows : Try.f4.params.toList.all (fun t => Try.prog.readableRec t && decide (t < Try.prog.types.size)) = true := by kernel_rfl
set_option maxRecDepth 100000 in
theorem count : Try.f4.params.toList.length = 4 := by kernel_rfl
set_option maxRecDepth 100000 in
theorem isBool : ∃ tb, Try.f4.resultTypes = #[tb] ∧ Try.prog.underlying tb = some .bool := ⟨4, by kernel_rfl, by kernel_rfl⟩
theorem spec {H : Type} (ds : List (DataW H)) (h : ds.length = Try.f4.params.toList.length) : Rows.scaleDatesSpec.fn H ds = { results := [.lit (.bool true)], args := ds } := by
  rw [count] at h
  match ds, h with
  | [_, _, _, _], _ => rfl
set_option maxRecDepth 100000 in
theorem lifted (os : Os) (started : os.Started) (H : Type) (enc : TypeId × Value → H) :
    ReturnsInHanded {} Try.checked os 4 .any (Rows.scaleDatesSpec.pre6 enc Try.prog Try.f4 Rows.scaleDatesRow.domain false) (Rows.scaleDatesSpec.post enc Try.prog Try.f4 false true false false) := by
  refine returnsInHanded_of_change_sized (C := Try.checked) own started (by kernel_rfl) Try.func4
    (ChangeSpec.witness6 (enc := enc) (C := Try.checked) false ⟨#[], #[.int .i64 0, .int .i64 0, .int .i64 0, .int .i64 0], []⟩ 8 (by kernel_rfl) (by kernel_rfl) (by kernel_rfl) (by kernel_rfl)) ?_
  intro W base args ds gs before hval hW hcnd hsz _
  obtain ⟨tb, h1, h2⟩ := isBool
  exact contract_of_pure (P := Try.prog) (fn := Try.f4) (s := Rows.scaleDatesSpec) Try.func4 entered laid rows h1 h2 rfl spec shape
    (fun ⟨y, m, d, n, _⟩ _ => law_dates y m d n)
    hval hW hsz
theorem over : Rows.scaleDatesRow.holds Try.pinned (OpenSpec.ofChange Rows.scaleDatesSpec) :=
  OpenClaim.holds_of_wide 4 Try.f4 rfl rfl rfl rfl rfl rfl rfl ⟨rfl, rfl, rfl, rfl, rfl⟩ rfl rfl rfl rfl rfl (by kernel_rfl) Try.func4 (by kernel_rfl)
    (of_decide_eq_true (by kernel_rfl)) (by unfold Func.isWrapper; first | (rw [if_pos (by decide +kernel)]; kernel_rfl) | (rw [if_neg (by decide +kernel)]; exact ⟨rfl, rfl⟩))
    (fun os started H enc _ => lifted os started H enc)
theorem proved : Rows.ScaleDatesSaid := over
end Go.Proofs.Ytkmlnmbhlkhgpaa.scaleDates
namespace Go.Proofs.Ytkmlnmbhlkhgpaa
/-- The statement, as it is given. -/
theorem scaleDates_holds : Rows.ScaleDatesSaid := scaleDates.proved
#print axioms scaleDates_holds
end Go.Proofs.Ytkmlnmbhlkhgpaa
