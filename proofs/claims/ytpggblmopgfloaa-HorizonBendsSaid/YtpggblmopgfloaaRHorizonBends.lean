/- The functions CheckBends and Refract return what the reference says, for all tables and bounds. There are no further conditions. -/
import Derived.Test.YtpggblmopgfloaaRows
import Derived.Test.YtpggblmopgfloaaHf
import Derived.WalkKit
import Derived.ProofKit
namespace Go.Proofs.Ytpggblmopgfloaa.horizonBends
open Go Go.RowKit Go.Proofs.Ytpggblmopgfloaa.Sv
set_option linter.unusedVariables false
theorem own : ownKnob Try.prog.godebug = none := by kernel_rfl
set_option maxRecDepth 100000 in
theorem shape : Ty.ofArgs Try.prog 100 Try.f12.params.toList = some ((.pair (.sl 32 (.pair (.n .i64) (.pair (.pair (.n .i64) (.pair (.n .i64) (.pair .b .nil))) .nil))) (.pair (.pair (.n .i64) (.pair (.n .i64) (.pair .b .nil))) .nil))) := by kernel_rfl
set_option maxRecDepth 100000 in
theorem entered : (Fn1.of Try.prog 12 ⟨false, [], false⟩ [[0, 3], [4]]).isSome = true := by rw [of12]; rfl
set_option maxRecDepth 100000 in
theorem laid : laidOutB Try.prog = true := by kernel_rfl
set_option maxRecDepth 100000 in
theorem rows : Try.f12.params.toList.all (fun t => Try.prog.readableRec t && decide (t < Try.prog.types.size)) = true := by kernel_rfl
set_option maxRecDepth 100000 in
theorem count : Try.f12.params.toList.length = 2 := by kernel_rfl
set_option maxRecDepth 100000 in
theorem isBool : ∃ tb, Try.f12.resultTypes = #[tb] ∧ Try.prog.underlying tb = some .bool := ⟨4, by kernel_rfl, by kernel_rfl⟩
theorem spec {H : Type} (ds : List (DataW H)) (h : ds.length = Try.f12.params.toList.length) : Rows.horizonBendsSpec.fn H ds = { results := [.lit (.bool true)], args := ds } := by
  rw [count] at h
  match ds, h with
  | [_, _], _ => rfl
set_option maxRecDepth 100000 in
theorem lifted (os : Os) (started : os.Started) (H : Type) (enc : TypeId × Value → H) :
    ReturnsInHanded {} Try.checked os 12 .any (Rows.horizonBendsSpec.pre6 enc Try.prog Try.f12 Rows.horizonBendsRow.domain false) (Rows.horizonBendsSpec.post enc Try.prog Try.f12 false true false false) := by
  refine returnsInHanded_of_change_sized (C := Try.checked) own started (by kernel_rfl) Try.func12
    (ChangeSpec.witness6 (enc := enc) (C := Try.checked) false ⟨#[], #[.slice none 0 0, .agg #[.int .i64 0, .int .i64 0, .bool false]], []⟩ 8 (by kernel_rfl) (by kernel_rfl) (by kernel_rfl) (by kernel_rfl)) ?_
  intro W base args ds gs before hval hW hcnd hsz _
  obtain ⟨tb, h1, h2⟩ := isBool
  exact contract_of_pure (P := Try.prog) (fn := Try.f12) (s := Rows.horizonBendsSpec) Try.func12 entered laid rows h1 h2 rfl spec shape
    (fun x h => horizonBends_pure x.1 (len_reach (z := 32) (α := BendT) h.1.1 (by decide)) x.2.1.1 x.2.1.2.1 x.2.1.2.2.1)
    (fun _ _ h => nomatch h) hval hW hsz
theorem over : Rows.horizonBendsRow.holds Try.pinned (OpenSpec.ofChange Rows.horizonBendsSpec) :=
  OpenClaim.holds_of_wide 12 Try.f12 rfl rfl rfl rfl rfl rfl rfl ⟨rfl, rfl, rfl, rfl, rfl⟩ rfl rfl rfl rfl rfl (by kernel_rfl) Try.func12 (by kernel_rfl)
    (of_decide_eq_true (by kernel_rfl)) (by unfold Func.isWrapper; first | (rw [if_pos (by decide +kernel)]; kernel_rfl) | (rw [if_neg (by decide +kernel)]; exact ⟨rfl, rfl⟩))
    (fun os started H enc _ => lifted os started H enc)
theorem proved : Rows.HorizonBendsSaid := over
end Go.Proofs.Ytpggblmopgfloaa.horizonBends
namespace Go.Proofs.Ytpggblmopgfloaa
/-- The statement, as it is given. -/
theorem horizonBends_holds : Rows.HorizonBendsSaid := horizonBends.proved
#print axioms horizonBends_holds
end Go.Proofs.Ytpggblmopgfloaa
