/- The functions CheckSite and Height return what the reference says, for all sites, bounds and vectors. There are no further conditions. -/
import Derived.Test.YtciigfeecmnghaaRRRRGreatRRRows
import Derived.Test.YtciigfeecmnghaaRRRRGreatRRHo
import Derived.WalkKit
import Derived.ProofKit
namespace Go.Proofs.YtciigfeecmnghaaRRRRGreatRR.horizonHeights
open Go Go.RowKit Go.Proofs.YtciigfeecmnghaaRRRRGreatRR.Sv
set_option linter.unusedVariables false
theorem own : ownKnob Tryz.prog.godebug = none := by kernel_rfl
set_option maxRecDepth 100000 in
theorem shape : Ty.ofArgs Tryz.prog 100 Tryz.f3.params.toList = some ((.pair (.pair (.n .i64) (.pair (.n .i64) .nil)) (.pair (.pair (.n .i64) (.pair (.n .i64) (.pair .b .nil))) (.pair (.pair (.n .i64) (.pair (.n .i64) (.pair (.n .i64) .nil))) .nil)))) := by kernel_rfl
set_option maxRecDepth 100000 in
theorem entered : (Fn1.of Tryz.prog 3 ⟨false, [], false⟩ [[3, 4, 5], [6]]).isSome = true := by rw [of3]; rfl
set_option maxRecDepth 100000 in
theorem laid : laidOutB Tryz.prog = true := by kernel_rfl
set_option maxRecDepth 100000 in
theorem rows : Tryz.f3.params.toList.all (fun t => Tryz.prog.readableRec t && decide (t < Tryz.prog.types.size)) = true := by kernel_rfl
set_option maxRecDepth 100000 in
theorem count : Tryz.f3.params.toList.length = 3 := by kernel_rfl
set_option maxRecDepth 100000 in
theorem isBool : ∃ tb, Tryz.f3.resultTypes = #[tb] ∧ Tryz.prog.underlying tb = some .bool := ⟨4, by kernel_rfl, by kernel_rfl⟩
theorem spec {H : Type} (ds : List (DataW H)) (h : ds.length = Tryz.f3.params.toList.length) : Rows.horizonHeightsSpec.fn H ds = { results := [.lit (.bool true)], args := ds } := by
  rw [count] at h
  match ds, h with
  | [_, _, _], _ => rfl
set_option maxRecDepth 100000 in
theorem lifted (os : Os) (started : os.Started) (H : Type) (enc : TypeId × Value → H) :
    ReturnsInHanded {} Tryz.checked os 3 .any (Rows.horizonHeightsSpec.pre6 enc Tryz.prog Tryz.f3 Rows.horizonHeightsRow.domain false) (Rows.horizonHeightsSpec.post enc Tryz.prog Tryz.f3 false true false false) := by
  refine returnsInHanded_of_change_sized (C := Tryz.checked) own started (by kernel_rfl) Tryz.func3
    (ChangeSpec.witness6 (enc := enc) (C := Tryz.checked) false ⟨#[], #[.agg #[.int .i64 0, .int .i64 0], .agg #[.int .i64 0, .int .i64 0, .bool false], .agg #[.int .i64 0, .int .i64 0, .int .i64 0]], []⟩ 8 (by kernel_rfl) (by kernel_rfl) (by kernel_rfl) (by kernel_rfl)) ?_
  intro W base args ds gs before hval hW hcnd hsz _
  obtain ⟨tb, h1, h2⟩ := isBool
  exact contract_of_pure (P := Tryz.prog) (fn := Tryz.f3) (s := Rows.horizonHeightsSpec) Tryz.func3 entered laid rows h1 h2 rfl spec shape
    (fun x h => horizonHeights_pure x.1.1 x.1.2.1 x.2.1.1 x.2.1.2.1 x.2.1.2.2.1 x.2.2.1.1 x.2.2.1.2.1 x.2.2.1.2.2.1)
    (fun _ _ h => nomatch h) hval hW hsz
theorem over : Rows.horizonHeightsRow.holds Tryz.pinned (OpenSpec.ofChange Rows.horizonHeightsSpec) :=
  OpenClaim.holds_of_wide 3 Tryz.f3 rfl rfl rfl rfl rfl rfl rfl ⟨rfl, rfl, rfl, rfl, rfl⟩ rfl rfl rfl rfl rfl (by kernel_rfl) Tryz.func3 (by kernel_rfl)
    (of_decide_eq_true (by kernel_rfl)) (by unfold Func.isWrapper; first | (rw [if_pos (by decide +kernel)]; kernel_rfl) | (rw [if_neg (by decide +kernel)]; exact ⟨rfl, rfl⟩))
    (fun os started H enc _ => lifted os started H enc)
theorem proved : Rows.HorizonHeightsSaid := over
end Go.Proofs.YtciigfeecmnghaaRRRRGreatRR.horizonHeights
namespace Go.Proofs.YtciigfeecmnghaaRRRRGreatRR
/-- The statement, as it is given. -/
theorem horizonHeights_holds : Rows.HorizonHeightsSaid := horizonHeights.proved
#print axioms horizonHeights_holds
end Go.Proofs.YtciigfeecmnghaaRRRRGreatRR
