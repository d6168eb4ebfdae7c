/- The error numbers, kinds, units and limits have the specified values. No condition. -/
import Derived.Test.YtkmlnmbhlkhgpaaRows
import Derived.Test.YtkmlnmbhlkhgpaaNe
import Derived.WalkKit
import Derived.ProofKit
namespace Go.Proofs.Ytkmlnmbhlkhgpaa.names
open Go Go.RowKit Go.Proofs.Ytkmlnmbhlkhgpaa.Sv
set_option linter.unusedVariables false
theorem own : ownKnob Try.prog.godebug = none := by kernel_rfl
set_option maxRecDepth 100000 in
theorem shape : Ty.ofArgs Try.prog 100 Try.f6.params.toList = some (.nil) := by kernel_rfl
set_option maxRecDepth 100000 in
theorem entered : (Fn1.of Try.prog 6 false [[], [1], [5, 6, 7], [5, 6, 7], [5, 6, 7, 8], [2, 3, 5, 6, 7], [5, 6, 7, 14], [0], [5, 6, 7], [0]]).isSome = true := by kernel_rfl
set_option maxRecDepth 100000 in
theorem laid : laidOutB Try.prog = true := by kernel_rfl
set_option maxRecDepth 100000 in
theorem rows : Try.f6.params.toList.all (fun t => Try.prog.readableRec t && decide (t < Try.prog.types.size)) = true := by kernel_rfl
set_option maxRecDepth 100000 in
theorem count : Try.f6.params.toList.length = 0 := by kernel_rfl
set_option maxRecDepth 100000 in
theorem isBool : ∃ tb, Try.f6.resultTypes = #[tb] ∧ Try.prog.underlying tb = some .bool := ⟨4, by kernel_rfl, by kernel_rfl⟩
theorem spec {H : Type} (ds : List (DataW H)) (h : ds.length = Try.f6.params.toList.length) : Rows.namesSpec.fn H ds = { results := [.lit (.bool true)], args := ds } := by
  rw [count] at h
  match ds, h with
  | [], _ => rfl
set_option maxRecDepth 100000 in
theorem lifted (os : Os) (started : os.Started) (H : Type) (enc : TypeId × Value → H) :
    ReturnsInHanded {} Try.checked os 6 .any (Rows.namesSpec.pre6 enc Try.prog Try.f6 Rows.namesRow.domain false) (Rows.namesSpec.post enc Try.prog Try.f6 false true false false) := by
  refine returnsInHanded_of_change_sized (C := Try.checked) own started (by kernel_rfl) Try.func6
    (ChangeSpec.witness6 (enc := enc) (C := Try.checked) false ⟨#[], #[], []⟩ 8 (by kernel_rfl) (by kernel_rfl) (by kernel_rfl) (by kernel_rfl)) ?_
  intro W base args ds gs before hval hW hcnd hsz _
  obtain ⟨tb, h1, h2⟩ := isBool
  exact contract_of_pure (P := Try.prog) (fn := Try.f6) (s := Rows.namesSpec) Try.func6 entered laid rows h1 h2 rfl spec shape
    (names_law)
    hval hW hsz
theorem over : Rows.namesRow.holds Try.pinned (OpenSpec.ofChange Rows.namesSpec) :=
  OpenClaim.holds_of_wide 6 Try.f6 rfl rfl rfl rfl rfl rfl rfl ⟨rfl, rfl, rfl, rfl, rfl⟩ rfl rfl rfl rfl rfl (by kernel_rfl) Try.func6 (by kernel_rfl)
    (of_decide_eq_true (by kernel_rfl)) (by unfold Func.isWrapper; first | (rw [if_pos (by decide +kernel)]; kernel_rfl) | (rw [if_neg (by decide +kernel)]; exact ⟨rfl, rfl⟩))
    (fun os started H enc _ => lifted os started H enc)
theorem proved : Rows.NamesSaid := over
end Go.Proofs.Ytkmlnmbhlkhgpaa.names
namespace Go.Proofs.Ytkmlnmbhlkhgpaa
/-- The statement, as it is given. -/
theorem names_holds : Rows.NamesSaid := names.proved
#print axioms names_holds
end Go.Proofs.Ytkmlnmbhlkhgpaa
