/- The reference's whole numbers in rows. No condition. -/
import Derived.Test.YtjeafcngljbdlaaZf
namespace Go.Proofs.Ytjeafcngljbdlaa.Sv
open Go Go.RowKit
set_option linter.unusedVariables false
set_option linter.unusedSimpArgs false

theorem at_ex {α : Type} {l : List α} {k : Nat} (h : k < l.length) : ∃ x, l[k]? = some x ∧ l.drop k = x :: l.drop (k + 1) ∧ x ∈ l := ⟨l[k], by simp [h], List.drop_eq_getElem_cons h, List.getElem_mem h⟩
/-- A whole number's cells, its row tight or not. -/
abbrev zCt (g : Int) (t : Bool) : List V := [.b (decide (g < 0)), .sl (digs g.natAbs).length ((digs g.natAbs).flatMap ni) t]
theorem zT {g : Int} {t : Bool} : VLe (.agg (zCt g t)) (zV g) := by
  cases t
  · exact .refl _
  · exact VLes.agg (.cons (.refl _) (.cons .loose .nil))
theorem zCt_zero : zCt 0 true = [.b false, .sl 0 [] true] := by simp [zCt, digs_zero]
theorem zz2 : ∀ x, (zC x).length = 2 := fun _ => rfl
/-- Below and above a quotient, whatever the sign of the divisor. -/
def quF (t b : Int) : Int × Int := if b < 0 then (-t / -b, cdiv (-t) (-b)) else (t / b, cdiv t b)
def stepR : Option (Int × Int) → Int × Int → Option (Int × Int)
  | none, q => some q
  | some p, q => some (min p.1 q.1, max p.2 q.2)
def optP : Option (Int × Int) → Int × Int
  | none => (0, 0)
  | some p => p
end Go.Proofs.Ytjeafcngljbdlaa.Sv
