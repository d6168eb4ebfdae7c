/- Bounds of numbers of a type that are fused: what is left out, the result. No condition. -/
import Derived.Test.YtciigfeecmnghaaRRRRGreatRRBfFix
namespace Go.Proofs.YtciigfeecmnghaaRRRRGreatRR.Sv
open Go Go.RowKit
set_option linter.unusedVariables false
set_option linter.unusedSimpArgs false
set_option maxRecDepth 100000

theorem filter_idxFix {p : Int → Bool} : ∀ {l : List Int} {i : Int}, 0 ≤ i → (idxF p l i = -1 ∧ l.filter (fun x => !p x) = l) ∨ ∃ k : Nat, k < l.length ∧ idxF p l i = i + k ∧ (l.take (k + 1)).filter (fun x => !p x) = l.take k
  | [], i, h => .inl ⟨rfl, rfl⟩
  | x :: l, i, h => by
    unfold idxF
    by_cases hx : p x = true
    · rw [if_pos hx]
      exact .inr ⟨0, by simp, by omega, by simp [hx]⟩
    · rw [if_neg hx]
      rcases filter_idxFix (p := p) (l := l) (i := i + 1) (by omega) with ⟨h1, h2⟩ | ⟨k, h1, h2, h3⟩
      · exact .inl ⟨h1, by simp [hx, h2]⟩
      · exact .inr ⟨k + 1, by simpa using h1, by omega, by simp [hx]; simpa using h3⟩
end Go.Proofs.YtciigfeecmnghaaRRRRGreatRR.Sv
