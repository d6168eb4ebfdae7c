/- What is known of a number within bounds: absolute values, comparisons, roots. No condition. -/
import Derived.Test.YtciigfeecmnghaaRRRRGreatRRBe
namespace Go.Proofs.YtciigfeecmnghaaRRRRGreatRR.Sv
open Go Go.RowKit
set_option linter.unusedVariables false
set_option linter.unusedSimpArgs false

def absB : Bd → Bd
  | none => none
  | some p => if p.1 < 0 ∧ p.2 > 0 then some (0, max (-p.1) p.2) else maxB (some p) (some (-p.2, -p.1))
def insB : Bd → Bd → Bool
  | _, none => true
  | none, some _ => false
  | some p, some q => decide (q.1 ≤ p.1 ∧ p.2 ≤ q.2)
def cmpB : Bd → Bd → Int
  | some p, some q => if p.2 < q.1 then -1 else if p.1 > q.2 then 1 else 0
  | _, _ => 0
def widB : Bd → Int
  | none => 0
  | some p => p.2 - p.1
/-- r is the bound of the root of x times a unit. -/
def rootB (unit : Int) : Bd → Bd → Prop
  | none, r => r = none
  | some p, r => (unit < 1 ∨ p.2 < 0) ∧ r = none ∨ ¬ (unit < 1 ∨ p.2 < 0) ∧ ∃ a b : Int, (0 ≤ a ∧ a * a ≤ max p.1 0 * unit ∧ max p.1 0 * unit < (a + 1) * (a + 1)) ∧ (0 ≤ b ∧ b * b ≤ p.2 * unit ∧ p.2 * unit < (b + 1) * (b + 1)) ∧ r = mkB a (if b * b < p.2 * unit then b + 1 else b)
theorem icmp_lt0 {a b : Int} : icmp a b < 0 ↔ a < b := by unfold icmp; split <;> (try split) <;> omega
end Go.Proofs.YtciigfeecmnghaaRRRRGreatRR.Sv
