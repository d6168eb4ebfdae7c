/- Products of bounds: the statement. No condition. -/
import Derived.Test.YtciigfeecmnghaaRRRRGreatRRBnFix
import Derived.Test.YtciigfeecmnghaaRRRRGreatRRBhFix
namespace Go.Proofs.YtciigfeecmnghaaRRRRGreatRR.Sv
open Go Go.RowKit
set_option linter.unusedVariables false
set_option linter.unusedSimpArgs false
set_option maxRecDepth 100000
theorem eqBf {objs : List (Nat × List V)} (x : Bd) : (SO.po (.veq false [(0, .n), (1, .n), (2, .b)])).rdx objs [.v (encB x), .v (encB x)] = some (.v (.b true)) := by
  simp [SO.rdx, SO.rd, allV, PO.run, veqV, eqLv, eqk]
theorem rat4 (d1 u1 d2 u2 d3 u3 d4 u4 : Int) : ratB [(d1, u1), (d2, u2), (d3, u3), (d4, u4)] = mkB (min (min (min d1 d2) d3) d4) (max (max (max u1 u2) u3) u4) := rfl
theorem rat2 (d1 u1 d2 u2 : Int) : ratB [(d1, u1), (d2, u2)] = mkB (min d1 d2) (max u1 u2) := rfl
theorem quF_pos {t b : Int} (h : 1 ≤ b) : quF t b = (t / b, cdiv t b) := if_neg (by omega)
theorem quF_neg {t b : Int} (h : b ≤ -1) : quF t b = (-t / -b, cdiv (-t) (-b)) := if_pos (by omega)
theorem mul_rat {unit : Int} (p q : Int × Int) (h : 1 ≤ unit) : mulB unit (some p) (some q) = ratB [quF (p.1 * q.1) unit, quF (p.1 * q.2) unit, quF (p.2 * q.1) unit, quF (p.2 * q.2) unit] := by
  rw [mulB, if_neg (by omega), corn_rat _ _ _ _ _ _ h h h h]
  simp only [quF_pos h]
theorem div_rat {unit : Int} (p q : Int × Int) (h : 1 ≤ unit) (hq : q.1 ≤ q.2) (hs : 0 < q.1 ∨ q.2 < 0) : divB unit (some p) (some q) = ratB [quF (p.1 * unit) q.1, quF (p.1 * unit) q.2, quF (p.2 * unit) q.1, quF (p.2 * unit) q.2] := by
  rw [divB, if_neg (by omega)]
  by_cases hn : q.2 < 0
  · rw [if_pos hn, corn_rat _ _ _ _ _ _ (by omega) (by omega) (by omega) (by omega), quF_neg (by omega), quF_neg (by omega), quF_neg (by omega), quF_neg (by omega), rat4, rat4]
    simp only [Int.neg_mul]
    congr 1 <;> omega
  · rw [if_neg hn, corn_rat _ _ _ _ _ _ (by omega) (by omega) (by omega) (by omega), quF_pos (by omega), quF_pos (by omega), quF_pos (by omega), quF_pos (by omega)]
theorem scale_rat {d n : Int} (p : Int × Int) (h : 1 ≤ d) (hn : -1152921504606846976 ≤ n ∧ n ≤ 1152921504606846976) : mulB d (some p) (mkB n n) = ratB [quF (p.1 * n) d, quF (p.2 * n) d] := by
  rw [mkB_some (by unfold bval; omega), mul_rat p (n, n) h, quF_pos h, quF_pos h, rat4, rat2]
  congr 1 <;> omega
theorem scale_no {d n : Int} (p : Int × Int) (h : ¬ (1 ≤ d ∧ -1152921504606846976 ≤ n ∧ n ≤ 1152921504606846976)) : mulB d (some p) (mkB n n) = none := by
  by_cases hn : -1152921504606846976 ≤ n ∧ n ≤ 1152921504606846976
  · rw [mkB_some (by unfold bval; omega), mulB, if_pos (by omega)]
  · rw [mkB_none (by unfold bval; omega)]; rfl
theorem sgn_eq {a b : Int} (h : a ≤ b) : (sgn a = sgn b ∧ sgn a ≠ 0) ↔ (0 < a ∨ b < 0) := by unfold sgn; split <;> (try split) <;> (try split) <;> (try split) <;> omega
end Go.Proofs.YtciigfeecmnghaaRRRRGreatRR.Sv
