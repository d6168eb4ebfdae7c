/- Products of bounds: the statement. No condition. -/
import Derived.Test.YtpggblmopgfloaaBnFix
import Derived.Test.YtpggblmopgfloaaBhFix
namespace Go.Proofs.Ytpggblmopgfloaa.Sv
open Go Go.RowKit
set_option linter.unusedVariables false
set_option linter.unusedSimpArgs false
set_option maxRecDepth 100000
/-- spyglass/spylaw1.bounds -/
def F17 : Fn1 := ⟨17, .seq (.reg [⟨some 0, none, .mv, [.cn (.b false)]⟩] []) (.seq (.reg [⟨some 2, none, .po (.build [.n .i64 0, .n .i64 0, .b false] [(0, 1), (1, 1)]), [.cn (.n .i64 8), .cn (.n .i64 12)]⟩, ⟨some 3, none, .po (.build [.n .i64 0, .n .i64 0, .b false] [(0, 1), (1, 1)]), [.cn (.n .i64 11), .cn (.n .i64 13)]⟩, ⟨some 4, none, .po (.build [.n .i64 0, .n .i64 0, .b false] [(0, 1), (1, 1)]), [.cn (.n .i64 14), .cn (.n .i64 15)]⟩, ⟨some 5, none, .po (.bsl 3 [.n .i64 0, .n .i64 0, .b false] [(0, 3), (3, 3), (6, 3)]), [.tm 2, .tm 3, .tm 4]⟩, ⟨some 1, none, .mv, [.tm 5]⟩] [1]) (.seq (.reg [⟨some 6, none, .po (.build [.n .i64 0, .n .i64 0, .b false] [(0, 1), (1, 1)]), [.cn (.n .i64 (-3)), .cn (.n .i64 2)]⟩, ⟨some 7, none, .po (.build [.n .i64 0, .n .i64 0, .b false] [(0, 1), (1, 1)]), [.cn (.n .i64 5), .cn (.n .i64 7)]⟩, ⟨some 8, none, .call 89, [.tm 6, .tm 7, .cn (.n .i64 2)]⟩, ⟨some 9, none, .po (.build [.n .i64 0, .n .i64 0, .b false] [(0, 1), (1, 1)]), [.cn (.n .i64 (-11)), .cn (.n .i64 7)]⟩, ⟨some 10, none, .po (.veq false [(0, .n), (1, .n), (2, .b)]), [.tm 8, .tm 9]⟩, ⟨some 11, none, .mv, [.tm 10]⟩, ⟨some 12, some (11, true), .mv, [.tm 1]⟩, ⟨some 13, some (11, true), .call 90, [.tm 12, .cn (.n .i64 1)]⟩, ⟨some 14, some (11, true), .po (.build [.n .i64 0, .n .i64 0, .b false] [(0, 1), (1, 1)]), [.cn (.n .i64 11), .cn (.n .i64 12)]⟩, ⟨some 15, some (11, true), .po (.veq false [(0, .n), (1, .n), (2, .b)]), [.tm 13, .tm 14]⟩, ⟨some 16, none, .pick, [.tm 11, .tm 15, .cn (.b false)]⟩, ⟨some 0, none, .mv, [.tm 16]⟩] [0]) .ret)), [.tm 0]⟩
theorem of17 : Fn1.of Try.prog 17 ⟨false, [], false⟩ [[], [1], [0]] = some F17 := by kernel_rfl
theorem eqBf {objs : List (Nat × List V)} (x : Bd) : (SO.po (.veq false [(0, .n), (1, .n), (2, .b)])).rdx objs [.v (encB x), .v (encB x)] = some (.v (.b true)) := by
  simp [SO.rdx, SO.rd, allV, PO.run, veqV, eqLv, eqk]
theorem bounds_ok : Pure Try.prog 17 [] (.b true) := by
  refine pure_of_wp of17 (Nat.le_of_ble_eq_true rfl) ?_
  have hm := mulFix (-3) 2 false 5 7 false 2 (by decide)
  have em : mulB 2 (normB (-3) 2 false) (normB 5 7 false) = some (-11, 7) := by decide
  rw [em] at hm
  have hf := fuseFix [(8, 12, false, ()), (11, 13, false, ()), (14, 15, false, ())] 1 (by decide) (by decide)
  have ef : fuseF (([(8, 12, false, ()), (11, 13, false, ()), (14, 15, false, ())] : List BdT).map nrm) 1 = some (11, 12) := by decide
  rw [ef] at hf
  refine CallK.mk _ hm rfl ?_
  refine OptK.mk _ (eqBf (some (-11, 7))) ?_
  refine DecK.tt ?_
  refine CallK.mk _ (.of (.cons .loose (.cons (.refl _) .nil)) hf) rfl ?_
  refine OptK.mk _ (eqBf (some (11, 12))) ?_
  ((repeat' first | refine DecK.tt ?_ | refine DecK.ff ?_ | refine DecK.beq (fun _ => ?_) (fun _ => ?_) | refine DecK.bne (fun _ => ?_) (fun _ => ?_) | refine DecK.dec (fun _ => ?_) (fun _ => ?_) | refine OptK.mk _ rfl ?_ | refine endV (by rfl) ?_) <;> (try with_reducible rfl))
theorem rat4 (d1 u1 d2 u2 d3 u3 d4 u4 : Int) : ratB [(d1, u1), (d2, u2), (d3, u3), (d4, u4)] = mkB (min (min (min d1 d2) d3) d4) (max (max (max u1 u2) u3) u4) := rfl
theorem rat2 (d1 u1 d2 u2 : Int) : ratB [(d1, u1), (d2, u2)] = mkB (min d1 d2) (max u1 u2) := rfl
theorem quF_pos {t b : Int} (h : 1 ≤ b) : quF t b = (t / b, cdiv t b) := if_neg (by omega)
theorem quF_neg {t b : Int} (h : b ≤ -1) : quF t b = (-t / -b, cdiv (-t) (-b)) := if_pos (by omega)
theorem mul_rat {unit : Int} (p q : Int × Int) (h : 1 ≤ unit) : mulB unit (some p) (some q) = ratB [quF (p.1 * q.1) unit, quF (p.1 * q.2) unit, quF (p.2 * q.1) unit, quF (p.2 * q.2) unit] := by
  rw [mulB, if_neg (by omega), corn_rat _ _ _ _ _ _ h h h h]
  simp only [quF_pos h]
theorem div_rat {unit : Int} (p q : Int × Int) (h : 1 ≤ unit) (hq : q.1 ≤ q.2) (hs : 0 < q.1 ∨ q.2 < 0) : divB unit (some p) (some q) = ratB [quF (p.1 * unit) q.1, quF (p.1 * unit) q.2, quF (p.2 * unit) q.1, quF (p.2 * unit) q.2] := by
  rw [divB, if_neg (by omega)]
  by_cases hn : q.2 < 0
  · rw [if_pos hn, corn_rat _ _ _ _ _ _ (by omega) (by omega) (by omega) (by omega), quF_neg (by omega), quF_neg (by omega), quF_neg (by omega), quF_neg (by omega), rat4, rat4]
    simp only [Int.neg_mul]
    congr 1 <;> omega
  · rw [if_neg hn, corn_rat _ _ _ _ _ _ (by omega) (by omega) (by omega) (by omega), quF_pos (by omega), quF_pos (by omega), quF_pos (by omega), quF_pos (by omega)]
theorem scale_rat {d n : Int} (p : Int × Int) (h : 1 ≤ d) (hn : -1152921504606846976 ≤ n ∧ n ≤ 1152921504606846976) : mulB d (some p) (mkB n n) = ratB [quF (p.1 * n) d, quF (p.2 * n) d] := by
  rw [mkB_some (by unfold bval; omega), mul_rat p (n, n) h, quF_pos h, quF_pos h, rat4, rat2]
  congr 1 <;> omega
theorem scale_no {d n : Int} (p : Int × Int) (h : ¬ (1 ≤ d ∧ -1152921504606846976 ≤ n ∧ n ≤ 1152921504606846976)) : mulB d (some p) (mkB n n) = none := by
  by_cases hn : -1152921504606846976 ≤ n ∧ n ≤ 1152921504606846976
  · rw [mkB_some (by unfold bval; omega), mulB, if_pos (by omega)]
  · rw [mkB_none (by unfold bval; omega)]; rfl
theorem sgn_eq {a b : Int} (h : a ≤ b) : (sgn a = sgn b ∧ sgn a ≠ 0) ↔ (0 < a ∨ b < 0) := by unfold sgn; split <;> (try split) <;> (try split) <;> (try split) <;> omega
end Go.Proofs.Ytpggblmopgfloaa.Sv
