/- Bounds of numbers of a type: absolute values, comparisons, roots. No condition. -/
import Derived.Test.YtciigfeecmnghaaRRRRGreatRRBcFix
import Derived.Test.YtciigfeecmnghaaRRRRGreatRRNf
import Derived.Test.YtciigfeecmnghaaRRRRGreatRRBx
namespace Go.Proofs.YtciigfeecmnghaaRRRRGreatRR.Sv
open Go Go.RowKit
set_option linter.unusedVariables false
set_option linter.unusedSimpArgs false
set_option maxRecDepth 100000
/-- spyglass/bound.Root(spyglass/api.Fix) -/
def F42 : Fn1 := ⟨43, .seq (.reg [⟨some 2, none, .box, [.tm 0]⟩, ⟨some 4, none, .alloc [.n .i64 0, .n .i64 0, .b false], []⟩] [1, 2, 4]) (.seq (.seq (.reg [⟨some 7, none, .ld true 3 false, [.tm 2]⟩, ⟨some 8, none, .ld true 3 false, [.tm 2]⟩, ⟨some 9, none, .call 104, [.tm 7, .tm 8]⟩, ⟨some 10, none, .mv, [.tm 9]⟩, ⟨some 11, some (10, false), .mv, [.tm 1]⟩, ⟨some 12, some (10, false), .po (.bin .lss), [.tm 11, .cn (.n .i64 1)]⟩, ⟨some 13, none, .pick, [.tm 10, .cn (.b true), .tm 12]⟩, ⟨some 14, none, .mv, [.tm 13]⟩, ⟨some 15, some (14, false), .fa 1, [.tm 2]⟩, ⟨some 16, some (14, false), .ld false 1 false, [.tm 15]⟩, ⟨some 17, some (14, false), .po (.bin .lss), [.tm 16, .cn (.n .i64 0)]⟩, ⟨some 18, none, .pick, [.tm 14, .cn (.b true), .tm 17]⟩] [1, 2, 4, 18]) (.cond (.tm 18) (.seq (.reg [⟨some 19, none, .call 33, []⟩, ⟨none, none, .st 3, [.tm 4, .tm 19]⟩] [4]) .ret) .skip)) (.seq (.dreg [⟨some 20, none, .fa 0, [.tm 2]⟩, ⟨some 21, none, .ld false 1 false, [.tm 20]⟩, ⟨some 22, none, .po .mx, [.tm 21, .cn (.n .i64 0)]⟩, ⟨some 23, none, .mv, [.tm 1]⟩, ⟨some 24, none, .call 111, [.tm 22, .tm 23]⟩, ⟨some 25, none, .fa 1, [.tm 2]⟩, ⟨some 26, none, .ld false 1 false, [.tm 25]⟩, ⟨some 27, none, .mv, [.tm 1]⟩, ⟨some 28, none, .call 111, [.tm 26, .tm 27]⟩, ⟨some 5, none, .mv, [.tm 24]⟩, ⟨some 6, none, .mv, [.tm 28]⟩] [] [1, 2, 4, 5, 6]) (.seq (.seq (.dreg [⟨some 29, none, .mv, [.tm 6]⟩, ⟨some 30, none, .mv, [.tm 6]⟩, ⟨some 31, none, .call 112, [.tm 29, .tm 30]⟩, ⟨some 32, none, .fa 1, [.tm 2]⟩, ⟨some 33, none, .ld false 1 false, [.tm 32]⟩, ⟨some 34, none, .mv, [.tm 1]⟩, ⟨some 35, none, .call 112, [.tm 33, .tm 34]⟩, ⟨some 36, none, .call 113, [.tm 31, .tm 35]⟩, ⟨some 37, none, .po (.bin .lss), [.tm 36, .cn (.n .i64 0)]⟩] [] [4, 5, 6, 37]) (.cond (.tm 37) (.reg [⟨some 38, none, .mv, [.tm 6]⟩, ⟨some 39, none, .po (.bin .add), [.tm 38, .cn (.n .i64 1)]⟩, ⟨some 6, none, .mv, [.tm 39]⟩] [4, 5, 6]) .skip)) (.seq (.reg [⟨some 40, none, .mv, [.tm 5]⟩, ⟨some 41, none, .mv, [.tm 6]⟩, ⟨some 42, none, .call 46, [.tm 40, .tm 41]⟩, ⟨none, none, .st 3, [.tm 4, .tm 42]⟩] [4]) .ret)))), [.cell 4 true 3]⟩
theorem of42 : Fn1.of Tryz.prog 42 ⟨false, [], false⟩ [[1, 2, 4], [1, 2, 4, 18], [4], [1, 2, 4, 5, 6], [4, 5, 6, 37], [4, 5, 6], [4]] = some F42 := by kernel_rfl
/-- The root, where lo, hi are roots of the ends. -/
theorem rootFix (lo hi : Int) (u : Bool) (unit : Int) (hu : fits unit) : ∃ r, rootB unit (normB lo hi u) r ∧ Pure Tryz.prog 42 [bdV lo hi u, .n .i64 unit] (encB r) := by
  rcases bd_cases lo hi u with ⟨h1, h2⟩ | ⟨h1, rfl, h3, h2⟩
  · rw [h1]
    refine ⟨none, rfl, ?_⟩
    refine pure_of_wp of42 (Nat.le_of_ble_eq_true rfl) ?_
    refine CallK.mk _ (vagueFix lo hi u lo hi u) rfl ?_
    rw [h1]
    repeat' (refine DecK.tt ?_)
    refine CallK.mk _ noneFix rfl ?_
    ((repeat' first | refine DecK.tt ?_ | refine DecK.ff ?_ | refine DecK.beq (fun _ => ?_) (fun _ => ?_) | refine DecK.bne (fun _ => ?_) (fun _ => ?_) | refine DecK.dec (fun _ => ?_) (fun _ => ?_) | refine OptK.mk _ rfl ?_ | refine endV (by rfl) ?_) <;> (try with_reducible rfl))
    rfl
  rw [h1]
  have h4 := h3
  unfold bval at h3
  by_cases g : unit < 1 ∨ hi < 0
  · refine ⟨none, Or.inl ⟨g, rfl⟩, ?_⟩
    refine pure_of_wp of42 (Nat.le_of_ble_eq_true rfl) ?_
    refine CallK.mk _ (vagueFix lo hi false lo hi false) rfl ?_
    rw [h1]
    refine DecK.ff ?_
    refine DecK.dec (fun k => ?_) (fun k => ?_)
    · repeat' (refine DecK.tt ?_)
      refine CallK.mk _ noneFix rfl ?_
      ((repeat' first | refine DecK.tt ?_ | refine DecK.ff ?_ | refine DecK.beq (fun _ => ?_) (fun _ => ?_) | refine DecK.bne (fun _ => ?_) (fun _ => ?_) | refine DecK.dec (fun _ => ?_) (fun _ => ?_) | refine OptK.mk _ rfl ?_ | refine endV (by rfl) ?_) <;> (try with_reducible rfl))
      rfl
    · refine DecK.yes (decide_eq_true (by omega)) ?_
      refine CallK.mk _ noneFix rfl ?_
      ((repeat' first | refine DecK.tt ?_ | refine DecK.ff ?_ | refine DecK.beq (fun _ => ?_) (fun _ => ?_) | refine DecK.bne (fun _ => ?_) (fun _ => ?_) | refine DecK.dec (fun _ => ?_) (fun _ => ?_) | refine OptK.mk _ rfl ?_ | refine endV (by rfl) ?_) <;> (try with_reducible rfl))
      rfl
  · obtain ⟨p, p0, p1, p2⟩ := sqrt_int (max lo 0 * unit) (Int.mul_nonneg (by omega) (by omega))
    obtain ⟨q, q0, q1, q2⟩ := sqrt_int (hi * unit) (Int.mul_nonneg (by omega) (by omega))
    have fu := hu
    unfold fits at fu
    have fp := root_fits (show fits (max lo 0) by unfold fits; omega) hu (by omega) (by omega) p0 p1
    have fq := root_fits (show fits hi by unfold fits; omega) hu (by omega) (by omega) q0 q1
    have t1 := sqrtMul_ok (max lo 0) unit p (by unfold fits; omega) hu (by omega) (by omega) p0 p1 p2
    have t2 := sqrtMul_ok hi unit q (by unfold fits; omega) hu (by omega) (by omega) q0 q1 q2
    have e1 : (if 0 > lo then 0 else lo) = max lo 0 := by omega
    have bq : q < 9223372036854775807 := by
      refine Int.lt_of_mul_lt_mul_left (a := 9223372036854775807) ?_ (by decide)
      refine Classical.byContradiction fun k => ?_
      have m1 := Int.mul_le_mul_of_nonneg_right (show hi ≤ 1152921504606846976 by omega) (show 0 ≤ unit by omega)
      have m2 : ¬ 9223372036854775807 ≤ q := fun m => by
        have := Int.mul_le_mul m m (by omega) q0
        omega
      omega
    refine ⟨mkB p (if q * q < hi * unit then q + 1 else q), Or.inr ⟨g, p, q, ⟨p0, p1, p2⟩, ⟨q0, q1, q2⟩, rfl⟩, ?_⟩
    have w1 : IntKind.i64.wrap (q + 1) = q + 1 := w64 (by omega)
    refine pure_of_wp of42 (Nat.le_of_ble_eq_true rfl) ?_
    refine CallK.mk _ (vagueFix lo hi false lo hi false) rfl ?_
    rw [h1]
    refine DecK.ff ?_
    refine DecK.no (decide_eq_false (by omega)) ?_
    refine DecK.no (decide_eq_false (by omega)) ?_
    refine CallK.mk _ (t1.args (by rw [← e1])) rfl ?_
    refine CallK.mk _ t2 rfl ?_
    refine CallK.mk _ (Product_ok q q fq fq) rfl ?_
    refine CallK.mk _ (Product_ok hi unit (by unfold fits; omega) hu) rfl ?_
    refine CallK.mk _ (wCmp_ok (q * q) (hi * unit)) rfl ?_
    refine DecK.dec (fun k => ?_) (fun k => ?_)
    · rw [if_pos (icmp_lt0.1 k)]
      refine CallK.mk _ ((ofFix p (q + 1)).args (by rw [w1])) rfl ?_
      ((repeat' first | refine DecK.tt ?_ | refine DecK.ff ?_ | refine DecK.beq (fun _ => ?_) (fun _ => ?_) | refine DecK.bne (fun _ => ?_) (fun _ => ?_) | refine DecK.dec (fun _ => ?_) (fun _ => ?_) | refine OptK.mk _ rfl ?_ | refine endV (by rfl) ?_) <;> (try with_reducible rfl))
      rfl
    · rw [if_neg fun j => k (icmp_lt0.2 j)]
      refine CallK.mk _ (ofFix p q) rfl ?_
      ((repeat' first | refine DecK.tt ?_ | refine DecK.ff ?_ | refine DecK.beq (fun _ => ?_) (fun _ => ?_) | refine DecK.bne (fun _ => ?_) (fun _ => ?_) | refine DecK.dec (fun _ => ?_) (fun _ => ?_) | refine OptK.mk _ rfl ?_ | refine endV (by rfl) ?_) <;> (try with_reducible rfl))
      rfl
end Go.Proofs.YtciigfeecmnghaaRRRRGreatRR.Sv
