/- Rotations: checks, the angle at a time. No condition. -/
import Derived.Test.YtpggblmopgfloaaFk
import Derived.Test.YtpggblmopgfloaaEa
namespace Go.Proofs.Ytpggblmopgfloaa.Sv
open Go Go.RowKit
set_option linter.unusedVariables false
set_option linter.unusedSimpArgs false
set_option maxRecDepth 100000
/-- spyglass/scale.CheckRate -/
def F76 : Fn1 := ⟨41, .seq (.reg [⟨some 1, none, .box, [.tm 0]⟩, ⟨some 2, none, .mv, [.cn (.n .i64 0)]⟩] [1]) (.seq (.seq (.reg [⟨some 4, none, .fa 2, [.tm 1]⟩, ⟨some 5, none, .ld true 2 false, [.tm 4]⟩, ⟨some 6, none, .call 58, [.tm 5]⟩, ⟨some 3, none, .mv, [.tm 6]⟩] [1, 3]) (.block 0 (.seq (.reg [⟨some 8, none, .fa 0, [.tm 1]⟩, ⟨some 9, none, .ld false 1 false, [.tm 8]⟩, ⟨some 10, none, .po (.bin .lss), [.tm 9, .cn (.n .i64 (-17592186044416))]⟩, ⟨some 11, none, .mv, [.tm 10]⟩, ⟨some 12, some (11, false), .fa 0, [.tm 1]⟩, ⟨some 13, some (11, false), .ld false 1 false, [.tm 12]⟩, ⟨some 14, some (11, false), .po (.bin .gtr), [.tm 13, .cn (.n .i64 17592186044416)]⟩, ⟨some 15, none, .pick, [.tm 11, .cn (.b true), .tm 14]⟩, ⟨some 16, none, .mv, [.tm 15]⟩, ⟨some 17, some (16, false), .fa 1, [.tm 1]⟩, ⟨some 18, some (16, false), .ld false 1 false, [.tm 17]⟩, ⟨some 19, some (16, false), .po (.bin .lss), [.tm 18, .cn (.n .i64 0)]⟩, ⟨some 20, none, .pick, [.tm 16, .cn (.b true), .tm 19]⟩, ⟨some 21, none, .mv, [.tm 20]⟩, ⟨some 22, some (21, false), .fa 1, [.tm 1]⟩, ⟨some 23, some (21, false), .ld false 1 false, [.tm 22]⟩, ⟨some 24, some (21, false), .po (.bin .geq), [.tm 23, .cn (.n .i64 4294967296)]⟩, ⟨some 25, none, .pick, [.tm 21, .cn (.b true), .tm 24]⟩, ⟨some 7, none, .mv, [.tm 25]⟩] [1, 3, 7]) (.cond (.tm 7) (.seq (.reg [⟨some 2, none, .mv, [.cn (.n .i64 4)]⟩] [2]) .ret) (.seq (.reg [⟨some 27, none, .mv, [.tm 3]⟩, ⟨some 28, none, .po (.bin .neq), [.tm 27, .cn (.n .i64 0)]⟩, ⟨some 26, none, .mv, [.tm 28]⟩] [1, 3, 26]) (.cond (.tm 26) (.seq (.reg [⟨some 29, none, .mv, [.tm 3]⟩, ⟨some 2, none, .mv, [.tm 29]⟩] [2]) .ret) (.seq (.reg [⟨some 31, none, .fa 2, [.tm 1]⟩, ⟨some 32, none, .fa 0, [.tm 31]⟩, ⟨some 33, none, .ld false 1 false, [.tm 32]⟩, ⟨some 34, none, .po (.bin .lss), [.tm 33, .cn (.n .i64 1)]⟩, ⟨some 35, none, .mv, [.tm 34]⟩, ⟨some 36, some (35, false), .fa 2, [.tm 1]⟩, ⟨some 37, some (35, false), .ld true 2 false, [.tm 36]⟩, ⟨some 38, some (35, false), .call 54, [.tm 37]⟩, ⟨some 39, some (35, false), .po (.bin .gtr), [.tm 38, .cn (.n .i64 65536)]⟩, ⟨some 40, none, .pick, [.tm 35, .cn (.b true), .tm 39]⟩, ⟨some 30, none, .mv, [.tm 40]⟩] [30]) (.cond (.tm 30) (.seq (.reg [⟨some 2, none, .mv, [.cn (.n .i64 1)]⟩] [2]) .ret) .skip)))))))) (.seq (.reg [⟨some 2, none, .mv, [.cn (.n .i64 0)]⟩] [2]) .ret)), [.tm 2]⟩
theorem of76 : Fn1.of Try.prog 76 ⟨false, [], false⟩ [[1], [1, 3], [1, 3, 7], [2], [1, 3, 26], [2], [30], [2], [2]] = some F76 := by kernel_rfl
/-- spyglass/spyref1.RateErr -/
def F64 : Fn1 := ⟨46, .seq (.reg [⟨some 1, none, .box, [.tm 0]⟩, ⟨some 2, none, .mv, [.cn (.n .i64 0)]⟩] [1]) (.seq (.seq (.reg [⟨some 4, none, .fa 0, [.tm 1]⟩, ⟨some 5, none, .ld false 1 false, [.tm 4]⟩, ⟨some 6, none, .po (.bin .gtr), [.tm 5, .cn (.n .i64 17592186044416)]⟩, ⟨some 7, none, .mv, [.tm 6]⟩, ⟨some 8, some (7, false), .fa 0, [.tm 1]⟩, ⟨some 9, some (7, false), .ld false 1 false, [.tm 8]⟩, ⟨some 10, some (7, false), .po (.bin .lss), [.tm 9, .cn (.n .i64 (-17592186044416))]⟩, ⟨some 11, none, .pick, [.tm 7, .cn (.b true), .tm 10]⟩, ⟨some 12, none, .mv, [.tm 11]⟩, ⟨some 13, some (12, false), .fa 1, [.tm 1]⟩, ⟨some 14, some (12, false), .ld false 1 false, [.tm 13]⟩, ⟨some 15, some (12, false), .po (.bin .lss), [.tm 14, .cn (.n .i64 0)]⟩, ⟨some 16, none, .pick, [.tm 12, .cn (.b true), .tm 15]⟩, ⟨some 17, none, .mv, [.tm 16]⟩, ⟨some 18, some (17, false), .fa 1, [.tm 1]⟩, ⟨some 19, some (17, false), .ld false 1 false, [.tm 18]⟩, ⟨some 20, some (17, false), .po (.bin .geq), [.tm 19, .cn (.n .i64 4294967296)]⟩, ⟨some 21, none, .pick, [.tm 17, .cn (.b true), .tm 20]⟩] [1, 21]) (.cond (.tm 21) (.seq (.reg [⟨some 2, none, .mv, [.cn (.n .i64 4)]⟩] [2]) .ret) .skip)) (.seq (.seq (.reg [⟨some 22, none, .fa 2, [.tm 1]⟩, ⟨some 23, none, .ld true 2 false, [.tm 22]⟩, ⟨some 24, none, .call 46, [.tm 23]⟩, ⟨some 3, none, .mv, [.tm 24]⟩] [1, 3]) (.seq (.reg [⟨some 25, none, .mv, [.tm 3]⟩, ⟨some 26, none, .po (.bin .neq), [.tm 25, .cn (.n .i64 0)]⟩] [1, 3, 26]) (.cond (.tm 26) (.seq (.reg [⟨some 27, none, .mv, [.tm 3]⟩, ⟨some 2, none, .mv, [.tm 27]⟩] [2]) .ret) .skip))) (.seq (.seq (.dreg [⟨some 28, none, .fa 2, [.tm 1]⟩, ⟨some 29, none, .fa 0, [.tm 28]⟩, ⟨some 30, none, .ld false 1 false, [.tm 29]⟩, ⟨some 31, none, .po (.bin .leq), [.tm 30, .cn (.n .i64 0)]⟩, ⟨some 32, none, .mv, [.tm 31]⟩, ⟨some 33, some (32, false), .fa 2, [.tm 1]⟩, ⟨some 34, some (32, false), .fa 0, [.tm 33]⟩, ⟨some 35, some (32, false), .ld false 1 false, [.tm 34]⟩, ⟨some 36, some (32, false), .call 16, [.tm 35]⟩, ⟨some 37, some (32, false), .fa 2, [.tm 1]⟩, ⟨some 38, some (32, false), .fa 1, [.tm 37]⟩, ⟨some 39, some (32, false), .ld false 1 false, [.tm 38]⟩, ⟨some 40, some (32, false), .call 16, [.tm 39]⟩, ⟨some 41, some (32, false), .call 16, [.cn (.n .i64 65536)]⟩, ⟨some 42, some (32, false), .call 50, [.tm 40, .tm 41]⟩, ⟨some 43, some (32, false), .call 14, [.tm 36, .tm 42]⟩, ⟨some 44, some (32, false), .po (.bin .gtr), [.tm 43, .cn (.n .i64 0)]⟩, ⟨some 45, none, .pick, [.tm 32, .cn (.b true), .tm 44]⟩] [] [45]) (.cond (.tm 45) (.seq (.reg [⟨some 2, none, .mv, [.cn (.n .i64 1)]⟩] [2]) .ret) .skip)) (.seq (.reg [⟨some 2, none, .mv, [.cn (.n .i64 0)]⟩] [2]) .ret)))), [.tm 2]⟩
theorem of64 : Fn1.of Try.prog 64 ⟨false, [], false⟩ [[1], [1, 21], [2], [1, 3], [1, 3, 26], [2], [45], [2], [2]] = some F64 := by kernel_rfl
/-- spyglass/scale.angle -/
def F111 : Fn1 := ⟨25, .seq (.reg [⟨some 2, none, .box, [.tm 0]⟩, ⟨some 4, none, .mv, [.cn (.n .i64 0)]⟩] [1, 2]) (.seq (.reg [⟨some 8, none, .mv, [.tm 1]⟩, ⟨some 9, none, .fa 0, [.tm 2]⟩, ⟨some 10, none, .ld false 1 false, [.tm 9]⟩, ⟨some 11, none, .po (.bin .sub), [.tm 8, .tm 10]⟩, ⟨some 12, none, .fa 2, [.tm 2]⟩, ⟨some 13, none, .fa 0, [.tm 12]⟩, ⟨some 14, none, .ld false 1 false, [.tm 13]⟩, ⟨some 15, none, .fa 2, [.tm 2]⟩, ⟨some 16, none, .fa 1, [.tm 15]⟩, ⟨some 17, none, .ld false 1 false, [.tm 16]⟩, ⟨some 18, none, .call 122, [.tm 11, .tm 14, .tm 17]⟩, ⟨some 7, none, .mv, [.tm 18]⟩, ⟨some 19, none, .po (.ext 0), [.tm 7]⟩, ⟨some 20, none, .po (.ext 1), [.tm 7]⟩, ⟨some 5, none, .mv, [.tm 19]⟩, ⟨some 6, none, .mv, [.tm 20]⟩] [2, 5]) (.seq (.reg [⟨some 21, none, .mv, [.tm 5]⟩, ⟨some 22, none, .fa 1, [.tm 2]⟩, ⟨some 23, none, .ld false 1 false, [.tm 22]⟩, ⟨some 24, none, .po (.bin .add), [.tm 21, .tm 23]⟩, ⟨some 4, none, .mv, [.tm 24]⟩] [4]) .ret)), [.tm 4]⟩
theorem of111 : Fn1.of Try.prog 111 ⟨false, [], false⟩ [[1, 2], [2, 5], [4]] = some F111 := by kernel_rfl
/-- spyglass/scale.Angle -/
def F80 : Fn1 := ⟨20, .seq (.reg [⟨some 2, none, .box, [.tm 0]⟩, ⟨some 4, none, .mv, [.cn (.n .i64 0)]⟩] [1, 2]) (.seq (.seq (.reg [⟨some 5, none, .ld true 4 false, [.tm 2]⟩, ⟨some 6, none, .call 76, [.tm 5]⟩, ⟨some 7, none, .po (.bin .neq), [.tm 6, .cn (.n .i64 0)]⟩, ⟨some 8, none, .mv, [.tm 7]⟩, ⟨some 9, some (8, false), .mv, [.tm 1]⟩, ⟨some 10, some (8, false), .po (.bin .lss), [.tm 9, .cn (.n .i64 (-17592186044416))]⟩, ⟨some 11, none, .pick, [.tm 8, .cn (.b true), .tm 10]⟩, ⟨some 12, none, .mv, [.tm 11]⟩, ⟨some 13, some (12, false), .mv, [.tm 1]⟩, ⟨some 14, some (12, false), .po (.bin .gtr), [.tm 13, .cn (.n .i64 17592186044416)]⟩, ⟨some 15, none, .pick, [.tm 12, .cn (.b true), .tm 14]⟩] [1, 2, 15]) (.cond (.tm 15) (.seq (.reg [⟨some 4, none, .mv, [.cn (.n .i64 0)]⟩] [4]) .ret) .skip)) (.seq (.reg [⟨some 16, none, .ld true 4 false, [.tm 2]⟩, ⟨some 17, none, .mv, [.tm 1]⟩, ⟨some 18, none, .call 111, [.tm 16, .tm 17]⟩, ⟨some 19, none, .call 112, [.tm 18, .cn (.n .i64 4294967296)]⟩, ⟨some 4, none, .mv, [.tm 19]⟩] [4]) .ret)), [.tm 4]⟩
theorem of80 : Fn1.of Try.prog 80 ⟨false, [], false⟩ [[1, 2], [1, 2, 15], [4], [4]] = some F80 := by kernel_rfl
/-- spyglass/spyref1.Turned -/
def F74 : Fn1 := ⟨31, .seq (.reg [⟨some 3, none, .box, [.tm 0]⟩, ⟨some 4, none, .box, [.tm 1]⟩, ⟨some 6, none, .alloc [.b false, .sl 0 [] true], []⟩] [2, 3, 4, 6]) (.seq (.dreg [⟨some 8, none, .ld true 2 false, [.tm 4]⟩, ⟨some 9, none, .fa 0, [.tm 3]⟩, ⟨some 10, none, .ld false 1 false, [.tm 9]⟩, ⟨some 11, none, .call 16, [.tm 10]⟩, ⟨some 12, none, .call 30, [.tm 8, .tm 11]⟩, ⟨some 13, none, .fa 2, [.tm 3]⟩, ⟨some 14, none, .fa 0, [.tm 13]⟩, ⟨some 15, none, .ld false 1 false, [.tm 14]⟩, ⟨some 16, none, .call 16, [.tm 15]⟩, ⟨some 17, none, .call 50, [.tm 12, .tm 16]⟩, ⟨some 7, none, .alloc [.b false, .sl 0 [] true], []⟩, ⟨none, none, .st 2, [.tm 7, .tm 17]⟩] [] [2, 3, 6, 7]) (.seq (.seq (.reg [⟨some 18, none, .mv, [.tm 2]⟩] [3, 6, 7, 18]) (.cond (.tm 18) (.seq (.dreg [⟨some 19, none, .ld true 2 false, [.tm 7]⟩, ⟨some 20, none, .fa 2, [.tm 3]⟩, ⟨some 21, none, .fa 1, [.tm 20]⟩, ⟨some 22, none, .ld false 1 false, [.tm 21]⟩, ⟨some 23, none, .call 16, [.tm 22]⟩, ⟨some 24, none, .call 48, [.tm 19, .tm 23]⟩, ⟨none, none, .st 2, [.tm 6, .tm 24]⟩] [] [6]) .ret) .skip)) (.seq (.dreg [⟨some 25, none, .ld true 2 false, [.tm 7]⟩, ⟨some 26, none, .fa 2, [.tm 3]⟩, ⟨some 27, none, .fa 1, [.tm 26]⟩, ⟨some 28, none, .ld false 1 false, [.tm 27]⟩, ⟨some 29, none, .call 16, [.tm 28]⟩, ⟨some 30, none, .call 47, [.tm 25, .tm 29]⟩, ⟨none, none, .st 2, [.tm 6, .tm 30]⟩] [] [6]) .ret))), [.cell 6 true 2]⟩
theorem of74 : Fn1.of Try.prog 74 ⟨false, [], false⟩ [[2, 3, 4, 6], [2, 3, 6, 7], [3, 6, 7, 18], [6], [6]] = some F74 := by kernel_rfl
abbrev rateC (t0 a0 n d : Int) : List V := [.n .i64 t0, .n .i64 a0, .n .i64 n, .n .i64 d]
abbrev rateV (t0 a0 n d : Int) : V := .agg (rateC t0 a0 n d)
def rateErr (t0 a0 n d : Int) : Int := if t0 < -17592186044416 ∨ t0 > 17592186044416 ∨ a0 < 0 ∨ a0 ≥ 4294967296 then 4 else if frErr n d ≠ 0 then frErr n d else if n < 1 ∨ rouF n d (cdiv n d) > 65536 then 1 else 0
theorem rate_top {n d : Int} (h : frErr n d = 0) : rouF n d (cdiv n d) > 65536 ↔ icmp n (d * 65536) > 0 := by
  have hd := (frErr_0 h).2.1
  rw [rouF, if_neg (by simpa using h), icmp_gt0]
  obtain ⟨q, r, g1, g2, g3, g4, g5, g6⟩ := quo_all (a := n) (b := d) (by omega)
  unfold cdiv
  constructor
  · intro k
    refine Classical.byContradiction fun j => ?_
    have := Int.le_ediv_of_mul_le (show 0 < d by omega) (show -65536 * d ≤ -n by omega)
    omega
  · intro k
    refine Classical.byContradiction fun j => ?_
    have h1 := Int.mul_le_mul_of_nonneg_right (show -65536 ≤ -n / d by omega) (show 0 ≤ d by omega)
    have h2 := Int.ediv_mul_le (-n) (show d ≠ 0 by omega)
    omega
theorem rateCheck (t0 a0 n d : Int) (hn : fits n) (hd : fits d) : Pure Try.prog 76 [rateV t0 a0 n d] (.n .i64 (rateErr t0 a0 n d)) := by
  have hc := frCeil_ok n d hn hd
  refine pure_of_wp of76 (Nat.le_of_ble_eq_true rfl) ?_
  refine CallK.mk _ (frCheck_ok n d hn hd) rfl ?_
  unfold rateErr
  repeat' first | (refine CallK.mk _ hc rfl ?_) | refine DecK.tt ?_ | refine DecK.ff ?_ | refine DecK.beq (fun _ => ?_) (fun _ => ?_) | refine DecK.bne (fun _ => ?_) (fun _ => ?_) | refine DecK.dec (fun _ => ?_) (fun _ => ?_) | refine OptK.mk _ rfl ?_ | refine endV (by rfl) ?_
  all_goals try simp only [V.n.injEq, true_and]
  all_goals omega
theorem rateErr2 (t0 a0 n d : Int) (hn : fits n) (hd : fits d) : Pure Try.prog 64 [rateV t0 a0 n d] (.n .i64 (rateErr t0 a0 n d)) := by
  have i1 := I_ok n hn
  have i2 := I_ok d hd
  have i3 := I_ok 65536 (by decide)
  have zd : zb 5 d := hd.zb.mono (by decide)
  have i4 := Times_ok d 65536 (zd.mono (by decide)) (by first | exact (zb_64 (by omega)).mono (by decide) | exact ((zb_64 (by omega)).mul (zb_64 (by omega))).mono (by decide))
  have i5 := Cmp_ok n (d * 65536) (hn.zb.mono (by decide)) ((zd.mul (zb_64 (n := 65536) (by decide))).mono (by decide))
  have ht : frErr n d = 0 → (rouF n d (cdiv n d) > 65536 ↔ icmp n (d * 65536) > 0) := rate_top
  refine pure_of_wp of64 (Nat.le_of_ble_eq_true rfl) ?_
  unfold rateErr
  repeat' first | (refine CallK.mk _ (fracErr_ok n d hn hd) rfl ?_) | (refine CallK.mk _ i1 rfl ?_) | (refine CallK.mk _ i2 rfl ?_) | (refine CallK.mk _ i3 rfl ?_) | (refine CallK.mk _ i4 rfl ?_) | (refine CallK.mk _ i5 rfl ?_) | refine DecK.tt ?_ | refine DecK.ff ?_ | refine DecK.beq (fun _ => ?_) (fun _ => ?_) | refine DecK.bne (fun _ => ?_) (fun _ => ?_) | refine DecK.dec (fun _ => ?_) (fun _ => ?_) | refine OptK.mk _ rfl ?_ | refine endV (by rfl) ?_
  all_goals try simp only [V.n.injEq, true_and]
  all_goals generalize icmp n (d * 65536) = c at *
  all_goals generalize rouF n d (cdiv n d) = c' at *
  all_goals generalize frErr n d = e at *
  all_goals clear i4 i5
  all_goals omega
structure RateIn (t0 a0 n d : Int) : Prop where
  ht : -17592186044416 ≤ t0 ∧ t0 ≤ 17592186044416
  ha : 0 ≤ a0 ∧ a0 < 4294967296
  hn : 1 ≤ n ∧ n ≤ 1152921504606846976
  hd : 1 ≤ d ∧ d ≤ 1152921504606846976
  hr : n ≤ d * 65536
theorem rate_in {t0 a0 n d : Int} (h : rateErr t0 a0 n d = 0) : RateIn t0 a0 n d := by
  have h1 : frErr n d = 0 := by unfold rateErr at h; omega
  have ht := rate_top h1
  obtain ⟨bn, bd, _⟩ := frErr_0 h1
  rw [icmp_gt0] at ht
  unfold rateErr at h
  generalize rouF n d (cdiv n d) = c' at *
  exact ⟨by omega, by omega, by omega, by omega, by omega⟩
/-- The angle at a time, without that at the beginning. -/
theorem turn_in {t0 a0 n d t T : Int} (h : RateIn t0 a0 n d) (hT : 0 ≤ T) (ht : -T ≤ t - t0 ∧ t - t0 ≤ T) : -(T * 65536) ≤ (t - t0) * n / d ∧ (t - t0) * n / d ≤ T * 65536 := by
  have h1 := h.hn
  have h2 := h.hd
  have h3 := h.hr
  have m := mulI (a := t - t0) (b := n) (A := T) (B := d * 65536) ht (by omega)
  have e : T * (d * 65536) = T * 65536 * d := by grind
  constructor
  · refine Int.le_ediv_of_mul_le (by omega) ?_
    rw [Int.neg_mul]; omega
  · refine Int.ediv_le_of_le_mul (by omega) ?_
    omega
theorem angle_ok {t0 a0 n d : Int} (h : RateIn t0 a0 n d) (t : Int) (ht : -17592186044416 ≤ t ∧ t ≤ 17592186044416) : Pure Try.prog 111 [rateV t0 a0 n d, .n .i64 t] (.n .i64 ((t - t0) * n / d + a0)) := by
  obtain ⟨h1, h2, h3, h4, h5⟩ := h
  have b := turn_in ⟨h1, h2, h3, h4, h5⟩ (t := t) (T := 35184372088832) (by decide) (by omega)
  have k := mulDiv_ok (t - t0) n d (by unfold fits; omega) (by unfold fits; omega) (by unfold fits; omega)
  rw [quoT, if_neg (by omega), if_pos (by unfold fits; omega)] at k
  have w1 : IntKind.i64.wrap (t - t0) = t - t0 := w64 (by omega)
  have w2 : IntKind.i64.wrap ((t - t0) * n / d + a0) = (t - t0) * n / d + a0 := w64 (by omega)
  refine pure_of_wp of111 (Nat.le_of_ble_eq_true rfl) ?_
  refine CallK.mk _ (k.args (by rw [w1] <;> rfl)) rfl ?_
  ((repeat' first | refine DecK.tt ?_ | refine DecK.ff ?_ | refine DecK.beq (fun _ => ?_) (fun _ => ?_) | refine DecK.bne (fun _ => ?_) (fun _ => ?_) | refine DecK.dec (fun _ => ?_) (fun _ => ?_) | refine OptK.mk _ rfl ?_ | refine endV (by rfl) ?_) <;> (try with_reducible rfl))
  rw [w2]
def angleF (t0 a0 n d t : Int) : Int := if rateErr t0 a0 n d ≠ 0 ∨ t < -17592186044416 ∨ t > 17592186044416 then 0 else ((t - t0) * n / d + a0) % 4294967296
theorem Angle_ok (t0 a0 n d : Int) (hn : fits n) (hd : fits d) (t : Int) : Pure Try.prog 80 [rateV t0 a0 n d, .n .i64 t] (.n .i64 (angleF t0 a0 n d t)) := by
  refine pure_of_wp of80 (Nat.le_of_ble_eq_true rfl) ?_
  refine CallK.mk _ (rateCheck t0 a0 n d hn hd) rfl ?_
  unfold angleF
  by_cases g : rateErr t0 a0 n d ≠ 0 ∨ t < -17592186044416 ∨ t > 17592186044416
  · rw [if_pos g]
    refine DecK.bne (fun g1 => ?_) (fun g1 => ?_)
    · repeat' (refine DecK.tt ?_)
      ((repeat' first | refine DecK.tt ?_ | refine DecK.ff ?_ | refine DecK.beq (fun _ => ?_) (fun _ => ?_) | refine DecK.bne (fun _ => ?_) (fun _ => ?_) | refine DecK.dec (fun _ => ?_) (fun _ => ?_) | refine OptK.mk _ rfl ?_ | refine endV (by rfl) ?_) <;> (try with_reducible rfl))
    refine DecK.dec (fun g2 => ?_) (fun g2 => ?_)
    · repeat' (refine DecK.tt ?_)
      ((repeat' first | refine DecK.tt ?_ | refine DecK.ff ?_ | refine DecK.beq (fun _ => ?_) (fun _ => ?_) | refine DecK.bne (fun _ => ?_) (fun _ => ?_) | refine DecK.dec (fun _ => ?_) (fun _ => ?_) | refine OptK.mk _ rfl ?_ | refine endV (by rfl) ?_) <;> (try with_reducible rfl))
    refine DecK.yes (decide_eq_true (by omega)) ?_
    ((repeat' first | refine DecK.tt ?_ | refine DecK.ff ?_ | refine DecK.beq (fun _ => ?_) (fun _ => ?_) | refine DecK.bne (fun _ => ?_) (fun _ => ?_) | refine DecK.dec (fun _ => ?_) (fun _ => ?_) | refine OptK.mk _ rfl ?_ | refine endV (by rfl) ?_) <;> (try with_reducible rfl))
  · rw [if_neg g]
    have g0 : rateErr t0 a0 n d = 0 := by omega
    have hi := rate_in g0
    refine DecK.bne (fun g1 => absurd g0 g1) (fun g1 => ?_)
    refine DecK.no (decide_eq_false (by omega)) ?_
    refine DecK.no (decide_eq_false (by omega)) ?_
    have b := turn_in hi (t := t) (T := 35184372088832) (by decide) (by have := hi.ht; omega)
    have k := mod_ok ((t - t0) * n / d + a0) 4294967296 (by have := hi.ha; unfold fits; omega) (by decide)
    rw [if_neg (by decide)] at k
    refine CallK.mk _ (angle_ok hi t (by omega)) rfl ?_
    refine CallK.mk _ k rfl ?_
    ((repeat' first | refine DecK.tt ?_ | refine DecK.ff ?_ | refine DecK.beq (fun _ => ?_) (fun _ => ?_) | refine DecK.bne (fun _ => ?_) (fun _ => ?_) | refine DecK.dec (fun _ => ?_) (fun _ => ?_) | refine OptK.mk _ rfl ?_ | refine endV (by rfl) ?_) <;> (try with_reducible rfl))
theorem Turned_ok {t0 a0 n d : Int} (h : RateIn t0 a0 n d) (t : Int) (ht : -1267650600228229401496703205376 ≤ t ∧ t ≤ 1267650600228229401496703205376) (up : Bool) :
    Pure Try.prog 74 [rateV t0 a0 n d, zV t, .b up] (zV (if up then cdiv ((t - t0) * n) d else (t - t0) * n / d)) := by
  obtain ⟨h1, h2, h3, h4, h5⟩ := h
  have z1 : zb 6 (t - t0) := by unfold zb; omega
  have z2 : zb 4 n := zb_64 (by omega)
  have z3 : zb 6 t := by unfold zb; omega
  have z4 : zb 4 d := zb_64 (by omega)
  refine pure_of_wp of74 (Nat.le_of_ble_eq_true rfl) ?_
  refine CallK.mk _ (I_ok t0 (by omega)) rfl ?_
  refine CallK.mk _ (Less_ok t t0 (z3.mono (by decide)) (by first | exact (zb_64 (by omega)).mono (by decide) | exact ((zb_64 (by omega)).mul (zb_64 (by omega))).mono (by decide))) rfl ?_
  refine CallK.mk _ (I_ok n (by omega)) rfl ?_
  refine CallK.mk _ (Times_ok (t - t0) n (z1.mono (by decide)) (z2.mono (by decide))) rfl ?_
  refine OptK.mk _ rfl ?_
  cases up
  · refine DecK.ff ?_
    refine CallK.mk _ (I_ok d (by omega)) rfl ?_
    refine CallK.mk _ (Floor_ok _ d ((z1.mul z2).mono (by decide)) (z4.mono (by decide)) (by omega)) rfl ?_
    refine OptK.mk _ rfl ?_
    ((repeat' first | refine DecK.tt ?_ | refine DecK.ff ?_ | refine DecK.beq (fun _ => ?_) (fun _ => ?_) | refine DecK.bne (fun _ => ?_) (fun _ => ?_) | refine DecK.dec (fun _ => ?_) (fun _ => ?_) | refine OptK.mk _ rfl ?_ | refine endV (by rfl) ?_) <;> (try with_reducible rfl))
    rfl
  · refine DecK.tt ?_
    refine CallK.mk _ (I_ok d (by omega)) rfl ?_
    refine CallK.mk _ (Ceil_ok _ d ((z1.mul z2).mono (by decide)) (z4.mono (by decide)) (by omega)) rfl ?_
    refine OptK.mk _ rfl ?_
    ((repeat' first | refine DecK.tt ?_ | refine DecK.ff ?_ | refine DecK.beq (fun _ => ?_) (fun _ => ?_) | refine DecK.bne (fun _ => ?_) (fun _ => ?_) | refine DecK.dec (fun _ => ?_) (fun _ => ?_) | refine OptK.mk _ rfl ?_ | refine endV (by rfl) ?_) <;> (try with_reducible rfl))
    rfl
theorem Turned_dn {t0 a0 n d : Int} (h : RateIn t0 a0 n d) (t : Int) (ht : -1267650600228229401496703205376 ≤ t ∧ t ≤ 1267650600228229401496703205376) : Pure Try.prog 74 [rateV t0 a0 n d, zV t, .b false] (zV ((t - t0) * n / d)) := Turned_ok h t ht false
theorem Turned_up {t0 a0 n d : Int} (h : RateIn t0 a0 n d) (t : Int) (ht : -1267650600228229401496703205376 ≤ t ∧ t ≤ 1267650600228229401496703205376) : Pure Try.prog 74 [rateV t0 a0 n d, zV t, .b true] (zV (cdiv ((t - t0) * n) d)) := Turned_ok h t ht true
end Go.Proofs.Ytpggblmopgfloaa.Sv
