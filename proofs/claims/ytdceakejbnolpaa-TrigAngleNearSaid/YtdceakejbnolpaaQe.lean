/- Angles: the reference's Eighth and Angle; the statement on Atan2. No condition. -/
import Derived.Test.YtdceakejbnolpaaQd
namespace Go.Proofs.Ytdceakejbnolpaa.Sv
open Go Go.RowKit
set_option linter.unusedVariables false
set_option linter.unusedSimpArgs false
set_option maxRecDepth 100000
/-- live: [0, 1, 5, 6] -/
def L71_0 : SC := .seq (.seq (.reg [⟨some 8, none, .mv, [.tm 6]⟩, ⟨some 9, none, .po (.bin .gtr), [.tm 8, .cn (.n .i64 0)]⟩] [0, 1, 5, 6, 9]) (.cond (.tm 9) .skip (.exit 0))) (.seq (.block 1 (.seq (.reg [⟨some 12, none, .mv, [.tm 5]⟩, ⟨some 13, none, .mv, [.tm 6]⟩, ⟨some 14, none, .po (.bin .add), [.tm 12, .tm 13]⟩, ⟨some 7, none, .mv, [.tm 14]⟩] [0, 1, 5, 6, 7]) (.seq (.reg [⟨some 15, none, .mv, [.tm 7]⟩, ⟨some 16, none, .po (.bin .leq), [.tm 15, .cn (.n .i64 536870912)]⟩, ⟨some 17, none, .mv, [.tm 16]⟩, ⟨some 18, some (17, true), .mv, [.tm 7]⟩, ⟨some 19, some (17, true), .call 105, [.tm 18]⟩, ⟨some 20, some (17, true), .call 15, [.tm 19]⟩, ⟨some 21, some (17, true), .mv, [.tm 1]⟩, ⟨some 22, some (17, true), .call 15, [.tm 21]⟩, ⟨some 23, some (17, true), .call 16, [.tm 20, .tm 22]⟩, ⟨some 24, some (17, true), .mv, [.tm 7]⟩, ⟨some 25, some (17, true), .po (.bin .sub), [.cn (.n .i64 1073741824), .tm 24]⟩, ⟨some 26, some (17, true), .call 105, [.tm 25]⟩, ⟨some 27, some (17, true), .call 15, [.tm 26]⟩, ⟨some 28, some (17, true), .mv, [.tm 0]⟩, ⟨some 29, some (17, true), .call 15, [.tm 28]⟩, ⟨some 30, some (17, true), .call 16, [.tm 27, .tm 29]⟩, ⟨some 31, some (17, true), .call 21, [.tm 23, .tm 30]⟩, ⟨some 32, some (17, true), .po (.bin .leq), [.tm 31, .cn (.n .i64 0)]⟩, ⟨some 33, none, .pick, [.tm 17, .tm 32, .cn (.b false)]⟩] [0, 1, 5, 6, 7, 33]) (.cond (.tm 33) (.reg [⟨some 34, none, .mv, [.tm 7]⟩, ⟨some 5, none, .mv, [.tm 34]⟩] [0, 1, 5, 6]) .skip)))) (.reg [⟨some 10, none, .mv, [.tm 6]⟩, ⟨some 11, none, .po (.bin .shr), [.tm 10, .cn (.n .u64 1)]⟩, ⟨some 6, none, .mv, [.tm 11]⟩] [0, 1, 5, 6]))
/-- spyglass/spyref1.Eighth -/
def F71 : Fn1 := ⟨36, .seq (.reg [⟨some 4, none, .mv, [.cn (.n .i64 0)]⟩] [0, 1]) (.seq (.reg [⟨some 5, none, .mv, [.cn (.n .i64 0)]⟩] [0, 1, 5]) (.seq (.seq (.reg [⟨some 6, none, .mv, [.cn (.n .i64 536870912)]⟩] [0, 1, 5, 6]) (.block 0 (.loop [0, 1, 5, 6] L71_0))) (.seq (.reg [⟨some 35, none, .mv, [.tm 5]⟩, ⟨some 4, none, .mv, [.tm 35]⟩] [4]) .ret))), [.tm 4]⟩
theorem of71 : Fn1.of Try.prog 71 ⟨false, [], false⟩ [[0, 1], [0, 1, 5], [0, 1, 5, 6], [0, 1, 5, 6], [0, 1, 5, 6, 9], [0, 1, 5, 6, 7], [0, 1, 5, 6, 7, 33], [0, 1, 5, 6], [0, 1, 5, 6], [4]] = some F71 := by kernel_rfl
/-- live: [0, 1, 13, 14, 15] -/
def L27_0 : SC := .seq (.reg [⟨some 16, none, .po (.bin .lss), [.tm 15, .tm 14]⟩] [0, 1, 13, 14, 15, 16]) (.seq (.cond (.tm 16) .skip (.exit 0)) (.seq (.block 1 (.seq (.reg [⟨some 17, none, .ia none 1, [.tm 13, .tm 15]⟩, ⟨some 18, none, .ld false 1 true, [.tm 17]⟩, ⟨some 7, none, .mv, [.tm 18]⟩] [0, 1, 7, 13, 14, 15]) (.seq (.reg [⟨some 19, none, .mv, [.tm 7]⟩, ⟨some 20, none, .po (.bin .gtr), [.tm 19, .cn (.n .i64 4294967296)]⟩, ⟨some 21, none, .mv, [.tm 20]⟩, ⟨some 22, some (21, false), .mv, [.tm 7]⟩, ⟨some 23, some (21, false), .po (.bin .lss), [.tm 22, .cn (.n .i64 (-4294967296))]⟩, ⟨some 24, none, .pick, [.tm 21, .cn (.b true), .tm 23]⟩] [0, 1, 13, 14, 15, 24]) (.cond (.tm 24) (.seq (.reg [⟨some 4, none, .mv, [.cn (.n .i64 0)]⟩, ⟨some 5, none, .mv, [.cn (.n .i64 4)]⟩] [4, 5]) .ret) .skip)))) (.reg [⟨some 25, none, .po (.bin .add), [.tm 15, .cn (.n .i64 1)]⟩, ⟨some 15, none, .mv, [.tm 25]⟩] [0, 1, 13, 14, 15])))
/-- spyglass/spyref1.Angle -/
def F27 : Fn1 := ⟨76, .seq (.reg [⟨some 4, none, .mv, [.cn (.n .i64 0)]⟩, ⟨some 5, none, .mv, [.cn (.n .i64 0)]⟩] [0, 1]) (.seq (.seq (.reg [⟨some 11, none, .mv, [.tm 1]⟩, ⟨some 12, none, .mv, [.tm 0]⟩, ⟨some 13, none, .po (.bsl 2 [.n .i64 0] [(0, 1), (1, 1)]), [.tm 11, .tm 12]⟩, ⟨some 14, none, .len false, [.tm 13]⟩, ⟨some 15, none, .mv, [.cn (.n .i64 0)]⟩] [0, 1, 13, 14, 15]) (.block 0 (.loop [0, 1, 13, 14, 15] L27_0))) (.seq (.seq (.reg [⟨some 26, none, .mv, [.tm 1]⟩, ⟨some 27, none, .po (.bin .eql), [.tm 26, .cn (.n .i64 0)]⟩, ⟨some 28, none, .mv, [.tm 27]⟩, ⟨some 29, some (28, true), .mv, [.tm 0]⟩, ⟨some 30, some (28, true), .po (.bin .eql), [.tm 29, .cn (.n .i64 0)]⟩, ⟨some 31, none, .pick, [.tm 28, .tm 30, .cn (.b false)]⟩] [0, 1, 31]) (.cond (.tm 31) (.seq (.reg [⟨some 4, none, .mv, [.cn (.n .i64 0)]⟩, ⟨some 5, none, .mv, [.cn (.n .i64 8)]⟩] [4, 5]) .ret) .skip)) (.seq (.reg [⟨some 32, none, .mv, [.tm 1]⟩, ⟨some 33, none, .mv, [.tm 0]⟩, ⟨some 8, none, .mv, [.tm 32]⟩, ⟨some 9, none, .mv, [.tm 33]⟩] [0, 1, 8, 9]) (.seq (.seq (.reg [⟨some 34, none, .mv, [.tm 1]⟩, ⟨some 35, none, .po (.bin .lss), [.tm 34, .cn (.n .i64 0)]⟩] [0, 1, 8, 9, 35]) (.cond (.tm 35) (.reg [⟨some 36, none, .mv, [.tm 1]⟩, ⟨some 37, none, .po (.un .neg), [.tm 36]⟩, ⟨some 8, none, .mv, [.tm 37]⟩] [0, 1, 8, 9]) .skip)) (.seq (.seq (.reg [⟨some 38, none, .mv, [.tm 0]⟩, ⟨some 39, none, .po (.bin .lss), [.tm 38, .cn (.n .i64 0)]⟩] [0, 1, 8, 9, 39]) (.cond (.tm 39) (.reg [⟨some 40, none, .mv, [.tm 0]⟩, ⟨some 41, none, .po (.un .neg), [.tm 40]⟩, ⟨some 9, none, .mv, [.tm 41]⟩] [0, 1, 8, 9]) .skip)) (.seq (.reg [⟨some 10, none, .mv, [.cn (.n .i64 0)]⟩] [0, 1, 8, 9]) (.seq (.seq (.reg [⟨some 42, none, .mv, [.tm 9]⟩, ⟨some 43, none, .mv, [.tm 8]⟩, ⟨some 44, none, .po (.bin .gtr), [.tm 42, .tm 43]⟩] [0, 1, 8, 9, 44]) (.cond (.tm 44) (.reg [⟨some 45, none, .mv, [.tm 8]⟩, ⟨some 46, none, .mv, [.tm 9]⟩, ⟨some 47, none, .call 71, [.tm 45, .tm 46]⟩, ⟨some 48, none, .po (.bin .sub), [.cn (.n .i64 1073741824), .tm 47]⟩, ⟨some 10, none, .mv, [.tm 48]⟩] [0, 1, 10]) (.reg [⟨some 49, none, .mv, [.tm 9]⟩, ⟨some 50, none, .mv, [.tm 8]⟩, ⟨some 51, none, .call 71, [.tm 49, .tm 50]⟩, ⟨some 10, none, .mv, [.tm 51]⟩] [0, 1, 10]))) (.seq (.block 2 (.seq (.reg [⟨some 53, none, .mv, [.tm 1]⟩, ⟨some 54, none, .po (.bin .lss), [.tm 53, .cn (.n .i64 0)]⟩, ⟨some 55, none, .mv, [.tm 54]⟩, ⟨some 56, some (55, true), .mv, [.tm 0]⟩, ⟨some 57, some (55, true), .po (.bin .lss), [.tm 56, .cn (.n .i64 0)]⟩, ⟨some 58, none, .pick, [.tm 55, .tm 57, .cn (.b false)]⟩, ⟨some 52, none, .mv, [.tm 58]⟩] [0, 1, 10, 52]) (.cond (.tm 52) (.reg [⟨some 59, none, .mv, [.tm 10]⟩, ⟨some 60, none, .po (.bin .add), [.tm 59, .cn (.n .i64 2147483648)]⟩, ⟨some 10, none, .mv, [.tm 60]⟩] [10]) (.seq (.reg [⟨some 62, none, .mv, [.tm 1]⟩, ⟨some 63, none, .po (.bin .lss), [.tm 62, .cn (.n .i64 0)]⟩, ⟨some 61, none, .mv, [.tm 63]⟩] [0, 10, 61]) (.cond (.tm 61) (.reg [⟨some 64, none, .mv, [.tm 10]⟩, ⟨some 65, none, .po (.bin .sub), [.cn (.n .i64 2147483648), .tm 64]⟩, ⟨some 10, none, .mv, [.tm 65]⟩] [10]) (.seq (.reg [⟨some 67, none, .mv, [.tm 0]⟩, ⟨some 68, none, .po (.bin .lss), [.tm 67, .cn (.n .i64 0)]⟩, ⟨some 69, none, .mv, [.tm 68]⟩, ⟨some 70, some (69, true), .mv, [.tm 10]⟩, ⟨some 71, some (69, true), .po (.bin .gtr), [.tm 70, .cn (.n .i64 0)]⟩, ⟨some 72, none, .pick, [.tm 69, .tm 71, .cn (.b false)]⟩, ⟨some 66, none, .mv, [.tm 72]⟩] [10, 66]) (.cond (.tm 66) (.reg [⟨some 73, none, .mv, [.tm 10]⟩, ⟨some 74, none, .po (.bin .sub), [.cn (.n .i64 4294967296), .tm 73]⟩, ⟨some 10, none, .mv, [.tm 74]⟩] [10]) .skip))))))) (.seq (.reg [⟨some 75, none, .mv, [.tm 10]⟩, ⟨some 4, none, .mv, [.tm 75]⟩, ⟨some 5, none, .mv, [.cn (.n .i64 0)]⟩] [4, 5]) .ret))))))))), [.tm 4, .tm 5]⟩
theorem of27 : Fn1.of Try.prog 27 ⟨false, [], false⟩ [[0, 1], [0, 1, 13, 14, 15], [0, 1, 13, 14, 15], [0, 1, 13, 14, 15, 16], [0, 1, 7, 13, 14, 15], [0, 1, 13, 14, 15, 24], [4, 5], [0, 1, 13, 14, 15], [0, 1, 31], [4, 5], [0, 1, 8, 9], [0, 1, 8, 9, 35], [0, 1, 8, 9], [0, 1, 8, 9, 39], [0, 1, 8, 9], [0, 1, 8, 9], [0, 1, 8, 9, 44], [0, 1, 10], [0, 1, 10], [0, 1, 10, 52], [10], [0, 10, 61], [10], [10, 66], [10], [4, 5]] = some F27 := by kernel_rfl
/-- spyglass/spylaw1.TrigAngles -/
def F4 : Fn1 := ⟨32, .seq (.reg [⟨some 4, none, .mv, [.cn (.b false)]⟩] [0, 1]) (.seq (.reg [⟨some 10, none, .mv, [.tm 0]⟩, ⟨some 11, none, .mv, [.tm 1]⟩, ⟨some 12, none, .call 26, [.tm 10, .tm 11]⟩, ⟨some 9, none, .mv, [.tm 12]⟩, ⟨some 13, none, .po (.ext 0), [.tm 9]⟩, ⟨some 14, none, .po (.ext 1), [.tm 9]⟩, ⟨some 5, none, .mv, [.tm 13]⟩, ⟨some 6, none, .mv, [.tm 14]⟩] [0, 1, 5, 6]) (.seq (.reg [⟨some 16, none, .mv, [.tm 0]⟩, ⟨some 17, none, .mv, [.tm 1]⟩, ⟨some 18, none, .call 27, [.tm 16, .tm 17]⟩, ⟨some 15, none, .mv, [.tm 18]⟩, ⟨some 19, none, .po (.ext 0), [.tm 15]⟩, ⟨some 20, none, .po (.ext 1), [.tm 15]⟩, ⟨some 7, none, .mv, [.tm 19]⟩, ⟨some 8, none, .mv, [.tm 20]⟩] [5, 6, 7, 8]) (.seq (.reg [⟨some 21, none, .call 23, []⟩, ⟨some 22, none, .mv, [.tm 21]⟩, ⟨some 23, some (22, true), .mv, [.tm 5]⟩, ⟨some 24, some (22, true), .mv, [.tm 7]⟩, ⟨some 25, some (22, true), .po (.bin .eql), [.tm 23, .tm 24]⟩, ⟨some 26, none, .pick, [.tm 22, .tm 25, .cn (.b false)]⟩, ⟨some 27, none, .mv, [.tm 26]⟩, ⟨some 28, some (27, true), .mv, [.tm 6]⟩, ⟨some 29, some (27, true), .mv, [.tm 8]⟩, ⟨some 30, some (27, true), .po (.bin .eql), [.tm 28, .tm 29]⟩, ⟨some 31, none, .pick, [.tm 27, .tm 30, .cn (.b false)]⟩, ⟨some 4, none, .mv, [.tm 31]⟩] [4]) .ret))), [.tm 4]⟩
theorem of4 : Fn1.of Try.prog 4 ⟨false, [], false⟩ [[0, 1], [0, 1, 5, 6], [5, 6, 7, 8], [4]] = some F4 := by kernel_rfl
theorem pow2_le (k : Nat) : ∀ d : Nat, (2 : Int) ^ k ≤ 2 ^ (k + d)
  | 0 => Int.le_refl _
  | d + 1 => by
    have := pow2_le k d
    have h : (0 : Int) < 2 ^ (k + d) := Int.pow_pos (by decide)
    rw [← Nat.add_assoc, Int.pow_succ]
    omega
theorem icmp_le0 {a b : Int} : icmp a b ≤ 0 ↔ a ≤ b := by unfold icmp; split <;> (try split) <;> omega
theorem eighth_ok (y x : Int) (hy : 0 ≤ y ∧ y ≤ 4294967296) (hx : 0 ≤ x ∧ x ≤ 4294967296) : Pure Try.prog 71 [.n .i64 y, .n .i64 x] (.n .i64 (octA y x)) := by
  have zz : ∀ x : Int, -18446744073709551616 ≤ x ∧ x ≤ 18446744073709551616 → zb 4 x := fun x h => zb_64 h
  have hA := octA_in y x
  refine pure_of_wp of71 (Nat.le_of_ble_eq_true rfl) ?_
  refine loop_ind3 (fun (k : Nat) (a bit : Int) => ⟨[(0, .v (.n .i64 y)), (1, .v (.n .i64 x)), (5, .v (.n .i64 a)), (6, .v (.n .i64 bit))], []⟩) (fun k a bit => k)
    (fun k a bit => k ≤ 30 ∧ 0 ≤ a ∧ a ≤ octA y x ∧ octA y x < a + 2 ^ k ∧ bit = 2 ^ k / 2) 30 0 _ ⟨by decide, by decide, by omega, by simp; omega, rfl⟩ ?_
  intro k a bit ⟨h1, h2, h3, h4, h5⟩ ih
  cases k with
  | zero =>
    refine DecK.no (decide_eq_false (by rw [h5]; decide)) ?_
    ((repeat' first | refine DecK.tt ?_ | refine DecK.ff ?_ | refine DecK.beq (fun _ => ?_) (fun _ => ?_) | refine DecK.bne (fun _ => ?_) (fun _ => ?_) | refine DecK.dec (fun _ => ?_) (fun _ => ?_) | refine OptK.mk _ rfl ?_ | refine endV (by rfl) ?_) <;> (try with_reducible rfl))
    simp at h4
    rw [show a = octA y x by omega]
  | succ k =>
    have hk : bit = 2 ^ k := by rw [h5, Int.pow_succ]; exact Int.mul_ediv_cancel _ (by decide)
    have hp : (0 : Int) < 2 ^ k := Int.pow_pos (by decide)
    have hb : (2 : Int) ^ k ≤ 536870912 := by
      have := pow2_le k (29 - k)
      rwa [show k + (29 - k) = 29 by omega, show (2 : Int) ^ 29 = 536870912 from rfl] at this
    rw [Int.pow_succ] at h4
    clear h5
    have hs : Int.fdiv bit (2 ^ 1) = 2 ^ k / 2 := by rw [Int.fdiv_eq_ediv_of_nonneg _ (by decide), hk]; rfl
    rw [← hk] at hp hb h4
    have w1 : IntKind.i64.wrap (a + bit) = a + bit := w64 (by omega)
    refine DecK.yes (decide_eq_true hp) ?_
    refine DecK.dec (fun h => ?_) (fun h => ?_)
    · rw [w1] at h
      have w2 : IntKind.i64.wrap (1073741824 - IntKind.i64.wrap (a + bit)) = 1073741824 - (a + bit) := by rw [w1, w64 (by omega)]
      have q1 := quarF_in (t := a + bit) (by omega)
      have q2 := quarF_in (t := 1073741824 - (a + bit)) (by omega)
      have iff := oct_iff (y := y) (x := x) (a := a + bit) hy.1 hx.1 (by omega)
      have z1 := (zz (quarF (a + bit)) (by omega)).mul (zz x (by omega))
      have z2 := (zz (quarF (1073741824 - (a + bit))) (by omega)).mul (zz y (by omega))
      refine CallK.mk _ ((rule_ok (a + bit) (by omega)).args (by rw [w1])) rfl ?_
      refine CallK.mk _ (I_ok _ (by omega)) rfl ?_
      refine CallK.mk _ (I_ok _ (by omega)) rfl ?_
      refine CallK.mk _ (Times_ok _ _ ((zz _ (by omega)).mono (by decide)) ((zz _ (by omega)).mono (by decide))) rfl ?_
      refine CallK.mk _ ((rule_ok (1073741824 - (a + bit)) (by omega)).args (by rw [w2])) rfl ?_
      refine CallK.mk _ (I_ok _ (by omega)) rfl ?_
      refine CallK.mk _ (I_ok _ (by omega)) rfl ?_
      refine CallK.mk _ (Times_ok _ _ ((zz _ (by omega)).mono (by decide)) ((zz _ (by omega)).mono (by decide))) rfl ?_
      refine CallK.mk _ (Cmp_ok _ _ (z1.mono (by decide)) (z2.mono (by decide))) rfl ?_
      refine DecK.dec (fun g => ?_) (fun g => ?_)
      · rw [icmp_le0] at g
        have := iff.1 g
        refine ih k _ _ ⟨?_, ?_, ?_, ?_, ?_⟩ (by omega)
        all_goals try rw [w1]
        all_goals first | exact hs | (rw [← hk]; omega) | omega
      · rw [icmp_le0] at g
        have : ¬ a + bit ≤ octA y x := fun h => g (iff.2 h)
        refine ih k _ _ ⟨?_, ?_, ?_, ?_, ?_⟩ (by omega)
        all_goals first | exact hs | (rw [← hk]; omega) | omega
    · rw [w1] at h
      refine DecK.ff ?_
      refine ih k _ _ ⟨?_, ?_, ?_, ?_, ?_⟩ (by omega)
      all_goals first | exact hs | (rw [← hk]; omega) | omega
/-- What the reference makes of an angle up to a quarter. -/
theorem atanF_ref (y x : Int) (h1 : ¬ (x < -4294967296 ∨ x > 4294967296 ∨ y < -4294967296 ∨ y > 4294967296)) {b : Int} (hb : b = if (x.natAbs : Int) < y.natAbs then 1073741824 - octA x.natAbs y.natAbs else octA y.natAbs x.natAbs) :
    atanF y x = if x < 0 ∧ y < 0 then b + 2147483648 else if x < 0 then 2147483648 - b else if y < 0 ∧ b > 0 then 4294967296 - b else b := by
  have o1 := octA_in (y.natAbs : Int) x.natAbs
  have o2 := octA_in (x.natAbs : Int) y.natAbs
  unfold atanF
  generalize octA (y.natAbs : Int) x.natAbs = A at *
  generalize octA (x.natAbs : Int) y.natAbs = B at *
  simp only
  by_cases h : (x.natAbs : Int) < y.natAbs
  · rw [if_pos h] at hb
    simp only [show ¬ ((y.natAbs : Int) ≤ x.natAbs) by omega, if_false]
    by_cases hx : x < 0 <;> by_cases hy : y < 0 <;> simp only [hx, hy, if_true, if_false, true_and, false_and, and_true, and_false] <;> (try split) <;> omega
  · rw [if_neg h] at hb
    simp only [show (y.natAbs : Int) ≤ x.natAbs by omega, if_true]
    by_cases hx : x < 0 <;> by_cases hy : y < 0 <;> simp only [hx, hy, if_true, if_false, true_and, false_and, and_true, and_false] <;> (try split) <;> omega
set_option maxHeartbeats 4000000 in
theorem angle_ok (y x : Int) : Pure Try.prog 27 [.n .i64 y, .n .i64 x] (.tup [.n .i64 (if atanErr y x = 0 then atanF y x else 0), .n .i64 (atanErr y x)]) := by
  refine pure_of_wp of27 (Nat.le_of_ble_eq_true rfl) ?_
  by_cases h1 : x < -4294967296 ∨ x > 4294967296 ∨ y < -4294967296 ∨ y > 4294967296
  · have e : atanErr y x = 4 := if_pos h1
    have e' : (if atanErr y x = 0 then atanF y x else 0) = 0 := by rw [e, if_neg (by decide)]
    rw [e', e]
    iterate 3
      all_goals try refine loop_unroll ?_
      all_goals repeat' first | (refine DecK.yes rfl ?_) | (refine DecK.no rfl ?_) | (refine OptK.mk _ rfl ?_) | (refine DecK.dec (fun _ => ?_) (fun _ => ?_)) | (refine endV (by rfl) ?_)
      all_goals first | done | with_reducible rfl | (exfalso; omega) | skip
  by_cases h2 : x = 0 ∧ y = 0
  · have e : atanErr y x = 8 := by rw [atanErr, if_neg h1, if_pos h2]
    have e' : (if atanErr y x = 0 then atanF y x else 0) = 0 := by rw [e, if_neg (by decide)]
    rw [e', e]
    obtain ⟨rfl, rfl⟩ := h2
    iterate 3
      refine loop_unroll ?_
      repeat' first | (refine DecK.yes rfl ?_) | (refine DecK.no rfl ?_) | (refine OptK.mk _ rfl ?_)
    refine endV (by rfl) ?_
    with_reducible rfl
  have e : atanErr y x = 0 := by rw [atanErr, if_neg h1, if_neg h2]
  have e' : (if atanErr y x = 0 then atanF y x else 0) = atanF y x := by rw [e, if_pos rfl]
  rw [e', e]
  iterate 2
    refine loop_unroll ?_
    refine DecK.yes rfl ?_
    refine OptK.mk _ rfl ?_
    refine OptK.mk _ rfl ?_
    refine DecK.no (decide_eq_false (by omega)) ?_
    refine DecK.no (decide_eq_false (by omega)) ?_
  refine loop_unroll ?_
  refine DecK.no rfl ?_
  have ref := atanF_ref y x h1 rfl
  rw [ref]
  clear e e' ref
  obtain ⟨u, hu⟩ : ∃ u : Int, u = x.natAbs := ⟨_, rfl⟩
  obtain ⟨v, hv⟩ : ∃ v : Int, v = y.natAbs := ⟨_, rfl⟩
  rw [← hu, ← hv]
  have o1 := octA_in v u
  have o2 := octA_in u v
  have t1 := eighth_ok v u (by omega) (by omega)
  have t2 := eighth_ok u v (by omega) (by omega)
  obtain ⟨a, ha⟩ : ∃ a, a = octA v u := ⟨_, rfl⟩
  obtain ⟨b, hb⟩ : ∃ b, b = octA u v := ⟨_, rfl⟩
  rw [← ha] at o1 t1 ⊢
  rw [← hb] at o2 t2 ⊢
  clear ha hb
  have w1 : IntKind.i64.wrap (1073741824 - b) = 1073741824 - b := w64 (by omega)
  have fin : ∀ q : Int, 0 ≤ q ∧ q ≤ 1073741824 → IntKind.i64.wrap (q + 2147483648) = q + 2147483648 ∧ IntKind.i64.wrap (2147483648 - q) = 2147483648 - q ∧ IntKind.i64.wrap (4294967296 - q) = 4294967296 - q := fun q hq => ⟨w64 (by omega), w64 (by omega), w64 (by omega)⟩
  obtain ⟨f1, f2, f3⟩ := fin a (by omega)
  obtain ⟨g1, g2, g3⟩ := fin (1073741824 - b) (by omega)
  clear fin
  have nx : x < 0 → IntKind.i64.wrap (0 - x) = u := fun h => by rw [w64 (by omega)]; omega
  have ny : y < 0 → IntKind.i64.wrap (0 - y) = v := fun h => by rw [w64 (by omega)]; omega
  have px : ¬ x < 0 → x = u := fun h => by omega
  have py : ¬ y < 0 → y = v := fun h => by omega
  by_cases hx : x < 0 <;> by_cases hy : y < 0
  · have ex := nx hx
    have ey := ny hy
    rw [← ex, ← ey] at t1 t2
    clear nx ny px py
    repeat' first
      | (refine DecK.tt ?_) | (refine DecK.ff ?_) | (refine DecK.beq (fun h => ?_) (fun h => ?_)) | (refine endV (by rfl) ?_) | (refine CallK.mk _ t1 rfl ?_) | (refine CallK.mk _ t2 rfl ?_) | (refine DecK.dec (fun h => ?_) (fun h => ?_))
    all_goals try (exfalso; omega)
    all_goals simp only [w1, f1, f2, f3, g1, g2, g3, ex, ey] at *
    all_goals refine congrArg (fun z => V.tup [.n .i64 z, .n .i64 0]) ?_
    all_goals (repeat' split) <;> omega
  · have ex := nx hx
    have ey := py hy
    rw [← ex, ← ey] at t1 t2
    clear nx ny px py
    repeat' first
      | (refine DecK.tt ?_) | (refine DecK.ff ?_) | (refine DecK.beq (fun h => ?_) (fun h => ?_)) | (refine endV (by rfl) ?_) | (refine CallK.mk _ t1 rfl ?_) | (refine CallK.mk _ t2 rfl ?_) | (refine DecK.dec (fun h => ?_) (fun h => ?_))
    all_goals try (exfalso; omega)
    all_goals simp only [w1, f1, f2, f3, g1, g2, g3, ex, ey] at *
    all_goals refine congrArg (fun z => V.tup [.n .i64 z, .n .i64 0]) ?_
    all_goals (repeat' split) <;> omega
  · have ex := px hx
    have ey := ny hy
    rw [← ex, ← ey] at t1 t2
    clear nx ny px py
    repeat' first
      | (refine DecK.tt ?_) | (refine DecK.ff ?_) | (refine DecK.beq (fun h => ?_) (fun h => ?_)) | (refine endV (by rfl) ?_) | (refine CallK.mk _ t1 rfl ?_) | (refine CallK.mk _ t2 rfl ?_) | (refine DecK.dec (fun h => ?_) (fun h => ?_))
    all_goals try (exfalso; omega)
    all_goals simp only [w1, f1, f2, f3, g1, g2, g3, ex, ey] at *
    all_goals refine congrArg (fun z => V.tup [.n .i64 z, .n .i64 0]) ?_
    all_goals (repeat' split) <;> omega
  · have ex := px hx
    have ey := py hy
    rw [← ex, ← ey] at t1 t2
    clear nx ny px py
    repeat' first
      | (refine DecK.tt ?_) | (refine DecK.ff ?_) | (refine DecK.beq (fun h => ?_) (fun h => ?_)) | (refine endV (by rfl) ?_) | (refine CallK.mk _ t1 rfl ?_) | (refine CallK.mk _ t2 rfl ?_) | (refine DecK.dec (fun h => ?_) (fun h => ?_))
    all_goals try (exfalso; omega)
    all_goals simp only [w1, f1, f2, f3, g1, g2, g3, ex, ey] at *
    all_goals refine congrArg (fun z => V.tup [.n .i64 z, .n .i64 0]) ?_
    all_goals (repeat' split) <;> omega
theorem trigAngles_pure (y x : Int) : Pure Try.prog 4 [.n .i64 y, .n .i64 x] (.b true) := by
  refine pure_of_wp of4 (Nat.le_of_ble_eq_true rfl) ?_
  refine CallK.mk _ (atan2_ok y x) rfl ?_
  refine CallK.mk _ (angle_ok y x) rfl ?_
  refine CallK.mk _ trigs_ok rfl ?_
  refine DecK.tt ?_
  refine DecK.yes (by simp) ?_
  ((repeat' first | refine DecK.tt ?_ | refine DecK.ff ?_ | refine DecK.beq (fun _ => ?_) (fun _ => ?_) | refine DecK.bne (fun _ => ?_) (fun _ => ?_) | refine DecK.dec (fun _ => ?_) (fun _ => ?_) | refine OptK.mk _ rfl ?_ | refine endV (by rfl) ?_) <;> (try with_reducible rfl))
  simp
theorem trigAngles_law (x : Ty.T (.pair (.n .i64) (.pair (.n .i64) .nil))) (h : Ty.inn (.pair (.n .i64) (.pair (.n .i64) .nil)) x) : Pure Try.prog 4 (Ty.vals (.pair (.n .i64) (.pair (.n .i64) .nil)) x) (.b true) := trigAngles_pure x.1 x.2.1
end Go.Proofs.Ytdceakejbnolpaa.Sv
