/- Fractions: the nearest with a small denominator, by the steps of the continued fraction. No condition. -/
import Derived.Test.YtjeafcngljbdlaaFb
import Derived.Test.YtjeafcngljbdlaaFd
import Derived.Test.YtjeafcngljbdlaaBe
namespace Go.Proofs.Ytjeafcngljbdlaa.Sv
open Go Go.RowKit
set_option linter.unusedVariables false
set_option linter.unusedSimpArgs false
set_option maxRecDepth 100000
/-- spyglass/frac.away -/
def F70 : Fn1 := ⟨27, .seq (.reg [⟨some 3, none, .box, [.tm 0]⟩, ⟨some 6, none, .mv, [.cn (.n .i64 0)]⟩] [1, 2, 3]) (.seq (.dreg [⟨some 10, none, .mv, [.tm 1]⟩, ⟨some 11, none, .fa 1, [.tm 3]⟩, ⟨some 12, none, .ld false 1 false, [.tm 11]⟩, ⟨some 13, none, .call 64, [.tm 10, .tm 12]⟩, ⟨some 14, none, .fa 0, [.tm 3]⟩, ⟨some 15, none, .ld false 1 false, [.tm 14]⟩, ⟨some 16, none, .po (.un .neg), [.tm 15]⟩, ⟨some 17, none, .mv, [.tm 2]⟩, ⟨some 18, none, .call 64, [.tm 16, .tm 17]⟩, ⟨some 19, none, .call 65, [.tm 13, .tm 18]⟩, ⟨some 20, none, .call 67, [.tm 19, .cn (.n .i64 1)]⟩, ⟨some 9, none, .mv, [.tm 20]⟩, ⟨some 21, none, .po (.ext 0), [.tm 9]⟩, ⟨some 22, none, .po (.ext 1), [.tm 9]⟩, ⟨some 7, none, .mv, [.tm 21]⟩, ⟨some 8, none, .mv, [.tm 22]⟩] [] [7]) (.seq (.reg [⟨some 23, none, .mv, [.tm 7]⟩, ⟨some 24, none, .mv, [.tm 7]⟩, ⟨some 25, none, .po (.un .neg), [.tm 24]⟩, ⟨some 26, none, .po .mx, [.tm 23, .tm 25]⟩, ⟨some 6, none, .mv, [.tm 26]⟩] [6]) .ret)), [.tm 6]⟩
theorem of70 : Fn1.of Try.prog 70 ⟨false, [], false⟩ [[1, 2, 3], [7], [6]] = some F70 := by kernel_rfl
/-- live: [1, 2, 4, 7, 8, 9, 10] -/
def L47_0 : SC := .block 1 (.seq (.reg [⟨some 39, none, .mv, [.tm 9]⟩, ⟨some 40, none, .mv, [.tm 10]⟩, ⟨some 41, none, .call 45, [.tm 39, .tm 40]⟩, ⟨some 11, none, .mv, [.tm 41]⟩] [1, 2, 4, 7, 8, 9, 10, 11]) (.seq (.seq (.reg [⟨some 42, none, .ia (some 2) 1, [.tm 8, .cn (.n .i64 1)]⟩, ⟨some 43, none, .ld false 1 true, [.tm 42]⟩, ⟨some 44, none, .po (.bin .gtr), [.tm 43, .cn (.n .i64 0)]⟩, ⟨some 45, none, .mv, [.tm 44]⟩, ⟨some 46, some (45, true), .mv, [.tm 11]⟩, ⟨some 47, some (45, true), .mv, [.tm 1]⟩, ⟨some 48, some (45, true), .ia (some 2) 1, [.tm 8, .cn (.n .i64 0)]⟩, ⟨some 49, some (45, true), .ld false 1 true, [.tm 48]⟩, ⟨some 50, some (45, true), .po (.bin .sub), [.tm 47, .tm 49]⟩, ⟨some 51, some (45, true), .ia (some 2) 1, [.tm 8, .cn (.n .i64 1)]⟩, ⟨some 52, some (45, true), .ld false 1 true, [.tm 51]⟩, ⟨some 53, some (45, true), .po (.bin .quo), [.tm 50, .tm 52]⟩, ⟨some 54, some (45, true), .po (.bin .gtr), [.tm 46, .tm 53]⟩, ⟨some 55, none, .pick, [.tm 45, .tm 54, .cn (.b false)]⟩] [1, 2, 4, 7, 8, 9, 10, 11, 55]) (.cond (.tm 55) (.exit 0) .skip)) (.seq (.dreg [⟨some 56, none, .ia (some 2) 1, [.tm 7, .cn (.n .i64 1)]⟩, ⟨some 57, none, .ld false 1 true, [.tm 56]⟩, ⟨some 58, none, .ia (some 2) 1, [.tm 7, .cn (.n .i64 0)]⟩, ⟨some 59, none, .ld false 1 true, [.tm 58]⟩, ⟨some 60, none, .mv, [.tm 11]⟩, ⟨some 61, none, .ia (some 2) 1, [.tm 7, .cn (.n .i64 1)]⟩, ⟨some 62, none, .ld false 1 true, [.tm 61]⟩, ⟨some 63, none, .po (.bin .mul), [.tm 60, .tm 62]⟩, ⟨some 64, none, .po (.bin .add), [.tm 59, .tm 63]⟩, ⟨some 65, none, .po (.build [.n .i64 0, .n .i64 0] [(0, 1), (1, 1)]), [.tm 57, .tm 64]⟩, ⟨some 66, none, .ia (some 2) 1, [.tm 8, .cn (.n .i64 1)]⟩, ⟨some 67, none, .ld false 1 true, [.tm 66]⟩, ⟨some 68, none, .ia (some 2) 1, [.tm 8, .cn (.n .i64 0)]⟩, ⟨some 69, none, .ld false 1 true, [.tm 68]⟩, ⟨some 70, none, .mv, [.tm 11]⟩, ⟨some 71, none, .ia (some 2) 1, [.tm 8, .cn (.n .i64 1)]⟩, ⟨some 72, none, .ld false 1 true, [.tm 71]⟩, ⟨some 73, none, .po (.bin .mul), [.tm 70, .tm 72]⟩, ⟨some 74, none, .po (.bin .add), [.tm 69, .tm 73]⟩, ⟨some 75, none, .po (.build [.n .i64 0, .n .i64 0] [(0, 1), (1, 1)]), [.tm 67, .tm 74]⟩, ⟨none, none, .st 2, [.tm 7, .tm 65]⟩, ⟨none, none, .st 2, [.tm 8, .tm 75]⟩] [(10, 20), (11, 20), (12, 20), (13, 20), (14, 20), (15, 20), (16, 20), (17, 20), (18, 20), (19, 20)] [1, 2, 4, 7, 8, 9, 10, 11]) (.reg [⟨some 76, none, .mv, [.tm 10]⟩, ⟨some 77, none, .mv, [.tm 9]⟩, ⟨some 78, none, .mv, [.tm 11]⟩, ⟨some 79, none, .mv, [.tm 10]⟩, ⟨some 80, none, .po (.bin .mul), [.tm 78, .tm 79]⟩, ⟨some 81, none, .po (.bin .sub), [.tm 77, .tm 80]⟩, ⟨some 9, none, .mv, [.tm 76]⟩, ⟨some 10, none, .mv, [.tm 81]⟩] [1, 2, 4, 7, 8, 9, 10]))))
/-- spyglass/frac.Best -/
def F47 : Fn1 := ⟨137, .seq (.reg [⟨some 2, none, .box, [.tm 0]⟩, ⟨some 4, none, .alloc [.n .i64 0, .n .i64 0], []⟩, ⟨some 5, none, .mv, [.cn (.n .i64 0)]⟩] [1, 2, 4]) (.seq (.seq (.reg [⟨some 15, none, .ld true 2 false, [.tm 2]⟩, ⟨some 16, none, .call 44, [.tm 15]⟩, ⟨some 6, none, .mv, [.tm 16]⟩] [1, 2, 4, 6]) (.seq (.reg [⟨some 17, none, .mv, [.tm 6]⟩, ⟨some 18, none, .po (.bin .neq), [.tm 17, .cn (.n .i64 0)]⟩] [1, 2, 4, 6, 18]) (.cond (.tm 18) (.seq (.reg [⟨some 19, none, .po (.build [.n .i64 0, .n .i64 0] []), []⟩, ⟨some 20, none, .mv, [.tm 6]⟩, ⟨none, none, .st 2, [.tm 4, .tm 19]⟩, ⟨some 5, none, .mv, [.tm 20]⟩] [4, 5]) .ret) .skip))) (.seq (.seq (.reg [⟨some 21, none, .mv, [.tm 1]⟩, ⟨some 22, none, .po (.bin .lss), [.tm 21, .cn (.n .i64 1)]⟩, ⟨some 23, none, .mv, [.tm 22]⟩, ⟨some 24, some (23, false), .mv, [.tm 1]⟩, ⟨some 25, some (23, false), .po (.bin .gtr), [.tm 24, .cn (.n .i64 4096)]⟩, ⟨some 26, none, .pick, [.tm 23, .cn (.b true), .tm 25]⟩] [1, 2, 4, 26]) (.cond (.tm 26) (.seq (.reg [⟨some 27, none, .po (.build [.n .i64 0, .n .i64 0] []), []⟩, ⟨none, none, .st 2, [.tm 4, .tm 27]⟩, ⟨some 5, none, .mv, [.cn (.n .i64 4)]⟩] [4, 5]) .ret) .skip)) (.seq (.seq (.reg [⟨some 28, none, .fa 1, [.tm 2]⟩, ⟨some 29, none, .ld false 1 false, [.tm 28]⟩, ⟨some 30, none, .mv, [.tm 1]⟩, ⟨some 31, none, .po (.bin .leq), [.tm 29, .tm 30]⟩] [1, 2, 4, 31]) (.cond (.tm 31) (.seq (.reg [⟨some 32, none, .ld true 2 false, [.tm 2]⟩, ⟨none, none, .st 2, [.tm 4, .tm 32]⟩, ⟨some 5, none, .mv, [.cn (.n .i64 0)]⟩] [4, 5]) .ret) .skip)) (.seq (.reg [⟨some 33, none, .po (.build [.n .i64 0, .n .i64 0] [(0, 1), (1, 1)]), [.cn (.n .i64 0), .cn (.n .i64 1)]⟩, ⟨some 34, none, .po (.build [.n .i64 0, .n .i64 0] [(0, 1), (1, 1)]), [.cn (.n .i64 1), .cn (.n .i64 0)]⟩, ⟨some 7, none, .alloc [.n .i64 0, .n .i64 0], []⟩, ⟨some 8, none, .alloc [.n .i64 0, .n .i64 0], []⟩, ⟨none, none, .st 2, [.tm 7, .tm 33]⟩, ⟨none, none, .st 2, [.tm 8, .tm 34]⟩] [1, 2, 4, 7, 8]) (.seq (.seq (.dreg [⟨some 35, none, .fa 0, [.tm 2]⟩, ⟨some 36, none, .ld false 1 false, [.tm 35]⟩, ⟨some 37, none, .fa 1, [.tm 2]⟩, ⟨some 38, none, .ld false 1 false, [.tm 37]⟩, ⟨some 9, none, .mv, [.tm 36]⟩, ⟨some 10, none, .mv, [.tm 38]⟩] [] [1, 2, 4, 7, 8, 9, 10]) (.block 0 (.loop [1, 2, 4, 7, 8, 9, 10] L47_0))) (.seq (.reg [⟨some 82, none, .mv, [.tm 1]⟩, ⟨some 83, none, .ia (some 2) 1, [.tm 8, .cn (.n .i64 0)]⟩, ⟨some 84, none, .ld false 1 true, [.tm 83]⟩, ⟨some 85, none, .po (.bin .sub), [.tm 82, .tm 84]⟩, ⟨some 86, none, .ia (some 2) 1, [.tm 8, .cn (.n .i64 1)]⟩, ⟨some 87, none, .ld false 1 true, [.tm 86]⟩, ⟨some 88, none, .po (.bin .quo), [.tm 85, .tm 87]⟩, ⟨some 12, none, .mv, [.tm 88]⟩] [2, 4, 7, 8, 12]) (.seq (.dreg [⟨some 89, none, .ia (some 2) 1, [.tm 7, .cn (.n .i64 0)]⟩, ⟨some 90, none, .ld false 1 true, [.tm 89]⟩, ⟨some 91, none, .mv, [.tm 12]⟩, ⟨some 92, none, .ia (some 2) 1, [.tm 7, .cn (.n .i64 1)]⟩, ⟨some 93, none, .ld false 1 true, [.tm 92]⟩, ⟨some 94, none, .po (.bin .mul), [.tm 91, .tm 93]⟩, ⟨some 95, none, .po (.bin .add), [.tm 90, .tm 94]⟩, ⟨some 96, none, .ia (some 2) 1, [.tm 8, .cn (.n .i64 0)]⟩, ⟨some 97, none, .ld false 1 true, [.tm 96]⟩, ⟨some 98, none, .mv, [.tm 12]⟩, ⟨some 99, none, .ia (some 2) 1, [.tm 8, .cn (.n .i64 1)]⟩, ⟨some 100, none, .ld false 1 true, [.tm 99]⟩, ⟨some 101, none, .po (.bin .mul), [.tm 98, .tm 100]⟩, ⟨some 102, none, .po (.bin .add), [.tm 97, .tm 101]⟩, ⟨some 103, none, .ia (some 2) 1, [.tm 7, .cn (.n .i64 0)]⟩, ⟨none, none, .st 1, [.tm 103, .tm 95]⟩, ⟨some 104, none, .ia (some 2) 1, [.tm 8, .cn (.n .i64 0)]⟩, ⟨none, none, .st 1, [.tm 104, .tm 102]⟩] [(7, 15), (8, 15), (9, 15), (10, 15), (11, 15), (12, 15), (13, 15)] [2, 4, 7, 8]) (.seq (.dreg [⟨some 105, none, .ld true 2 false, [.tm 2]⟩, ⟨some 106, none, .ia (some 2) 1, [.tm 7, .cn (.n .i64 0)]⟩, ⟨some 107, none, .ld false 1 true, [.tm 106]⟩, ⟨some 108, none, .ia (some 2) 1, [.tm 8, .cn (.n .i64 0)]⟩, ⟨some 109, none, .ld false 1 true, [.tm 108]⟩, ⟨some 110, none, .call 70, [.tm 105, .tm 107, .tm 109]⟩, ⟨some 111, none, .ia (some 2) 1, [.tm 8, .cn (.n .i64 1)]⟩, ⟨some 112, none, .ld false 1 true, [.tm 111]⟩, ⟨some 113, none, .call 64, [.tm 110, .tm 112]⟩, ⟨some 114, none, .ld true 2 false, [.tm 2]⟩, ⟨some 115, none, .ia (some 2) 1, [.tm 7, .cn (.n .i64 1)]⟩, ⟨some 116, none, .ld false 1 true, [.tm 115]⟩, ⟨some 117, none, .ia (some 2) 1, [.tm 8, .cn (.n .i64 1)]⟩, ⟨some 118, none, .ld false 1 true, [.tm 117]⟩, ⟨some 119, none, .call 70, [.tm 114, .tm 116, .tm 118]⟩, ⟨some 120, none, .ia (some 2) 1, [.tm 8, .cn (.n .i64 0)]⟩, ⟨some 121, none, .ld false 1 true, [.tm 120]⟩, ⟨some 122, none, .call 64, [.tm 119, .tm 121]⟩, ⟨some 13, none, .alloc [.n .i64 0, .n .u64 0], []⟩, ⟨some 14, none, .alloc [.n .i64 0, .n .u64 0], []⟩, ⟨none, none, .st 2, [.tm 13, .tm 113]⟩, ⟨none, none, .st 2, [.tm 14, .tm 122]⟩] [] [4, 7, 8, 13, 14]) (.seq (.seq (.reg [⟨some 123, none, .ld true 2 false, [.tm 14]⟩, ⟨some 124, none, .ld true 2 false, [.tm 13]⟩, ⟨some 125, none, .call 71, [.tm 123, .tm 124]⟩, ⟨some 126, none, .po (.bin .leq), [.tm 125, .cn (.n .i64 0)]⟩] [4, 7, 8, 126]) (.cond (.tm 126) (.seq (.reg [⟨some 127, none, .ia (some 2) 1, [.tm 7, .cn (.n .i64 1)]⟩, ⟨some 128, none, .ld false 1 true, [.tm 127]⟩, ⟨some 129, none, .ia (some 2) 1, [.tm 8, .cn (.n .i64 1)]⟩, ⟨some 130, none, .ld false 1 true, [.tm 129]⟩, ⟨some 131, none, .po (.build [.n .i64 0, .n .i64 0] [(0, 1), (1, 1)]), [.tm 128, .tm 130]⟩, ⟨none, none, .st 2, [.tm 4, .tm 131]⟩, ⟨some 5, none, .mv, [.cn (.n .i64 0)]⟩] [4, 5]) .ret) .skip)) (.seq (.reg [⟨some 132, none, .ia (some 2) 1, [.tm 7, .cn (.n .i64 0)]⟩, ⟨some 133, none, .ld false 1 true, [.tm 132]⟩, ⟨some 134, none, .ia (some 2) 1, [.tm 8, .cn (.n .i64 0)]⟩, ⟨some 135, none, .ld false 1 true, [.tm 134]⟩, ⟨some 136, none, .po (.build [.n .i64 0, .n .i64 0] [(0, 1), (1, 1)]), [.tm 133, .tm 135]⟩, ⟨none, none, .st 2, [.tm 4, .tm 136]⟩, ⟨some 5, none, .mv, [.cn (.n .i64 0)]⟩] [4, 5]) .ret)))))))))), [.cell 4 true 2, .tm 5]⟩
theorem of47 : Fn1.of Try.prog 47 ⟨false, [], false⟩ [[1, 2, 4], [1, 2, 4, 6], [1, 2, 4, 6, 18], [4, 5], [1, 2, 4, 26], [4, 5], [1, 2, 4, 31], [4, 5], [1, 2, 4, 7, 8], [1, 2, 4, 7, 8, 9, 10], [1, 2, 4, 7, 8, 9, 10], [1, 2, 4, 7, 8, 9, 10, 11], [1, 2, 4, 7, 8, 9, 10, 11, 55], [1, 2, 4, 7, 8, 9, 10, 11], [1, 2, 4, 7, 8, 9, 10], [2, 4, 7, 8, 12], [2, 4, 7, 8], [4, 7, 8, 13, 14], [4, 7, 8, 126], [4, 5], [4, 5]] = some F47 := by kernel_rfl
theorem away_ok (N D p q : Int) (hN : -1152921504606846976 ≤ N ∧ N ≤ 1152921504606846976) (hD : 0 ≤ D ∧ D ≤ 1152921504606846976) (hp : -1152921504606846976 ≤ p ∧ p ≤ 1152921504606846976) (hq : 0 ≤ q ∧ q ≤ 4096) (ho : offF N D p q ≤ 1152921504606846976) :
    Pure Try.prog 70 [fracV N D, .n .i64 p, .n .i64 q] (.n .i64 (offF N D p q)) := by
  have m1 := Int.mul_le_mul_of_nonneg_right hp.1 hD.1
  have m2 := Int.mul_le_mul_of_nonneg_right hp.2 hD.1
  have m3 := Int.mul_le_mul_of_nonneg_right hN.1 hq.1
  have m4 := Int.mul_le_mul_of_nonneg_right hN.2 hq.1
  have w : IntKind.i64.wrap (0 - N) = -N := by rw [w64 (by omega)]; omega
  have eW : m128 (p * D + -N * q) = p * D - N * q := by rw [m128_in (by unfold fits2; rw [Int.neg_mul]; omega), Int.neg_mul]; omega
  have t1 := wPlus_ok (p * D) (-N * q) (by unfold fits2; omega) (by unfold fits2; rw [Int.neg_mul]; omega)
  rw [eW] at t1
  have t2 := wDiv_ok (p * D - N * q) 1 (by unfold fits2; omega) (by decide)
  rw [Int.ediv_one] at t2
  unfold offF at *
  generalize p * D - N * q = z at *
  rw [quoT, if_neg (by decide), if_pos (by unfold fits; omega)] at t2
  refine pure_of_wp of70 (Nat.le_of_ble_eq_true rfl) ?_
  refine CallK.mk _ (Product_ok p D (by unfold fits; omega) (by unfold fits; omega)) rfl ?_
  refine CallK.mk _ ((Product_ok (-N) q (by unfold fits; omega) (by unfold fits; omega)).args (by rw [w])) rfl ?_
  refine CallK.mk _ t1 rfl ?_
  refine CallK.mk _ t2 rfl ?_
  ((repeat' first | refine DecK.tt ?_ | refine DecK.ff ?_ | refine DecK.beq (fun _ => ?_) (fun _ => ?_) | refine DecK.bne (fun _ => ?_) (fun _ => ?_) | refine DecK.dec (fun _ => ?_) (fun _ => ?_) | refine OptK.mk _ rfl ?_ | refine endV (by rfl) ?_) <;> (try with_reducible rfl))
  rw [w64 (by omega), show (if 0 - z > z then 0 - z else z) = (z.natAbs : Int) by split <;> omega]
set_option maxHeartbeats 2000000 in
theorem best_ok (N D most : Int) (hE : frErr N D = 0) (hm : 1 ≤ most ∧ most ≤ 4096) : ∃ a b : Int, Good N D most a b ∧
    Pure Try.prog 47 [fracV N D, .n .i64 most] (.tup [fracV a b, .n .i64 0]) := by
  have hout : ¬ frOut N D := fun h => by rw [frErr, if_pos h] at hE; omega
  have hg : (Int.gcd N D : Int) = 1 := Decidable.byContradiction fun h => by rw [frErr, if_neg hout, if_pos h] at hE; omega
  unfold frOut at hout
  have tc := frCheck_ok N D (by unfold fits; omega) (by unfold fits; omega)
  rw [hE] at tc
  by_cases hs : D ≤ most
  · have o : offF N D N D = 0 := by unfold offF; rw [Int.sub_self]; rfl
    refine ⟨N, D, ⟨⟨by omega, hs, fun q n g1 g2 => ?_⟩, ⟨by omega, by omega⟩, hg, by omega⟩, ?_⟩
    · rw [o]
      have m := Int.mul_nonneg (show 0 ≤ offF N D n q by unfold offF; omega) (show 0 ≤ D by omega)
      refine ⟨by omega, fun h => ?_⟩
      have hz : offF N D n q = 0 := by rcases Int.mul_eq_zero.1 (show offF N D n q * D = 0 by omega) with h | h <;> omega
      by_cases hq : q < D
      · exact absurd (show n * D - N * q = 0 by unfold offF at hz; omega) (den_ne hg ⟨g1, hq⟩)
      · by_cases hq' : q = D
        · right
          subst hq'
          refine ⟨rfl, ?_⟩
          have hz : n * q - N * q = 0 := by unfold offF at hz; omega
          rw [← Int.sub_mul] at hz
          rcases Int.mul_eq_zero.1 hz with h | h <;> omega
        · left; omega
    · refine pure_of_wp of47 (Nat.le_of_ble_eq_true rfl) ?_
      refine CallK.mk _ tc rfl ?_
      refine DecK.ff ?_
      refine DecK.no (decide_eq_false (by omega)) ?_
      refine DecK.no (decide_eq_false (by omega)) ?_
      refine DecK.yes (decide_eq_true hs) ?_
      refine OptK.mk _ rfl ?_
      ((repeat' first | refine DecK.tt ?_ | refine DecK.ff ?_ | refine DecK.beq (fun _ => ?_) (fun _ => ?_) | refine DecK.bne (fun _ => ?_) (fun _ => ?_) | refine DecK.dec (fun _ => ?_) (fun _ => ?_) | refine OptK.mk _ rfl ?_ | refine endV (by rfl) ?_) <;> (try with_reducible rfl))
      rfl
  · obtain ⟨a, b, hab⟩ := good_ex hg (show -1152921504606846976 ≤ N ∧ N ≤ 1152921504606846976 by omega) (show 1 ≤ most ∧ most < D by omega)
    refine ⟨a, b, hab, ?_⟩
    refine pure_of_wp of47 (Nat.le_of_ble_eq_true rfl) ?_
    refine CallK.mk _ tc rfl ?_
    refine DecK.ff ?_
    refine DecK.no (decide_eq_false (by omega)) ?_
    refine DecK.no (decide_eq_false (by omega)) ?_
    refine DecK.no (decide_eq_false hs) ?_
    refine OptK.mk _ rfl ?_
    refine OptK.mk _ rfl ?_
    refine loop_eq (st' := ⟨[(1, .v (.n .i64 most)), (2, .ref 2 0), (4, .ref 4 0), (7, .ref 7 0), (8, .ref 8 0), (9, .v (.n .i64 N)), (10, .v (.n .i64 D))], [(8, frC 1 0), (7, frC 0 1), (4, frC 0 0), (2, frC N D)]⟩) rfl ?_
    refine loop_ind3 (fun (c : Int × Int × Int × Int) (n d : Int) => ⟨[(1, .v (.n .i64 most)), (2, .ref 2 0), (4, .ref 4 0), (7, .ref 7 0), (8, .ref 8 0), (9, .v (.n .i64 n)), (10, .v (.n .i64 d))], [(8, frC c.2.2.1 c.2.2.2), (7, frC c.1 c.2.1), (4, frC 0 0), (2, frC N D)]⟩)
      (fun c n d => if c.2.2.2 = 0 then D.toNat + 1 else d.toNat)
      (fun c n d => (c = (0, 1, 1, 0) ∧ n = N ∧ d = D) ∨ ConvI N D most c.1 c.2.1 c.2.2.1 c.2.2.2 n d) (0, 1, 1, 0) N D (.inl ⟨rfl, rfl, rfl⟩) ?_
    rintro ⟨p0, p1, q0, q1⟩ n d hI ih
    simp only at hI ih
    have hN : -1152921504606846976 ≤ N ∧ N ≤ 1152921504606846976 := by omega
    have hmD : 1 ≤ most ∧ most < D := by omega
    rcases hI with ⟨he, rfl, rfl⟩ | hI
    · obtain ⟨rfl, rfl, rfl, rfl⟩ : p0 = 0 ∧ p1 = 1 ∧ q0 = 1 ∧ q1 = 0 := by simpa using he
      have hf := conv_first hg hmD
      have tf := floorDiv_ok n d (by unfold fits; omega) (by unfold fits; omega)
      rw [if_neg (by omega)] at tf
      obtain ⟨t, et⟩ : ∃ t, t = n / d := ⟨_, rfl⟩
      rw [← et] at tf hf
      refine CallK.mk _ tf rfl ?_
      refine OptK.mk _ rfl ?_
      refine OptK.mk _ rfl ?_
      refine DecK.no rfl ?_
      repeat' (refine DecK.ff ?_)
      repeat' (refine OptK.mk _ rfl ?_)
      have b1 := Int.ediv_mul_le n (show d ≠ 0 by omega)
      have b2 := Int.lt_ediv_add_one_mul_self n (show 0 < d by omega)
      rw [← et] at b1 b2
      rw [Int.add_mul] at b2
      have bt := (conv_in hN hmD hf).2
      refine loop_eq ?_ (ih (1, t, 0, 1) d (n - t * d) (.inr hf) (by dsimp only; rw [if_neg (by decide), if_pos rfl]; omega))
      rw [w64 (n := t * d) (by omega), w64 (n := n - t * d) (by omega), Int.mul_zero, Int.mul_one, w64 (n := t) (by omega), w64 (n := 0 + t) (by omega), Int.zero_add]
      rfl
    · have hc := hI
      obtain ⟨s, hs', a1, a2, a3, a4, a5, a6, a7, a8, a9, a10, a11, a12⟩ := hc
      have tf := floorDiv_ok n d (by unfold fits; omega) (by unfold fits; omega)
      rw [if_neg (by omega)] at tf
      have hst := fun ht => conv_step hg hmD hI ht
      have hen := fun ht => conv_end (k := (most - q0) / q1) hN hmD hI rfl ht rfl rfl rfl
      obtain ⟨t, et⟩ : ∃ t, t = n / d := ⟨_, rfl⟩
      obtain ⟨k, ek⟩ : ∃ k, k = (most - q0) / q1 := ⟨_, rfl⟩
      rw [← et] at tf
      rw [← et, ← ek] at hst hen
      refine CallK.mk _ tf rfl ?_
      refine OptK.mk _ rfl ?_
      refine OptK.mk _ rfl ?_
      refine DecK.yes (decide_eq_true a5) ?_
      repeat' (refine OptK.mk _ rfl ?_)
      refine OptK.mk _ (op_quo (y := q1) (by omega)) ?_
      have w1 : IntKind.i64.wrap (IntKind.i64.wrap (most - q0) |>.tdiv q1) = k := by
        have h1 : 0 ≤ k := by rw [ek]; exact Int.ediv_nonneg (show 0 ≤ most - q0 by omega) (show 0 ≤ q1 by omega)
        have h2 : k ≤ most - q0 := by rw [ek]; exact Int.ediv_le_self q1 (show 0 ≤ most - q0 by omega)
        rw [w64 (n := most - q0) (by omega), Int.tdiv_eq_ediv_of_nonneg (by omega), ← ek, w64 (by omega)]
      have bp := conv_in hN hmD hI
      refine DecK.dec (fun ht => ?_) (fun ht => ?_)
      · rw [w1] at ht
        obtain ⟨b1, b2, b3, b4, b5, b6, b7, b8, b9, b10, b11, b12, b13, b14, b15, b16, b17, b18, b19⟩ := hen ht
        obtain ⟨p, ep⟩ : ∃ p, p = p0 + k * p1 := ⟨_, rfl⟩
        obtain ⟨q, eq⟩ : ∃ q, q = q0 + k * q1 := ⟨_, rfl⟩
        obtain ⟨e, ee⟩ : ∃ e, e = n - k * d := ⟨_, rfl⟩
        rw [← ep, ← eq] at b5
        rw [← ee] at b5 b7 b8 b15 b16 b19
        rw [← eq] at b1 b2 b13 b15 b16
        rw [← ep] at b11 b13 b16
        have wp : IntKind.i64.wrap (p0 + IntKind.i64.wrap (k * p1)) = p := by rw [w64 (n := k * p1) (by omega), ← ep, w64 (by omega)]
        have wq : IntKind.i64.wrap (q0 + IntKind.i64.wrap (k * q1)) = q := by rw [w64 (n := k * q1) (by omega), ← eq, w64 (by omega)]
        have hD : 0 ≤ D ∧ D ≤ 1152921504606846976 := by omega
        have y1 := away_ok N D p q hN hD b11 (by omega) (by omega)
        have y2 := away_ok N D p1 q1 hN hD b12 (by omega) (by omega)
        rw [b5] at y1
        rw [b6] at y2
        repeat' (refine OptK.mk _ rfl ?_)
        refine OptK.mk _ (op_quo (y := q1) (by omega)) ?_
        rw [w1]
        repeat' (refine OptK.mk _ rfl ?_)
        rw [wp, wq]
        refine CallK.mk _ y1 rfl ?_
        repeat' (refine OptK.mk _ rfl ?_)
        refine CallK.mk _ (Product_ok e q1 (by unfold fits; omega) (by unfold fits; omega)) rfl ?_
        repeat' (refine OptK.mk _ rfl ?_)
        refine CallK.mk _ y2 rfl ?_
        repeat' (refine OptK.mk _ rfl ?_)
        refine CallK.mk _ (Product_ok d q (by unfold fits; omega) (by unfold fits; omega)) rfl ?_
        repeat' (refine OptK.mk _ rfl ?_)
        refine CallK.mk _ (wCmp_ok (d * q) (e * q1)) rfl ?_
        refine DecK.dec (fun g => ?_) (fun g => ?_)
        · obtain ⟨rfl, rfl⟩ := tops_unique hab.1 (b15 (icmp_le.1 g))
          repeat' (refine OptK.mk _ rfl ?_)
          ((repeat' first | refine DecK.tt ?_ | refine DecK.ff ?_ | refine DecK.beq (fun _ => ?_) (fun _ => ?_) | refine DecK.bne (fun _ => ?_) (fun _ => ?_) | refine DecK.dec (fun _ => ?_) (fun _ => ?_) | refine OptK.mk _ rfl ?_ | refine endV (by rfl) ?_) <;> (try with_reducible rfl))
          rfl
        · obtain ⟨rfl, rfl⟩ := tops_unique hab.1 (b16 (Int.not_le.1 fun h => g (icmp_le.2 h)))
          repeat' (refine OptK.mk _ rfl ?_)
          ((repeat' first | refine DecK.tt ?_ | refine DecK.ff ?_ | refine DecK.beq (fun _ => ?_) (fun _ => ?_) | refine DecK.bne (fun _ => ?_) (fun _ => ?_) | refine DecK.dec (fun _ => ?_) (fun _ => ?_) | refine OptK.mk _ rfl ?_ | refine endV (by rfl) ?_) <;> (try with_reducible rfl))
          rfl
      · rw [w1] at ht
        have h' := hst ht
        repeat' (refine OptK.mk _ rfl ?_)
        have bp' := conv_in hN hmD h'
        have h'' := h'
        obtain ⟨s', hs'', g1, g2, g3, g4, g5, g6, g7, g8, g9, g10, g11, g12⟩ := h''
        refine loop_eq ?_ (ih (p1, p0 + t * p1, q1, q0 + t * q1) d (n - t * d) (.inr h') (by dsimp only; rw [if_neg (by omega), if_neg (by omega)]; omega))
        rw [w64 (n := t * d) (by omega), w64 (n := n - t * d) (by omega), w64 (n := t * p1) (by omega), w64 (n := t * q1) (by omega), w64 (n := p0 + t * p1) (by omega), w64 (n := q0 + t * q1) (by omega)]
        rfl
end Go.Proofs.Ytjeafcngljbdlaa.Sv
