/- Fractions: the law FracRounds. No condition. -/
import Derived.Test.YtpggblmopgfloaaFi
namespace Go.Proofs.Ytpggblmopgfloaa.Sv
open Go Go.RowKit
set_option linter.unusedVariables false
set_option linter.unusedSimpArgs false
set_option maxRecDepth 100000
/-- spyglass/frac.rounded -/
def F100 : Fn1 := ⟨14, .seq (.reg [⟨some 2, none, .box, [.tm 0]⟩, ⟨some 4, none, .mv, [.cn (.n .i64 0)]⟩] [1, 2]) (.seq (.seq (.reg [⟨some 5, none, .ld true 2 false, [.tm 2]⟩, ⟨some 6, none, .call 58, [.tm 5]⟩, ⟨some 7, none, .po (.bin .neq), [.tm 6, .cn (.n .i64 0)]⟩] [1, 2, 7]) (.cond (.tm 7) (.seq (.reg [⟨some 4, none, .mv, [.cn (.n .i64 0)]⟩] [4]) .ret) .skip)) (.seq (.reg [⟨some 8, none, .mv, [.tm 1]⟩, ⟨some 9, none, .fa 0, [.tm 2]⟩, ⟨some 10, none, .ld false 1 false, [.tm 9]⟩, ⟨some 11, none, .fa 1, [.tm 2]⟩, ⟨some 12, none, .ld false 1 false, [.tm 11]⟩, ⟨some 13, none, .callD, [.tm 8, .tm 10, .tm 12]⟩, ⟨some 4, none, .mv, [.tm 13]⟩] [4]) .ret)), [.tm 4]⟩
theorem of100 : Fn1.of Try.prog 100 ⟨false, [], false⟩ [[1, 2], [1, 2, 7], [4], [4]] = some F100 := by kernel_rfl
/-- spyglass/frac.Floor -/
def F53 : Fn1 := ⟨5, .seq (.reg [⟨some 1, none, .box, [.tm 0]⟩, ⟨some 2, none, .mv, [.cn (.n .i64 0)]⟩] [1]) (.seq (.reg [⟨some 3, none, .ld true 2 false, [.tm 1]⟩, ⟨some 4, none, .call 100, [.tm 3, .cn (.clo (.func 101) [] [])]⟩, ⟨some 2, none, .mv, [.tm 4]⟩] [2]) .ret), [.tm 2]⟩
theorem of53 : Fn1.of Try.prog 53 ⟨false, [], false⟩ [[1], [2]] = some F53 := by kernel_rfl
/-- spyglass/frac.Ceil -/
def F54 : Fn1 := ⟨5, .seq (.reg [⟨some 1, none, .box, [.tm 0]⟩, ⟨some 2, none, .mv, [.cn (.n .i64 0)]⟩] [1]) (.seq (.reg [⟨some 3, none, .ld true 2 false, [.tm 1]⟩, ⟨some 4, none, .call 100, [.tm 3, .cn (.clo (.func 102) [] [])]⟩, ⟨some 2, none, .mv, [.tm 4]⟩] [2]) .ret), [.tm 2]⟩
theorem of54 : Fn1.of Try.prog 54 ⟨false, [], false⟩ [[1], [2]] = some F54 := by kernel_rfl
/-- spyglass/frac.Round -/
def F55 : Fn1 := ⟨5, .seq (.reg [⟨some 1, none, .box, [.tm 0]⟩, ⟨some 2, none, .mv, [.cn (.n .i64 0)]⟩] [1]) (.seq (.reg [⟨some 3, none, .ld true 2 false, [.tm 1]⟩, ⟨some 4, none, .call 100, [.tm 3, .cn (.clo (.func 103) [] [])]⟩, ⟨some 2, none, .mv, [.tm 4]⟩] [2]) .ret), [.tm 2]⟩
theorem of55 : Fn1.of Try.prog 55 ⟨false, [], false⟩ [[1], [2]] = some F55 := by kernel_rfl
/-- spyglass/frac.Cmp -/
def F52 : Fn1 := ⟨20, .seq (.reg [⟨some 2, none, .box, [.tm 0]⟩, ⟨some 3, none, .box, [.tm 1]⟩, ⟨some 4, none, .mv, [.cn (.n .i64 0)]⟩] [2, 3]) (.seq (.seq (.reg [⟨some 5, none, .ld true 2 false, [.tm 2]⟩, ⟨some 6, none, .ld true 2 false, [.tm 3]⟩, ⟨some 7, none, .call 97, [.tm 5, .tm 6]⟩, ⟨some 8, none, .po (.bin .neq), [.tm 7, .cn (.n .i64 0)]⟩] [2, 3, 8]) (.cond (.tm 8) (.seq (.reg [⟨some 4, none, .mv, [.cn (.n .i64 0)]⟩] [4]) .ret) .skip)) (.seq (.dreg [⟨some 9, none, .fa 0, [.tm 2]⟩, ⟨some 10, none, .ld false 1 false, [.tm 9]⟩, ⟨some 11, none, .fa 1, [.tm 3]⟩, ⟨some 12, none, .ld false 1 false, [.tm 11]⟩, ⟨some 13, none, .call 98, [.tm 10, .tm 12]⟩, ⟨some 14, none, .fa 0, [.tm 3]⟩, ⟨some 15, none, .ld false 1 false, [.tm 14]⟩, ⟨some 16, none, .fa 1, [.tm 2]⟩, ⟨some 17, none, .ld false 1 false, [.tm 16]⟩, ⟨some 18, none, .call 98, [.tm 15, .tm 17]⟩, ⟨some 19, none, .call 99, [.tm 13, .tm 18]⟩, ⟨some 4, none, .mv, [.tm 19]⟩] [] [4]) .ret)), [.tm 4]⟩
theorem of52 : Fn1.of Try.prog 52 ⟨false, [], false⟩ [[2, 3], [2, 3, 8], [4], [4]] = some F52 := by kernel_rfl
/-- spyglass/spylaw1.FracRounds -/
def F6 : Fn1 := ⟨75, .seq (.reg [⟨some 2, none, .box, [.tm 0]⟩, ⟨some 3, none, .box, [.tm 1]⟩, ⟨some 4, none, .mv, [.cn (.b false)]⟩] [2, 3]) (.seq (.reg [⟨some 5, none, .mv, [.cn (.n .i64 0)]⟩] [2, 3, 5]) (.seq (.reg [⟨some 6, none, .alloc [.b false, .sl 0 [] true], []⟩, ⟨some 7, none, .alloc [.b false, .sl 0 [] true], []⟩, ⟨some 8, none, .alloc [.b false, .sl 0 [] true], []⟩] [2, 3, 5, 6, 7, 8]) (.seq (.seq (.reg [⟨some 11, none, .ld true 2 false, [.tm 2]⟩, ⟨some 12, none, .call 46, [.tm 11]⟩, ⟨some 13, none, .po (.bin .eql), [.tm 12, .cn (.n .i64 0)]⟩] [2, 3, 5, 6, 7, 8, 13]) (.cond (.tm 13) (.seq (.dreg [⟨some 14, none, .fa 0, [.tm 2]⟩, ⟨some 15, none, .ld false 1 false, [.tm 14]⟩, ⟨some 16, none, .call 16, [.tm 15]⟩, ⟨some 17, none, .fa 1, [.tm 2]⟩, ⟨some 18, none, .ld false 1 false, [.tm 17]⟩, ⟨some 19, none, .call 16, [.tm 18]⟩, ⟨some 9, none, .alloc [.b false, .sl 0 [] true], []⟩, ⟨some 10, none, .alloc [.b false, .sl 0 [] true], []⟩, ⟨none, none, .st 2, [.tm 9, .tm 16]⟩, ⟨none, none, .st 2, [.tm 10, .tm 19]⟩] [] [2, 3, 5, 6, 7, 8, 9, 10]) (.seq (.dreg [⟨some 20, none, .ld true 2 false, [.tm 9]⟩, ⟨some 21, none, .ld true 2 false, [.tm 10]⟩, ⟨some 22, none, .call 47, [.tm 20, .tm 21]⟩, ⟨some 23, none, .ld true 2 false, [.tm 9]⟩, ⟨some 24, none, .ld true 2 false, [.tm 10]⟩, ⟨some 25, none, .call 48, [.tm 23, .tm 24]⟩, ⟨some 26, none, .ld true 2 false, [.tm 9]⟩, ⟨some 27, none, .ld true 2 false, [.tm 10]⟩, ⟨some 28, none, .call 49, [.tm 26, .tm 27]⟩, ⟨none, none, .st 2, [.tm 6, .tm 22]⟩, ⟨none, none, .st 2, [.tm 7, .tm 25]⟩, ⟨none, none, .st 2, [.tm 8, .tm 28]⟩] [] [2, 3, 5, 6, 7, 8, 9, 10]) (.seq (.reg [⟨some 29, none, .ld true 2 false, [.tm 3]⟩, ⟨some 30, none, .call 46, [.tm 29]⟩, ⟨some 31, none, .po (.bin .eql), [.tm 30, .cn (.n .i64 0)]⟩] [2, 3, 5, 6, 7, 8, 9, 10, 31]) (.cond (.tm 31) (.dreg [⟨some 32, none, .ld true 2 false, [.tm 9]⟩, ⟨some 33, none, .fa 1, [.tm 3]⟩, ⟨some 34, none, .ld false 1 false, [.tm 33]⟩, ⟨some 35, none, .call 16, [.tm 34]⟩, ⟨some 36, none, .call 50, [.tm 32, .tm 35]⟩, ⟨some 37, none, .fa 0, [.tm 3]⟩, ⟨some 38, none, .ld false 1 false, [.tm 37]⟩, ⟨some 39, none, .call 16, [.tm 38]⟩, ⟨some 40, none, .ld true 2 false, [.tm 10]⟩, ⟨some 41, none, .call 50, [.tm 39, .tm 40]⟩, ⟨some 42, none, .call 14, [.tm 36, .tm 41]⟩, ⟨some 5, none, .mv, [.tm 42]⟩] [] [2, 3, 5, 6, 7, 8]) .skip)))) .skip)) (.seq (.dreg [⟨some 43, none, .call 51, []⟩, ⟨some 44, none, .mv, [.tm 43]⟩, ⟨some 45, some (44, true), .ld true 2 false, [.tm 2]⟩, ⟨some 46, some (44, true), .ld true 2 false, [.tm 3]⟩, ⟨some 47, some (44, true), .call 52, [.tm 45, .tm 46]⟩, ⟨some 48, some (44, true), .mv, [.tm 5]⟩, ⟨some 49, some (44, true), .po (.bin .eql), [.tm 47, .tm 48]⟩, ⟨some 50, none, .pick, [.tm 44, .tm 49, .cn (.b false)]⟩, ⟨some 51, none, .mv, [.tm 50]⟩, ⟨some 52, some (51, true), .ld true 2 false, [.tm 6]⟩, ⟨some 53, some (51, true), .ld true 2 false, [.tm 2]⟩, ⟨some 54, some (51, true), .call 53, [.tm 53]⟩, ⟨some 55, some (51, true), .call 16, [.tm 54]⟩, ⟨some 56, some (51, true), .call 14, [.tm 52, .tm 55]⟩, ⟨some 57, some (51, true), .po (.bin .eql), [.tm 56, .cn (.n .i64 0)]⟩, ⟨some 58, none, .pick, [.tm 51, .tm 57, .cn (.b false)]⟩, ⟨some 59, none, .mv, [.tm 58]⟩, ⟨some 60, some (59, true), .ld true 2 false, [.tm 7]⟩, ⟨some 61, some (59, true), .ld true 2 false, [.tm 2]⟩, ⟨some 62, some (59, true), .call 54, [.tm 61]⟩, ⟨some 63, some (59, true), .call 16, [.tm 62]⟩, ⟨some 64, some (59, true), .call 14, [.tm 60, .tm 63]⟩, ⟨some 65, some (59, true), .po (.bin .eql), [.tm 64, .cn (.n .i64 0)]⟩, ⟨some 66, none, .pick, [.tm 59, .tm 65, .cn (.b false)]⟩, ⟨some 67, none, .mv, [.tm 66]⟩, ⟨some 68, some (67, true), .ld true 2 false, [.tm 8]⟩, ⟨some 69, some (67, true), .ld true 2 false, [.tm 2]⟩, ⟨some 70, some (67, true), .call 55, [.tm 69]⟩, ⟨some 71, some (67, true), .call 16, [.tm 70]⟩, ⟨some 72, some (67, true), .call 14, [.tm 68, .tm 71]⟩, ⟨some 73, some (67, true), .po (.bin .eql), [.tm 72, .cn (.n .i64 0)]⟩, ⟨some 74, none, .pick, [.tm 67, .tm 73, .cn (.b false)]⟩, ⟨some 4, none, .mv, [.tm 74]⟩] [] [4]) .ret)))), [.tm 4]⟩
theorem of6 : Fn1.of Try.prog 6 ⟨false, [], false⟩ [[2, 3], [2, 3, 5], [2, 3, 5, 6, 7, 8], [2, 3, 5, 6, 7, 8, 13], [2, 3, 5, 6, 7, 8, 9, 10], [2, 3, 5, 6, 7, 8, 9, 10], [2, 3, 5, 6, 7, 8, 9, 10, 31], [2, 3, 5, 6, 7, 8], [4]] = some F6 := by kernel_rfl
def rouF (n d : Int) (v : Int) : Int := if frErr n d ≠ 0 then 0 else v
theorem rounded_ok (n d v : Int) (g : Nat) (hn : fits n) (hd : fits d) (hp : frErr n d = 0 → Pure Try.prog g ([] ++ [.n .i64 n, .n .i64 d] ++ []) (.n .i64 v)) : Pure Try.prog 100 [fracV n d, .clo (.func g) [] []] (.n .i64 (rouF n d v)) := by
  refine pure_of_wp of100 (Nat.le_of_ble_eq_true rfl) ?_
  refine CallK.mk _ (frCheck_ok n d hn hd) rfl ?_
  unfold rouF
  refine DecK.bne (fun h => ?_) (fun h => ?_)
  · ((repeat' first | refine DecK.tt ?_ | refine DecK.ff ?_ | refine DecK.beq (fun _ => ?_) (fun _ => ?_) | refine DecK.bne (fun _ => ?_) (fun _ => ?_) | refine DecK.dec (fun _ => ?_) (fun _ => ?_) | refine OptK.mk _ rfl ?_ | refine endV (by rfl) ?_) <;> (try with_reducible rfl))
    rw [if_pos h]
  · refine CallK.mk _ (hp h) rfl ?_
    ((repeat' first | refine DecK.tt ?_ | refine DecK.ff ?_ | refine DecK.beq (fun _ => ?_) (fun _ => ?_) | refine DecK.bne (fun _ => ?_) (fun _ => ?_) | refine DecK.dec (fun _ => ?_) (fun _ => ?_) | refine OptK.mk _ rfl ?_ | refine endV (by rfl) ?_) <;> (try with_reducible rfl))
    rw [if_neg (by simpa using h)]
theorem frFloor_ok (n d : Int) (hn : fits n) (hd : fits d) : Pure Try.prog 53 [fracV n d] (.n .i64 (rouF n d (n / d))) := by
  refine pure_of_wp of53 (Nat.le_of_ble_eq_true rfl) ?_
  refine CallK.mk _ (rounded_ok n d (n / d) _ hn hd fun h => ?_) rfl ?_
  · have t := floorDiv_ok n d hn hd
    rw [if_neg (by have := (frErr_0 h).2.1; omega)] at t
    exact t
  ((repeat' first | refine DecK.tt ?_ | refine DecK.ff ?_ | refine DecK.beq (fun _ => ?_) (fun _ => ?_) | refine DecK.bne (fun _ => ?_) (fun _ => ?_) | refine DecK.dec (fun _ => ?_) (fun _ => ?_) | refine OptK.mk _ rfl ?_ | refine endV (by rfl) ?_) <;> (try with_reducible rfl))
theorem frCeil_ok (n d : Int) (hn : fits n) (hd : fits d) : Pure Try.prog 54 [fracV n d] (.n .i64 (rouF n d (cdiv n d))) := by
  refine pure_of_wp of54 (Nat.le_of_ble_eq_true rfl) ?_
  refine CallK.mk _ (rounded_ok n d (cdiv n d) _ hn hd fun h => ?_) rfl ?_
  · have t := ceilDiv_ok n d hn hd
    rw [if_neg (by have := (frErr_0 h).2.1; omega)] at t
    exact t
  ((repeat' first | refine DecK.tt ?_ | refine DecK.ff ?_ | refine DecK.beq (fun _ => ?_) (fun _ => ?_) | refine DecK.bne (fun _ => ?_) (fun _ => ?_) | refine DecK.dec (fun _ => ?_) (fun _ => ?_) | refine OptK.mk _ rfl ?_ | refine endV (by rfl) ?_) <;> (try with_reducible rfl))
theorem frRound_ok (n d : Int) (hn : fits n) (hd : fits d) : Pure Try.prog 55 [fracV n d] (.n .i64 (rouF n d (rnd n d))) := by
  refine pure_of_wp of55 (Nat.le_of_ble_eq_true rfl) ?_
  refine CallK.mk _ (rounded_ok n d (rnd n d) _ hn hd fun h => ?_) rfl ?_
  · have t := roundDiv_ok n d hn hd
    rw [if_neg (by have := (frErr_0 h).2.1; omega)] at t
    exact t
  ((repeat' first | refine DecK.tt ?_ | refine DecK.ff ?_ | refine DecK.beq (fun _ => ?_) (fun _ => ?_) | refine DecK.bne (fun _ => ?_) (fun _ => ?_) | refine DecK.dec (fun _ => ?_) (fun _ => ?_) | refine OptK.mk _ rfl ?_ | refine endV (by rfl) ?_) <;> (try with_reducible rfl))
def cmpF (p q r s : Int) : Int := if frErr p q = 0 ∧ frErr r s = 0 then icmp (p * s) (r * q) else 0
theorem frCmp_ok (p q r s : Int) (h1 : fits p) (h2 : fits q) (h3 : fits r) (h4 : fits s) : Pure Try.prog 52 [fracV p q, fracV r s] (.n .i64 (cmpF p q r s)) := by
  refine pure_of_wp of52 (Nat.le_of_ble_eq_true rfl) ?_
  refine CallK.mk _ (both_ok p q r s h1 h2 h3 h4) rfl ?_
  unfold cmpF
  refine DecK.bne (fun h => ?_) (fun h => ?_)
  · ((repeat' first | refine DecK.tt ?_ | refine DecK.ff ?_ | refine DecK.beq (fun _ => ?_) (fun _ => ?_) | refine DecK.bne (fun _ => ?_) (fun _ => ?_) | refine DecK.dec (fun _ => ?_) (fun _ => ?_) | refine OptK.mk _ rfl ?_ | refine endV (by rfl) ?_) <;> (try with_reducible rfl))
    rw [if_neg (fun k => h (by rw [k.1, k.2]; rfl))]
  · have hk : frErr p q = 0 ∧ frErr r s = 0 := by
      by_cases e : frErr p q = 0
      · rw [if_neg (by simpa using e)] at h; exact ⟨e, h⟩
      · rw [if_pos e] at h; exact absurd h e
    refine CallK.mk _ (Product_ok p s h1 h4) rfl ?_
    refine CallK.mk _ (Product_ok r q h3 h2) rfl ?_
    refine CallK.mk _ (wCmp_ok (p * s) (r * q)) rfl ?_
    ((repeat' first | refine DecK.tt ?_ | refine DecK.ff ?_ | refine DecK.beq (fun _ => ?_) (fun _ => ?_) | refine DecK.bne (fun _ => ?_) (fun _ => ?_) | refine DecK.dec (fun _ => ?_) (fun _ => ?_) | refine OptK.mk _ rfl ?_ | refine endV (by rfl) ?_) <;> (try with_reducible rfl))
    rw [if_pos hk]
theorem cdiv_in {a b : Int} (ha : -1152921504606846976 ≤ a ∧ a ≤ 1152921504606846976) (hb : 1 ≤ b) : -1152921504606846977 ≤ cdiv a b ∧ cdiv a b ≤ 1152921504606846977 := by
  obtain ⟨q, r, g1, g2, g3, g4, g5, g6⟩ := quo_all (a := a) (b := b) (by omega)
  omega
theorem rnd_in {a b : Int} (ha : -1152921504606846976 ≤ a ∧ a ≤ 1152921504606846976) (hb : 1 ≤ b) : -1152921504606846978 ≤ rnd a b ∧ rnd a b ≤ 1152921504606846978 := by
  obtain ⟨q, r, g1, g2, g3, g4, g5, g6⟩ := quo_all (a := a) (b := b) (by omega)
  omega
theorem fracRounds_pure (p q r s : Int) (h1 : fits p) (h2 : fits q) (h3 : fits r) (h4 : fits s) : Pure Try.prog 6 [fracV p q, fracV r s] (.b true) := by
  have tc := frCmp_ok p q r s h1 h2 h3 h4
  have tf := frFloor_ok p q h1 h2
  have tce := frCeil_ok p q h1 h2
  have tr := frRound_ok p q h1 h2
  refine pure_of_wp of6 (Nat.le_of_ble_eq_true rfl) ?_
  refine CallK.mk _ (fracErr_ok p q h1 h2) rfl ?_
  refine DecK.beq (fun g => ?_) (fun g => ?_)
  · obtain ⟨bp, bq, gp⟩ := frErr_0 g
    rw [rouF, if_neg (by simpa using g)] at tf tce tr
    have b1 : -1152921504606846976 ≤ p / q ∧ p / q ≤ 1152921504606846976 := by
      constructor
      · refine Int.le_ediv_of_mul_le (by omega) ?_
        omega
      · by_cases h : 0 ≤ p
        · have := Int.ediv_le_self q h; omega
        · have := Int.ediv_neg_of_neg_of_pos (show p < 0 by omega) (show 0 < q by omega); omega
    have b2 := cdiv_in bp bq.1
    have b3 := rnd_in bp bq.1
    have f1 : fits (p / q) := by unfold fits; omega
    have f2 : fits (cdiv p q) := by unfold fits; omega
    have f3 : fits (rnd p q) := by unfold fits; omega
    have zb1 : zb 11 (p / q) := f1.zb.mono (by decide)
    have zb2 : zb 11 (cdiv p q) := f2.zb.mono (by decide)
    have zb3 : zb 11 (rnd p q) := f3.zb.mono (by decide)
    have zp : zb 5 p := h1.zb.mono (by decide)
    have zq : zb 5 q := h2.zb.mono (by decide)
    have zr : zb 5 r := h3.zb.mono (by decide)
    have zs : zb 5 s := h4.zb.mono (by decide)
    have ce : ∀ x : Int, zb 11 x → Pure Try.prog 14 [zV x, zV x] (.n .i64 0) := fun x hx => by
      have := Cmp_ok x x (hx.mono (by decide)) (hx.mono (by decide))
      rwa [icmp_eq rfl] at this
    refine CallK.mk _ (I_ok p h1) rfl ?_
    refine CallK.mk _ (I_ok q h2) rfl ?_
    refine OptK.mk _ rfl ?_
    refine OptK.mk _ rfl ?_
    refine CallK.mk _ (Floor_ok p q (zp.mono (by decide)) (zq.mono (by decide)) (by omega)) rfl ?_
    refine CallK.mk _ (Ceil_ok p q (zp.mono (by decide)) (zq.mono (by decide)) (by omega)) rfl ?_
    refine CallK.mk _ (Round_ok p q (zp.mono (by decide)) (zq.mono (by decide)) (by omega)) rfl ?_
    refine OptK.mk _ rfl ?_
    refine OptK.mk _ rfl ?_
    refine OptK.mk _ rfl ?_
    refine CallK.mk _ (fracErr_ok r s h3 h4) rfl ?_
    refine DecK.beq (fun k => ?_) (fun k => ?_)
    · rw [cmpF, if_pos ⟨g, k⟩] at tc
      refine CallK.mk _ (I_ok s h4) rfl ?_
      refine CallK.mk _ (Times_ok p s (zp.mono (by decide)) (zs.mono (by decide))) rfl ?_
      refine CallK.mk _ (I_ok r h3) rfl ?_
      refine CallK.mk _ (Times_ok r q (zr.mono (by decide)) (zq.mono (by decide))) rfl ?_
      refine CallK.mk _ (Cmp_ok (p * s) (r * q) ((zp.mul zs).mono (by decide)) ((zr.mul zq).mono (by decide))) rfl ?_
      refine CallK.mk _ fracs_ok rfl ?_
      refine DecK.tt ?_
      refine CallK.mk _ tc rfl ?_
      refine DecK.yes (beq_self_eq_true _) ?_
      refine CallK.mk _ tf rfl ?_
      refine CallK.mk _ (I_ok (p / q) (by omega)) rfl ?_
      refine CallK.mk _ (ce (p / q) zb1) rfl ?_
      refine DecK.tt ?_
      refine CallK.mk _ tce rfl ?_
      refine CallK.mk _ (I_ok (cdiv p q) (by omega)) rfl ?_
      refine CallK.mk _ (ce (cdiv p q) zb2) rfl ?_
      refine DecK.tt ?_
      refine CallK.mk _ tr rfl ?_
      refine CallK.mk _ (I_ok (rnd p q) (by omega)) rfl ?_
      refine CallK.mk _ (ce (rnd p q) zb3) rfl ?_
      ((repeat' first | refine DecK.tt ?_ | refine DecK.ff ?_ | refine DecK.beq (fun _ => ?_) (fun _ => ?_) | refine DecK.bne (fun _ => ?_) (fun _ => ?_) | refine DecK.dec (fun _ => ?_) (fun _ => ?_) | refine OptK.mk _ rfl ?_ | refine endV (by rfl) ?_) <;> (try with_reducible rfl))
      rfl
    · rw [cmpF, if_neg (fun j => k j.2)] at tc
      refine CallK.mk _ fracs_ok rfl ?_
      refine DecK.tt ?_
      refine CallK.mk _ tc rfl ?_
      refine DecK.yes (beq_self_eq_true _) ?_
      refine CallK.mk _ tf rfl ?_
      refine CallK.mk _ (I_ok (p / q) (by omega)) rfl ?_
      refine CallK.mk _ (ce (p / q) zb1) rfl ?_
      refine DecK.tt ?_
      refine CallK.mk _ tce rfl ?_
      refine CallK.mk _ (I_ok (cdiv p q) (by omega)) rfl ?_
      refine CallK.mk _ (ce (cdiv p q) zb2) rfl ?_
      refine DecK.tt ?_
      refine CallK.mk _ tr rfl ?_
      refine CallK.mk _ (I_ok (rnd p q) (by omega)) rfl ?_
      refine CallK.mk _ (ce (rnd p q) zb3) rfl ?_
      ((repeat' first | refine DecK.tt ?_ | refine DecK.ff ?_ | refine DecK.beq (fun _ => ?_) (fun _ => ?_) | refine DecK.bne (fun _ => ?_) (fun _ => ?_) | refine DecK.dec (fun _ => ?_) (fun _ => ?_) | refine OptK.mk _ rfl ?_ | refine endV (by rfl) ?_) <;> (try with_reducible rfl))
      rfl
  · rw [rouF, if_pos g] at tf tce tr
    rw [cmpF, if_neg (fun k => g k.1)] at tc
    have z0 := I_ok 0 (by decide)
    have c0 := Cmp_ok 0 0 (by first | exact (zb_64 (by omega)).mono (by decide) | exact ((zb_64 (by omega)).mul (zb_64 (by omega))).mono (by decide)) (by first | exact (zb_64 (by omega)).mono (by decide) | exact ((zb_64 (by omega)).mul (zb_64 (by omega))).mono (by decide))
    rw [icmp_eq rfl] at c0
    refine CallK.mk _ fracs_ok rfl ?_
    refine DecK.tt ?_
    refine CallK.mk _ tc rfl ?_
    refine DecK.tt ?_
    have e0 : VLe (.agg [.b false, .sl 0 [] true]) (zV 0) := by have := zT (g := 0) (t := true); rwa [zCt_zero] at this
    have c1 := Pure.of (.cons e0 (.cons (.refl _) .nil)) c0
    refine CallK.mk _ tf rfl ?_
    refine CallK.mk _ z0 rfl ?_
    refine CallK.mk _ c1 rfl ?_
    refine DecK.tt ?_
    refine CallK.mk _ tce rfl ?_
    refine CallK.mk _ z0 rfl ?_
    refine CallK.mk _ c1 rfl ?_
    refine DecK.tt ?_
    refine CallK.mk _ tr rfl ?_
    refine CallK.mk _ z0 rfl ?_
    refine CallK.mk _ c1 rfl ?_
    ((repeat' first | refine DecK.tt ?_ | refine DecK.ff ?_ | refine DecK.beq (fun _ => ?_) (fun _ => ?_) | refine DecK.bne (fun _ => ?_) (fun _ => ?_) | refine DecK.dec (fun _ => ?_) (fun _ => ?_) | refine OptK.mk _ rfl ?_ | refine endV (by rfl) ?_) <;> (try with_reducible rfl))
    rfl
end Go.Proofs.Ytpggblmopgfloaa.Sv
