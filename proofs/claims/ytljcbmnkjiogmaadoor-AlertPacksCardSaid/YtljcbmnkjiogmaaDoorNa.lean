/- Numbers of 64 bits: the program's package num. No condition. -/
import Derived.Test.YtljcbmnkjiogmaaDoorZf
import Derived.Test.YtljcbmnkjiogmaaDoorWc
namespace Go.Proofs.YtljcbmnkjiogmaaDoor.Sv
open Go Go.RowKit
set_option linter.unusedVariables false
set_option linter.unusedSimpArgs false
set_option maxRecDepth 100000
/-- math/bits.Mul64 -/
def F79 : Fn1 := ⟨51, .seq (.reg [⟨some 4, none, .mv, [.cn (.n .u64 0)]⟩, ⟨some 5, none, .mv, [.cn (.n .u64 0)]⟩] [0, 1]) (.seq (.reg [⟨some 14, none, .mv, [.tm 0]⟩, ⟨some 15, none, .po (.bin .and), [.tm 14, .cn (.n .u64 4294967295)]⟩, ⟨some 6, none, .mv, [.tm 15]⟩] [0, 1, 6]) (.seq (.reg [⟨some 16, none, .mv, [.tm 0]⟩, ⟨some 17, none, .po (.bin .shr), [.tm 16, .cn (.n .u64 32)]⟩, ⟨some 7, none, .mv, [.tm 17]⟩] [0, 1, 6, 7]) (.seq (.reg [⟨some 18, none, .mv, [.tm 1]⟩, ⟨some 19, none, .po (.bin .and), [.tm 18, .cn (.n .u64 4294967295)]⟩, ⟨some 8, none, .mv, [.tm 19]⟩] [0, 1, 6, 7, 8]) (.seq (.reg [⟨some 20, none, .mv, [.tm 1]⟩, ⟨some 21, none, .po (.bin .shr), [.tm 20, .cn (.n .u64 32)]⟩, ⟨some 9, none, .mv, [.tm 21]⟩] [0, 1, 6, 7, 8, 9]) (.seq (.reg [⟨some 22, none, .mv, [.tm 6]⟩, ⟨some 23, none, .mv, [.tm 8]⟩, ⟨some 24, none, .po (.bin .mul), [.tm 22, .tm 23]⟩, ⟨some 10, none, .mv, [.tm 24]⟩] [0, 1, 6, 7, 8, 9, 10]) (.seq (.reg [⟨some 25, none, .mv, [.tm 7]⟩, ⟨some 26, none, .mv, [.tm 8]⟩, ⟨some 27, none, .po (.bin .mul), [.tm 25, .tm 26]⟩, ⟨some 28, none, .mv, [.tm 10]⟩, ⟨some 29, none, .po (.bin .shr), [.tm 28, .cn (.n .u64 32)]⟩, ⟨some 30, none, .po (.bin .add), [.tm 27, .tm 29]⟩, ⟨some 11, none, .mv, [.tm 30]⟩] [0, 1, 6, 7, 9, 11]) (.seq (.reg [⟨some 31, none, .mv, [.tm 11]⟩, ⟨some 32, none, .po (.bin .and), [.tm 31, .cn (.n .u64 4294967295)]⟩, ⟨some 12, none, .mv, [.tm 32]⟩] [0, 1, 6, 7, 9, 11, 12]) (.seq (.reg [⟨some 33, none, .mv, [.tm 11]⟩, ⟨some 34, none, .po (.bin .shr), [.tm 33, .cn (.n .u64 32)]⟩, ⟨some 13, none, .mv, [.tm 34]⟩] [0, 1, 6, 7, 9, 12, 13]) (.seq (.reg [⟨some 35, none, .mv, [.tm 12]⟩, ⟨some 36, none, .mv, [.tm 6]⟩, ⟨some 37, none, .mv, [.tm 9]⟩, ⟨some 38, none, .po (.bin .mul), [.tm 36, .tm 37]⟩, ⟨some 39, none, .po (.bin .add), [.tm 35, .tm 38]⟩, ⟨some 12, none, .mv, [.tm 39]⟩] [0, 1, 7, 9, 12, 13]) (.seq (.reg [⟨some 40, none, .mv, [.tm 7]⟩, ⟨some 41, none, .mv, [.tm 9]⟩, ⟨some 42, none, .po (.bin .mul), [.tm 40, .tm 41]⟩, ⟨some 43, none, .mv, [.tm 13]⟩, ⟨some 44, none, .po (.bin .add), [.tm 42, .tm 43]⟩, ⟨some 45, none, .mv, [.tm 12]⟩, ⟨some 46, none, .po (.bin .shr), [.tm 45, .cn (.n .u64 32)]⟩, ⟨some 47, none, .po (.bin .add), [.tm 44, .tm 46]⟩, ⟨some 4, none, .mv, [.tm 47]⟩] [0, 1, 4]) (.seq (.reg [⟨some 48, none, .mv, [.tm 0]⟩, ⟨some 49, none, .mv, [.tm 1]⟩, ⟨some 50, none, .po (.bin .mul), [.tm 48, .tm 49]⟩, ⟨some 5, none, .mv, [.tm 50]⟩] [4, 5]) .ret))))))))))), [.tm 4, .tm 5]⟩
theorem of79 : Fn1.of Tryd.prog 79 ⟨false, [], false⟩ [[0, 1], [0, 1, 6], [0, 1, 6, 7], [0, 1, 6, 7, 8], [0, 1, 6, 7, 8, 9], [0, 1, 6, 7, 8, 9, 10], [0, 1, 6, 7, 9, 11], [0, 1, 6, 7, 9, 11, 12], [0, 1, 6, 7, 9, 12, 13], [0, 1, 7, 9, 12, 13], [0, 1, 4], [4, 5]] = some F79 := by kernel_rfl
/-- Shifts and masks as quotients and rests. -/
theorem and32 {x : Int} (h : 0 ≤ x ∧ x ≤ 18446744073709551615) : IntKind.u64.wrap ((BitVec.ofInt IntKind.u64.bits x &&& BitVec.ofInt IntKind.u64.bits 4294967295).toNat : Nat) = x % 4294967296 := by
  obtain ⟨n, rfl⟩ : ∃ n : Nat, x = n := ⟨x.toNat, by omega⟩
  have e : (BitVec.ofInt IntKind.u64.bits (n : Int) &&& BitVec.ofInt IntKind.u64.bits 4294967295).toNat = n % 4294967296 := by
    show (BitVec.ofInt 64 (n : Int) &&& BitVec.ofInt 64 4294967295).toNat = _
    rw [BitVec.toNat_and, BitVec.ofInt_natCast, BitVec.toNat_ofNat, Nat.mod_eq_of_lt (by omega)]
    show n &&& 4294967295 = _
    exact Nat.and_two_pow_sub_one_eq_mod n 32
  rw [e, wmu64]
  omega
theorem mul_lt32 {a b : Int} (ha : 0 ≤ a ∧ a ≤ 4294967295) (hb : 0 ≤ b ∧ b ≤ 4294967295) : 0 ≤ a * b ∧ a * b ≤ 18446744065119617025 :=
  ⟨Int.mul_nonneg ha.1 hb.1, Int.mul_le_mul ha.2 hb.2 hb.1 (by omega)⟩
theorem Mul64_ok (x y : Int) (hx : 0 ≤ x ∧ x ≤ 18446744073709551615) (hy : 0 ≤ y ∧ y ≤ 18446744073709551615) :
    Pure Tryd.prog 79 [.n .u64 x, .n .u64 y] (.tup [.n .u64 (x * y / 18446744073709551616), .n .u64 (x * y % 18446744073709551616)]) := by
  refine pure_of_wp of79 (Nat.le_of_ble_eq_true rfl) ?_
  ((repeat' first | refine DecK.tt ?_ | refine DecK.ff ?_ | refine DecK.beq (fun _ => ?_) (fun _ => ?_) | refine DecK.bne (fun _ => ?_) (fun _ => ?_) | refine DecK.dec (fun _ => ?_) (fun _ => ?_) | refine OptK.mk _ rfl ?_ | refine endV (by rfl) ?_) <;> (try with_reducible rfl))
  have sh : ∀ z : Int, z.fdiv (2 ^ min (Int.toNat 32) IntKind.u64.bits) = z / 4294967296 := fun z => Int.fdiv_eq_ediv_of_nonneg z (by decide)
  simp only [sh, and32 hx, and32 hy]
  have bA : 0 ≤ x / 4294967296 ∧ x / 4294967296 ≤ 4294967295 := by omega
  have bB : 0 ≤ x % 4294967296 ∧ x % 4294967296 ≤ 4294967295 := by omega
  have bC : 0 ≤ y / 4294967296 ∧ y / 4294967296 ≤ 4294967295 := by omega
  have bD : 0 ≤ y % 4294967296 ∧ y % 4294967296 ≤ 4294967295 := by omega
  have ex : x = x / 4294967296 * 4294967296 + x % 4294967296 := by omega
  have ey : y = y / 4294967296 * 4294967296 + y % 4294967296 := by omega
  generalize x / 4294967296 = A at *
  generalize x % 4294967296 = B at *
  generalize y / 4294967296 = C at *
  generalize y % 4294967296 = D at *
  have exy : x * y = A * C * 18446744073709551616 + (A * D + B * C) * 4294967296 + B * D := by rw [ex, ey]; grind
  have b1 := mul_lt32 bA bC
  have b2 := mul_lt32 bA bD
  have b3 := mul_lt32 bB bC
  have b4 := mul_lt32 bB bD
  rw [exy]
  generalize A * C = p at *
  generalize A * D = q at *
  generalize B * C = r at *
  generalize B * D = s at *
  have e1 : IntKind.u64.wrap (IntKind.u64.wrap q + IntKind.u64.wrap s / 4294967296) = q + s / 4294967296 := by simp (discharger := omega) only [w64, wu64, wu8, w32, wu32, tdivC, tmodC]
  have e2 := and32 (x := q + s / 4294967296) (by omega)
  simp only [e1, e2]
  simp only [V.tup.injEq, V.agg.injEq, V.n.injEq, V.b.injEq, V.s.injEq, List.cons.injEq, true_and, and_true]
  refine ⟨?_, ?_⟩
  · simp (discharger := omega) only [w64, wu64, wu8, w32, wu32, tdivC, tmodC]
    omega
  · rw [wmu64]
/-! ### Numbers of 128 bits -/
abbrev wideC (w : Int) : List V := [.n .i64 (w / 18446744073709551616), .n .u64 (w % 18446744073709551616)]
abbrev wideV (w : Int) : V := .agg (wideC w)
def fits2 (w : Int) : Prop := -170141183460469231731687303715884105728 ≤ w ∧ w ≤ 170141183460469231731687303715884105727
def m128 (x : Int) : Int := (x + 170141183460469231731687303715884105728) % 340282366920938463463374607431768211456 - 170141183460469231731687303715884105728
theorem m128_in {x : Int} (h : fits2 x) : m128 x = x := by unfold fits2 at h; unfold m128; omega
theorem not64 {x : Int} (h : 0 ≤ x ∧ x ≤ 18446744073709551615) : IntKind.u64.wrap ((BitVec.ofInt IntKind.u64.bits (if IntKind.u64.signed = true then -1 else IntKind.u64.max) ^^^ BitVec.ofInt IntKind.u64.bits x).toNat : Nat) = 18446744073709551615 - x := by
  obtain ⟨n, rfl⟩ : ∃ n : Nat, x = n := ⟨x.toNat, by omega⟩
  have e : (BitVec.ofInt IntKind.u64.bits (if IntKind.u64.signed = true then -1 else IntKind.u64.max) ^^^ BitVec.ofInt IntKind.u64.bits (n : Int)).toNat = 18446744073709551615 - n := by
    show (BitVec.ofInt 64 18446744073709551615 ^^^ BitVec.ofInt 64 (n : Int)).toNat = _
    rw [show BitVec.ofInt 64 18446744073709551615 = BitVec.allOnes 64 by decide, BitVec.allOnes_xor, BitVec.toNat_not, BitVec.ofInt_natCast, BitVec.toNat_ofNat, Nat.mod_eq_of_lt (by omega)]
  rw [e, wmu64]
  omega
theorem wide_end {hi lo w : Int} (h1 : hi = w / 18446744073709551616) (h2 : lo = w % 18446744073709551616) : V.agg [.n .i64 hi, .n .u64 lo] = wideV w := by rw [h1, h2]
/-- The first that is not 0. -/
def or0 : List Int → Int
  | [] => 0
  | x :: l => if x ≠ 0 then x else or0 l
theorem mul_abs {a b : Int} (ha : fits a) (hb : fits b) : a.natAbs * b.natAbs ≤ 85070591730234615865843651857942052864 := by
  unfold fits at ha hb
  exact Nat.mul_le_mul (show a.natAbs ≤ 9223372036854775808 by omega) (show b.natAbs ≤ 9223372036854775808 by omega)
theorem mul_fits2 {a b : Int} (ha : fits a) (hb : fits b) : -85070591730234615865843651857942052864 ≤ a * b ∧ a * b ≤ 85070591730234615865843651857942052864 := by
  have := mul_abs ha hb
  have e := Int.natAbs_mul a b
  omega
theorem endTup {x y : Int} {b c : Bool} (h1 : x = y) (h2 : b = c) : V.tup [.n .i64 x, .b b] = V.tup [.n .i64 y, .b c] := by rw [h1, h2]
theorem smallT {n x : Int} (h1 : fits n) (h : x = n) : V.tup [.n .i64 x, .b true] = V.tup [.n .i64 (small n), .b (decide (fits n))] := by rw [small, if_pos h1, decide_eq_true h1, h]
theorem smallF {n : Int} (h1 : ¬ fits n) : V.tup [.n .i64 0, .b false] = V.tup [.n .i64 (small n), .b (decide (fits n))] := by rw [small, if_neg h1, decide_eq_false h1]
end Go.Proofs.YtljcbmnkjiogmaaDoor.Sv
