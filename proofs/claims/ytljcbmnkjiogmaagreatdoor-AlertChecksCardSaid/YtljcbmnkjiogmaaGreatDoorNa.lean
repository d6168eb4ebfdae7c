/- Numbers of 64 bits: the program's package num. No condition. -/
import Derived.Test.YtljcbmnkjiogmaaGreatDoorZf
import Derived.Test.YtljcbmnkjiogmaaGreatDoorWc
namespace Go.Proofs.YtljcbmnkjiogmaaGreatDoor.Sv
open Go Go.RowKit
set_option linter.unusedVariables false
set_option linter.unusedSimpArgs false
set_option maxRecDepth 100000
/-- live: [3, 6, 7, 8] -/
def L27_0 : SC := .seq (.reg [⟨some 9, none, .po (.bin .lss), [.tm 8, .tm 7]⟩] [3, 6, 7, 8, 9]) (.seq (.cond (.tm 9) .skip (.exit 0)) (.seq (.block 1 (.seq (.reg [⟨some 10, none, .ia none 1, [.tm 6, .tm 8]⟩, ⟨some 11, none, .ld false 1 true, [.tm 10]⟩, ⟨some 5, none, .mv, [.tm 11]⟩] [3, 5, 6, 7, 8]) (.seq (.reg [⟨some 12, none, .mv, [.tm 5]⟩, ⟨some 13, none, .mv, [.tm 3]⟩, ⟨some 14, none, .po (.bin .neq), [.tm 12, .tm 13]⟩] [3, 5, 6, 7, 8, 14]) (.cond (.tm 14) (.seq (.reg [⟨some 15, none, .mv, [.tm 5]⟩, ⟨some 2, none, .mv, [.tm 15]⟩] [2]) .ret) .skip)))) (.reg [⟨some 16, none, .po (.bin .add), [.tm 8, .cn (.n .i64 1)]⟩, ⟨some 8, none, .mv, [.tm 16]⟩] [3, 6, 7, 8])))
/-- cmp.Or(int) -/
def F27 : Fn1 := ⟨18, .seq (.reg [⟨some 2, none, .mv, [.cn (.n .i64 0)]⟩] [0]) (.seq (.reg [⟨some 3, none, .mv, [.cn (.n .i64 0)]⟩] [0, 3]) (.seq (.seq (.reg [⟨some 6, none, .mv, [.tm 0]⟩, ⟨some 7, none, .len false, [.tm 6]⟩, ⟨some 8, none, .mv, [.cn (.n .i64 0)]⟩] [3, 6, 7, 8]) (.block 0 (.loop [3, 6, 7, 8] L27_0))) (.seq (.reg [⟨some 17, none, .mv, [.tm 3]⟩, ⟨some 2, none, .mv, [.tm 17]⟩] [2]) .ret))), [.tm 2]⟩
theorem of27 : Fn1.of Tryz.prog 27 ⟨false, [], false⟩ [[0], [0, 3], [3, 6, 7, 8], [3, 6, 7, 8], [3, 6, 7, 8, 9], [3, 5, 6, 7, 8], [3, 5, 6, 7, 8, 14], [2], [3, 6, 7, 8], [2]] = some F27 := by kernel_rfl
/-- Shifts and masks as quotients and rests. -/
theorem and32 {x : Int} (h : 0 ≤ x ∧ x ≤ 18446744073709551615) : IntKind.u64.wrap ((BitVec.ofInt IntKind.u64.bits x &&& BitVec.ofInt IntKind.u64.bits 4294967295).toNat : Nat) = x % 4294967296 := by
  obtain ⟨n, rfl⟩ : ∃ n : Nat, x = n := ⟨x.toNat, by omega⟩
  have e : (BitVec.ofInt IntKind.u64.bits (n : Int) &&& BitVec.ofInt IntKind.u64.bits 4294967295).toNat = n % 4294967296 := by
    show (BitVec.ofInt 64 (n : Int) &&& BitVec.ofInt 64 4294967295).toNat = _
    rw [BitVec.toNat_and, BitVec.ofInt_natCast, BitVec.toNat_ofNat, Nat.mod_eq_of_lt (by omega)]
    show n &&& 4294967295 = _
    exact Nat.and_two_pow_sub_one_eq_mod n 32
  rw [e, wmu64]
  omega
theorem mul_lt32 {a b : Int} (ha : 0 ≤ a ∧ a ≤ 4294967295) (hb : 0 ≤ b ∧ b ≤ 4294967295) : 0 ≤ a * b ∧ a * b ≤ 18446744065119617025 :=
  ⟨Int.mul_nonneg ha.1 hb.1, Int.mul_le_mul ha.2 hb.2 hb.1 (by omega)⟩
/-! ### Numbers of 128 bits -/
abbrev wideC (w : Int) : List V := [.n .i64 (w / 18446744073709551616), .n .u64 (w % 18446744073709551616)]
abbrev wideV (w : Int) : V := .agg (wideC w)
def fits2 (w : Int) : Prop := -170141183460469231731687303715884105728 ≤ w ∧ w ≤ 170141183460469231731687303715884105727
def m128 (x : Int) : Int := (x + 170141183460469231731687303715884105728) % 340282366920938463463374607431768211456 - 170141183460469231731687303715884105728
theorem m128_in {x : Int} (h : fits2 x) : m128 x = x := by unfold fits2 at h; unfold m128; omega
theorem not64 {x : Int} (h : 0 ≤ x ∧ x ≤ 18446744073709551615) : IntKind.u64.wrap ((BitVec.ofInt IntKind.u64.bits (if IntKind.u64.signed = true then -1 else IntKind.u64.max) ^^^ BitVec.ofInt IntKind.u64.bits x).toNat : Nat) = 18446744073709551615 - x := by
  obtain ⟨n, rfl⟩ : ∃ n : Nat, x = n := ⟨x.toNat, by omega⟩
  have e : (BitVec.ofInt IntKind.u64.bits (if IntKind.u64.signed = true then -1 else IntKind.u64.max) ^^^ BitVec.ofInt IntKind.u64.bits (n : Int)).toNat = 18446744073709551615 - n := by
    show (BitVec.ofInt 64 18446744073709551615 ^^^ BitVec.ofInt 64 (n : Int)).toNat = _
    rw [show BitVec.ofInt 64 18446744073709551615 = BitVec.allOnes 64 by decide, BitVec.allOnes_xor, BitVec.toNat_not, BitVec.ofInt_natCast, BitVec.toNat_ofNat, Nat.mod_eq_of_lt (by omega)]
  rw [e, wmu64]
  omega
theorem wide_end {hi lo w : Int} (h1 : hi = w / 18446744073709551616) (h2 : lo = w % 18446744073709551616) : V.agg [.n .i64 hi, .n .u64 lo] = wideV w := by rw [h1, h2]
/-- The first that is not 0. -/
def or0 : List Int → Int
  | [] => 0
  | x :: l => if x ≠ 0 then x else or0 l
theorem or_ok (l : List Int) (t : Bool) (hl : l.length ≤ 1000000) : Pure Tryz.prog 27 [.sl l.length (l.flatMap ni) t] (.n .i64 (or0 l)) := by
  refine pure_of_wp of27 (Nat.le_of_ble_eq_true rfl) ?_
  refine loop_ind (fun (i : Int) => ⟨[(3, .v (.n .i64 0)), (6, .v (.sl l.length (l.flatMap ni) t)), (7, .v (.n .i64 l.length)), (8, .v (.n .i64 i))], []⟩) (fun i => l.length - i.toNat)
    (fun i => 0 ≤ i ∧ i ≤ l.length ∧ or0 (l.drop i.toNat) = or0 l) 0 (by simp) ?_
  intro iz ⟨h1, h2, h3⟩ ih
  obtain ⟨i, rfl⟩ : ∃ i : Nat, iz = i := ⟨iz.toNat, by omega⟩
  simp only [Int.toNat_natCast] at h3
  refine DecK.dec (fun h => ?_) (fun h => ?_)
  · obtain ⟨x, hx, ex⟩ := drop_at (l := l) (k := i) (by omega)
    refine OptK.mk _ (ria i rfl (by omega)) ?_
    refine OptK.mk _ (rld1 (g := fun x => .n .i64 x) hx) ?_
    rw [ex, or0] at h3
    refine DecK.bne (fun h0 => ?_) (fun h0 => ?_)
    · ((repeat' first | refine DecK.tt ?_ | refine DecK.ff ?_ | refine DecK.beq (fun _ => ?_) (fun _ => ?_) | refine DecK.bne (fun _ => ?_) (fun _ => ?_) | refine DecK.dec (fun _ => ?_) (fun _ => ?_) | refine OptK.mk _ rfl ?_ | refine endV (by rfl) ?_) <;> (try with_reducible rfl))
      rw [if_pos h0] at h3
      rw [h3]
    · have w : IntKind.i64.wrap ((i : Int) + 1) = ((i + 1 : Nat) : Int) := by simp (discharger := omega) only [w64, wu64, wu8, w32, wu32, tdivC, tmodC]; omega
      refine ih _ ⟨?_, ?_, ?_⟩ ?_
      all_goals simp only [w, Int.toNat_natCast]
      · omega
      · omega
      · rw [if_neg (by simpa using h0)] at h3; exact h3
      · omega
  · ((repeat' first | refine DecK.tt ?_ | refine DecK.ff ?_ | refine DecK.beq (fun _ => ?_) (fun _ => ?_) | refine DecK.bne (fun _ => ?_) (fun _ => ?_) | refine DecK.dec (fun _ => ?_) (fun _ => ?_) | refine OptK.mk _ rfl ?_ | refine endV (by rfl) ?_) <;> (try with_reducible rfl))
    rw [List.drop_eq_nil_of_le (by omega), or0] at h3
    rw [← h3]
theorem mul_abs {a b : Int} (ha : fits a) (hb : fits b) : a.natAbs * b.natAbs ≤ 85070591730234615865843651857942052864 := by
  unfold fits at ha hb
  exact Nat.mul_le_mul (show a.natAbs ≤ 9223372036854775808 by omega) (show b.natAbs ≤ 9223372036854775808 by omega)
theorem mul_fits2 {a b : Int} (ha : fits a) (hb : fits b) : -85070591730234615865843651857942052864 ≤ a * b ∧ a * b ≤ 85070591730234615865843651857942052864 := by
  have := mul_abs ha hb
  have e := Int.natAbs_mul a b
  omega
theorem endTup {x y : Int} {b c : Bool} (h1 : x = y) (h2 : b = c) : V.tup [.n .i64 x, .b b] = V.tup [.n .i64 y, .b c] := by rw [h1, h2]
theorem smallT {n x : Int} (h1 : fits n) (h : x = n) : V.tup [.n .i64 x, .b true] = V.tup [.n .i64 (small n), .b (decide (fits n))] := by rw [small, if_pos h1, decide_eq_true h1, h]
theorem smallF {n : Int} (h1 : ¬ fits n) : V.tup [.n .i64 0, .b false] = V.tup [.n .i64 (small n), .b (decide (fits n))] := by rw [small, if_neg h1, decide_eq_false h1]
end Go.Proofs.YtljcbmnkjiogmaaGreatDoor.Sv
