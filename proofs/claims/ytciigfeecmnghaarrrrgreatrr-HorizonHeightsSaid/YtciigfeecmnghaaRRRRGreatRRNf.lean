/- Roots: the program's, and the statement on them. No condition. -/
import Derived.Test.YtciigfeecmnghaaRRRRGreatRRNe
import Derived.Test.YtciigfeecmnghaaRRRRGreatRRZg
namespace Go.Proofs.YtciigfeecmnghaaRRRRGreatRR.Sv
open Go Go.RowKit
set_option linter.unusedVariables false
set_option linter.unusedSimpArgs false
set_option maxRecDepth 100000
/-- live: [5, 6, 7, 8] -/
def L111_0 : SC := .seq (.seq (.reg [⟨some 25, none, .mv, [.tm 8]⟩, ⟨some 26, none, .po (.bin .gtr), [.tm 25, .cn (.n .u64 0)]⟩] [5, 6, 7, 8, 26]) (.cond (.tm 26) .skip (.exit 0))) (.seq (.block 1 (.seq (.reg [⟨some 30, none, .mv, [.tm 7]⟩, ⟨some 31, none, .mv, [.tm 8]⟩, ⟨some 32, none, .po (.bin .or), [.tm 30, .tm 31]⟩, ⟨some 33, none, .mv, [.tm 7]⟩, ⟨some 34, none, .mv, [.tm 8]⟩, ⟨some 35, none, .po (.bin .or), [.tm 33, .tm 34]⟩, ⟨some 36, none, .call 154, [.tm 32, .tm 35]⟩, ⟨some 29, none, .mv, [.tm 36]⟩, ⟨some 37, none, .po (.ext 0), [.tm 29]⟩, ⟨some 38, none, .po (.ext 1), [.tm 29]⟩, ⟨some 9, none, .mv, [.tm 37]⟩, ⟨some 10, none, .mv, [.tm 38]⟩] [5, 6, 7, 8, 9, 10]) (.seq (.reg [⟨some 39, none, .mv, [.tm 9]⟩, ⟨some 40, none, .mv, [.tm 5]⟩, ⟨some 41, none, .po (.bin .lss), [.tm 39, .tm 40]⟩, ⟨some 42, none, .mv, [.tm 41]⟩, ⟨some 43, some (42, false), .mv, [.tm 9]⟩, ⟨some 44, some (42, false), .mv, [.tm 5]⟩, ⟨some 45, some (42, false), .po (.bin .eql), [.tm 43, .tm 44]⟩, ⟨some 46, some (42, false), .mv, [.tm 45]⟩, ⟨some 47, some (46, true), .mv, [.tm 10]⟩, ⟨some 48, some (46, true), .mv, [.tm 6]⟩, ⟨some 49, some (46, true), .po (.bin .leq), [.tm 47, .tm 48]⟩, ⟨some 50, some (42, false), .pick, [.tm 46, .tm 49, .cn (.b false)]⟩, ⟨some 51, none, .pick, [.tm 42, .cn (.b true), .tm 50]⟩] [5, 6, 7, 8, 51]) (.cond (.tm 51) (.reg [⟨some 52, none, .mv, [.tm 7]⟩, ⟨some 53, none, .mv, [.tm 8]⟩, ⟨some 54, none, .po (.bin .or), [.tm 52, .tm 53]⟩, ⟨some 7, none, .mv, [.tm 54]⟩] [5, 6, 7, 8]) .skip)))) (.reg [⟨some 27, none, .mv, [.tm 8]⟩, ⟨some 28, none, .po (.bin .shr), [.tm 27, .cn (.n .u64 1)]⟩, ⟨some 8, none, .mv, [.tm 28]⟩] [5, 6, 7, 8]))
/-- spyglass/num.SqrtMul -/
def F111 : Fn1 := ⟨57, .seq (.reg [⟨some 4, none, .mv, [.cn (.n .i64 0)]⟩] [0, 1]) (.seq (.seq (.reg [⟨some 11, none, .mv, [.tm 0]⟩, ⟨some 12, none, .po (.bin .lss), [.tm 11, .cn (.n .i64 0)]⟩, ⟨some 13, none, .mv, [.tm 12]⟩, ⟨some 14, some (13, false), .mv, [.tm 1]⟩, ⟨some 15, some (13, false), .po (.bin .lss), [.tm 14, .cn (.n .i64 0)]⟩, ⟨some 16, none, .pick, [.tm 13, .cn (.b true), .tm 15]⟩] [0, 1, 16]) (.cond (.tm 16) (.seq (.reg [⟨some 4, none, .mv, [.cn (.n .i64 0)]⟩] [4]) .ret) .skip)) (.seq (.reg [⟨some 18, none, .mv, [.tm 0]⟩, ⟨some 19, none, .po (.toInt .u64), [.tm 18]⟩, ⟨some 20, none, .mv, [.tm 1]⟩, ⟨some 21, none, .po (.toInt .u64), [.tm 20]⟩, ⟨some 22, none, .call 154, [.tm 19, .tm 21]⟩, ⟨some 17, none, .mv, [.tm 22]⟩, ⟨some 23, none, .po (.ext 0), [.tm 17]⟩, ⟨some 24, none, .po (.ext 1), [.tm 17]⟩, ⟨some 5, none, .mv, [.tm 23]⟩, ⟨some 6, none, .mv, [.tm 24]⟩] [5, 6]) (.seq (.reg [⟨some 7, none, .mv, [.cn (.n .u64 0)]⟩] [5, 6, 7]) (.seq (.seq (.reg [⟨some 8, none, .mv, [.cn (.n .u64 4611686018427387904)]⟩] [5, 6, 7, 8]) (.block 0 (.loop [5, 6, 7, 8] L111_0))) (.seq (.reg [⟨some 55, none, .mv, [.tm 7]⟩, ⟨some 56, none, .po (.toInt .i64), [.tm 55]⟩, ⟨some 4, none, .mv, [.tm 56]⟩] [4]) .ret))))), [.tm 4]⟩
theorem of111 : Fn1.of Tryz.prog 111 ⟨false, [], false⟩ [[0, 1], [0, 1, 16], [4], [5, 6], [5, 6, 7], [5, 6, 7, 8], [5, 6, 7, 8], [5, 6, 7, 8, 26], [5, 6, 7, 8, 9, 10], [5, 6, 7, 8, 51], [5, 6, 7, 8], [5, 6, 7, 8], [4]] = some F111 := by kernel_rfl
/-- spyglass/num.Sqrt -/
def F100 : Fn1 := ⟨5, .seq (.reg [⟨some 2, none, .mv, [.cn (.n .i64 0)]⟩] [0]) (.seq (.reg [⟨some 3, none, .mv, [.tm 0]⟩, ⟨some 4, none, .call 111, [.tm 3, .cn (.n .i64 1)]⟩, ⟨some 2, none, .mv, [.tm 4]⟩] [2]) .ret), [.tm 2]⟩
theorem of100 : Fn1.of Tryz.prog 100 ⟨false, [], false⟩ [[0], [2]] = some F100 := by kernel_rfl
theorem sqrtMul_neg (a b : Int) (h : a < 0 ∨ b < 0) : Pure Tryz.prog 111 [.n .i64 a, .n .i64 b] (.n .i64 0) := by
  refine pure_of_wp of111 (Nat.le_of_ble_eq_true rfl) ?_
  by_cases ha : a < 0
  · refine DecK.yes (decide_eq_true ha) ?_
    ((repeat' first | refine DecK.tt ?_ | refine DecK.ff ?_ | refine DecK.beq (fun _ => ?_) (fun _ => ?_) | refine DecK.bne (fun _ => ?_) (fun _ => ?_) | refine DecK.dec (fun _ => ?_) (fun _ => ?_) | refine OptK.mk _ rfl ?_ | refine endV (by rfl) ?_) <;> (try with_reducible rfl))
  · refine DecK.no (decide_eq_false ha) ?_
    refine DecK.yes (decide_eq_true (by omega)) ?_
    ((repeat' first | refine DecK.tt ?_ | refine DecK.ff ?_ | refine DecK.beq (fun _ => ?_) (fun _ => ?_) | refine DecK.bne (fun _ => ?_) (fun _ => ?_) | refine DecK.dec (fun _ => ?_) (fun _ => ?_) | refine OptK.mk _ rfl ?_ | refine endV (by rfl) ?_) <;> (try with_reducible rfl))
theorem sqrtMul_ok (a b r0 : Int) (ha : fits a) (hb : fits b) (ha0 : 0 ≤ a) (hb0 : 0 ≤ b) (hr0 : 0 ≤ r0) (hr1 : r0 * r0 ≤ a * b) (hr2 : a * b < (r0 + 1) * (r0 + 1)) :
    Pure Tryz.prog 111 [.n .i64 a, .n .i64 b] (.n .i64 r0) := by
  refine pure_of_wp of111 (Nat.le_of_ble_eq_true rfl) ?_
  unfold fits at ha hb
  refine DecK.no (decide_eq_false (by omega)) ?_
  refine DecK.no (decide_eq_false (by omega)) ?_
  have ea : IntKind.u64.wrap a = a := wu64 (by omega)
  have eb : IntKind.u64.wrap b = b := wu64 (by omega)
  obtain ⟨N, hN⟩ : ∃ N, N = a * b := ⟨_, rfl⟩
  have hN0 : 0 ≤ N := by rw [hN]; exact Int.mul_nonneg ha0 hb0
  have hN1 : N ≤ 9223372036854775807 * 9223372036854775807 := by rw [hN]; exact Int.mul_le_mul ha.2 hb.2 hb0 (by omega)
  rw [← hN] at hr1 hr2
  refine CallK.mk _ ((Mul64_ok a b (by omega) (by omega)).args (by rw [ea, eb])) rfl ?_
  rw [← hN]
  have sh : ∀ z : Int, z.fdiv (2 ^ min (Int.toNat 1) IntKind.u64.bits) = z / 2 := fun z => Int.fdiv_eq_ediv_of_nonneg z (by decide)
  refine loop_ind2 (fun (r b : Int) => ⟨[(5, .v (.n .u64 (N / 18446744073709551616))), (6, .v (.n .u64 (N % 18446744073709551616))), (7, .v (.n .u64 r)), (8, .v (.n .u64 b))], []⟩) (fun r b => b.toNat)
    (fun r b => ∃ q m : Nat, r = (q * 2 ^ m : Nat) ∧ b = (2 ^ m / 2 : Nat) ∧ m ≤ 63 ∧ (q + 1) * 2 ^ m ≤ 9223372036854775808 ∧ r * r ≤ N ∧ N < (r + (2 ^ m : Nat)) * (r + (2 ^ m : Nat))) 0 4611686018427387904
    ⟨0, 63, by decide, by decide, by decide, by decide, by omega, by simp; omega⟩ ?_
  intro r bt ⟨q, m, h1, h2, h3, h4, h5, h6⟩ ih
  subst h1
  subst h2
  refine DecK.dec (fun hp => ?_) (fun hp => ?_)
  · obtain ⟨k, rfl⟩ : ∃ k, m = k + 1 := by
      cases m with
      | zero => exfalso; simp at hp
      | succ k => exact ⟨k, rfl⟩
    have eb2 : 2 ^ (k + 1) / 2 = 2 ^ k := by rw [Nat.pow_succ, Nat.mul_div_cancel _ (by decide)]
    have kpos : 0 < 2 ^ k := Nat.pow_pos (by decide)
    have hlt : 2 ^ k < 2 ^ (k + 1) := by rw [Nat.pow_succ]; omega
    rw [eb2] at hp ⊢
    have hor : IntKind.u64.wrap ((BitVec.ofInt IntKind.u64.bits ((q * 2 ^ (k + 1) : Nat) : Int) ||| BitVec.ofInt IntKind.u64.bits ((2 ^ k : Nat) : Int)).toNat : Nat) = ((q * 2 ^ (k + 1) + 2 ^ k : Nat) : Int) :=
      or_add hlt (by rw [Nat.add_mul] at h4; omega)
    obtain ⟨x, hx⟩ : ∃ x : Nat, x = q * 2 ^ (k + 1) + 2 ^ k := ⟨_, rfl⟩
    rw [← hx] at hor
    have hxlt : x < 9223372036854775808 := by rw [hx]; rw [Nat.add_mul] at h4; omega
    refine CallK.mk _ ((Mul64_ok x x (by omega) (by omega)).args (by rw [hor])) rfl ?_
    obtain ⟨X, hX⟩ : ∃ X : Int, X = x * x := ⟨_, rfl⟩
    have hX0 : 0 ≤ X := by rw [hX]; exact Int.mul_nonneg (by omega) (by omega)
    rw [← hX]
    have e2 : 2 ^ (k + 1) = 2 ^ k + 2 ^ k := by rw [Nat.pow_succ]; omega
    have ey : x = (2 * q + 1) * 2 ^ k := by rw [hx, e2]; grind
    have en : q * 2 ^ (k + 1) = 2 * q * 2 ^ k := by rw [e2]; grind
    have es : (q * 2 ^ (k + 1) + 2 ^ (k + 1) : Nat) = x + 2 ^ k := by rw [hx, e2]; omega
    have ef : ((2 ^ k : Nat) : Int).fdiv (2 ^ min (Int.toNat 1) IntKind.u64.bits) = (2 ^ k / 2 : Nat) := by rw [sh]; omega
    have h6' : N < ((x + 2 ^ k : Nat) : Int) * ((x + 2 ^ k : Nat) : Int) := by
      rw [← es]
      exact_mod_cast h6
    have hle : 2 ^ k ≤ 4611686018427387904 := Nat.pow_le_pow_right (n := 2) (by decide) (show k ≤ 62 by omega)
    have yes : X ≤ N → ∃ q' m' : Nat, (x : Int) = (q' * 2 ^ m' : Nat) ∧ ((2 ^ k / 2 : Nat) : Int) = (2 ^ m' / 2 : Nat) ∧ m' ≤ 63 ∧ (q' + 1) * 2 ^ m' ≤ 9223372036854775808 ∧ (x : Int) * x ≤ N ∧ N < ((x : Int) + (2 ^ m' : Nat)) * ((x : Int) + (2 ^ m' : Nat)) := fun h => by
      refine ⟨2 * q + 1, k, by rw [ey], rfl, by omega, ?_, by rw [← hX]; exact h, by exact_mod_cast h6'⟩
      have : (2 * q + 1 + 1) * 2 ^ k = (q + 1) * 2 ^ (k + 1) := by rw [e2]; grind
      omega
    have no : N < X → ∃ q' m' : Nat, ((q * 2 ^ (k + 1) : Nat) : Int) = (q' * 2 ^ m' : Nat) ∧ ((2 ^ k / 2 : Nat) : Int) = (2 ^ m' / 2 : Nat) ∧ m' ≤ 63 ∧ (q' + 1) * 2 ^ m' ≤ 9223372036854775808 ∧ ((q * 2 ^ (k + 1) : Nat) : Int) * (q * 2 ^ (k + 1) : Nat) ≤ N ∧ N < (((q * 2 ^ (k + 1) : Nat) : Int) + (2 ^ m' : Nat)) * (((q * 2 ^ (k + 1) : Nat) : Int) + (2 ^ m' : Nat)) := fun h => by
      refine ⟨2 * q, k, by rw [en], rfl, by omega, ?_, h5, ?_⟩
      · have : (2 * q + 1) * 2 ^ k + 2 ^ k = (q + 1) * 2 ^ (k + 1) := by rw [e2]; grind
        omega
      · rw [hX, hx] at h
        exact_mod_cast h
    have hdec : (2 ^ k / 2 : Nat) < 2 ^ k := by omega
    refine DecK.dec (fun c1 => ?_) (fun c1 => ?_)
    · refine DecK.tt ?_
      refine ih _ _ ?_ ?_
      · rw [hor, ef]; exact yes (by omega)
      · rw [ef]; omega
    · refine DecK.beq (fun c2 => ?_) (fun c2 => ?_)
      · refine DecK.dec (fun c3 => ?_) (fun c3 => ?_)
        · refine ih _ _ ?_ ?_
          · rw [hor, ef]; exact yes (by omega)
          · rw [ef]; omega
        · refine ih _ _ ?_ ?_
          · rw [ef]; exact no (by omega)
          · rw [ef]; omega
      · refine DecK.ff ?_
        refine ih _ _ ?_ ?_
        · rw [ef]; exact no (by omega)
        · rw [ef]; omega
  · have hm : m = 0 := by
      cases m with
      | zero => rfl
      | succ k =>
        exfalso
        have : 2 ^ (k + 1) / 2 = 2 ^ k := by rw [Nat.pow_succ, Nat.mul_div_cancel _ (by decide)]
        rw [this] at hp
        have : 0 < 2 ^ k := Nat.pow_pos (by decide)
        omega
    subst hm
    simp only [Nat.pow_zero, Nat.mul_one] at h4 h5 h6 ⊢
    have e := sqrt_unique (by omega) hr0 h5 h6 hr1 hr2
    ((repeat' first | refine DecK.tt ?_ | refine DecK.ff ?_ | refine DecK.beq (fun _ => ?_) (fun _ => ?_) | refine DecK.bne (fun _ => ?_) (fun _ => ?_) | refine DecK.dec (fun _ => ?_) (fun _ => ?_) | refine OptK.mk _ rfl ?_ | refine endV (by rfl) ?_) <;> (try with_reducible rfl))
    rw [e, w64 (by omega)]
theorem sqrt_ok (a r0 : Int) (ha : fits a) (ha0 : 0 ≤ a) (hr0 : 0 ≤ r0) (hr1 : r0 * r0 ≤ a) (hr2 : a < (r0 + 1) * (r0 + 1)) : Pure Tryz.prog 100 [.n .i64 a] (.n .i64 r0) := by
  refine pure_of_wp of100 (Nat.le_of_ble_eq_true rfl) ?_
  refine CallK.mk _ (sqrtMul_ok a 1 r0 ha (by decide) ha0 (by decide) hr0 (by omega) (by omega)) rfl ?_
  ((repeat' first | refine DecK.tt ?_ | refine DecK.ff ?_ | refine DecK.beq (fun _ => ?_) (fun _ => ?_) | refine DecK.bne (fun _ => ?_) (fun _ => ?_) | refine DecK.dec (fun _ => ?_) (fun _ => ?_) | refine OptK.mk _ rfl ?_ | refine endV (by rfl) ?_) <;> (try with_reducible rfl))
theorem sqrt_neg (a : Int) (ha0 : a < 0) : Pure Tryz.prog 100 [.n .i64 a] (.n .i64 0) := by
  refine pure_of_wp of100 (Nat.le_of_ble_eq_true rfl) ?_
  refine CallK.mk _ (sqrtMul_neg a 1 (.inl ha0)) rfl ?_
  ((repeat' first | refine DecK.tt ?_ | refine DecK.ff ?_ | refine DecK.beq (fun _ => ?_) (fun _ => ?_) | refine DecK.bne (fun _ => ?_) (fun _ => ?_) | refine DecK.dec (fun _ => ?_) (fun _ => ?_) | refine OptK.mk _ rfl ?_ | refine endV (by rfl) ?_) <;> (try with_reducible rfl))
theorem sqrt_int (a : Int) (h : 0 ≤ a) : ∃ r : Int, 0 ≤ r ∧ r * r ≤ a ∧ a < (r + 1) * (r + 1) := by
  obtain ⟨r, h1, h2⟩ := sqrt_ex a.toNat
  have e : (a.toNat : Int) = a := by omega
  refine ⟨r, by omega, ?_, ?_⟩
  · rw [← e]; exact_mod_cast h1
  · rw [← e]; exact_mod_cast h2
theorem root_fits {a b r : Int} (ha : fits a) (hb : fits b) (ha0 : 0 ≤ a) (hb0 : 0 ≤ b) (hr : 0 ≤ r) (h : r * r ≤ a * b) : fits r := by
  unfold fits at *
  refine ⟨by omega, ?_⟩
  rcases Int.lt_or_le r 9223372036854775808 with h' | h'
  · omega
  · exfalso
    have hs := sq_mono (show (0 : Int) ≤ 9223372036854775808 by decide) h'
    have e : a * b ≤ 9223372036854775807 * 9223372036854775807 := Int.mul_le_mul ha.2 hb.2 hb0 (by omega)
    omega
end Go.Proofs.YtciigfeecmnghaaRRRRGreatRR.Sv
