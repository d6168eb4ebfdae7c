/- Roots: the program's, and the statement on them. No condition. -/
import Derived.Test.YtkmlnmbhlkhgpaaNe
import Derived.Test.YtkmlnmbhlkhgpaaZg
namespace Go.Proofs.Ytkmlnmbhlkhgpaa.Sv
open Go Go.RowKit
set_option linter.unusedVariables false
set_option linter.unusedSimpArgs false
set_option maxRecDepth 100000
/-- live: [5, 6, 7, 8] -/
def L55_0 : SC := .seq (.seq (.reg [⟨some 25, none, .mv, [.tm 8]⟩, ⟨some 26, none, .po (.bin .gtr), [.tm 25, .cn (.n .u64 0)]⟩] [5, 6, 7, 8, 26]) (.cond (.tm 26) .skip (.exit 0))) (.seq (.block 1 (.seq (.reg [⟨some 30, none, .mv, [.tm 7]⟩, ⟨some 31, none, .mv, [.tm 8]⟩, ⟨some 32, none, .po (.bin .or), [.tm 30, .tm 31]⟩, ⟨some 33, none, .mv, [.tm 7]⟩, ⟨some 34, none, .mv, [.tm 8]⟩, ⟨some 35, none, .po (.bin .or), [.tm 33, .tm 34]⟩, ⟨some 36, none, .call 96, [.tm 32, .tm 35]⟩, ⟨some 29, none, .mv, [.tm 36]⟩, ⟨some 37, none, .po (.ext 0), [.tm 29]⟩, ⟨some 38, none, .po (.ext 1), [.tm 29]⟩, ⟨some 9, none, .mv, [.tm 37]⟩, ⟨some 10, none, .mv, [.tm 38]⟩] [5, 6, 7, 8, 9, 10]) (.seq (.reg [⟨some 39, none, .mv, [.tm 9]⟩, ⟨some 40, none, .mv, [.tm 5]⟩, ⟨some 41, none, .po (.bin .lss), [.tm 39, .tm 40]⟩, ⟨some 42, none, .mv, [.tm 41]⟩, ⟨some 43, some (42, false), .mv, [.tm 9]⟩, ⟨some 44, some (42, false), .mv, [.tm 5]⟩, ⟨some 45, some (42, false), .po (.bin .eql), [.tm 43, .tm 44]⟩, ⟨some 46, some (42, false), .mv, [.tm 45]⟩, ⟨some 47, some (46, true), .mv, [.tm 10]⟩, ⟨some 48, some (46, true), .mv, [.tm 6]⟩, ⟨some 49, some (46, true), .po (.bin .leq), [.tm 47, .tm 48]⟩, ⟨some 50, some (42, false), .pick, [.tm 46, .tm 49, .cn (.b false)]⟩, ⟨some 51, none, .pick, [.tm 42, .cn (.b true), .tm 50]⟩] [5, 6, 7, 8, 51]) (.cond (.tm 51) (.reg [⟨some 52, none, .mv, [.tm 7]⟩, ⟨some 53, none, .mv, [.tm 8]⟩, ⟨some 54, none, .po (.bin .or), [.tm 52, .tm 53]⟩, ⟨some 7, none, .mv, [.tm 54]⟩] [5, 6, 7, 8]) .skip)))) (.reg [⟨some 27, none, .mv, [.tm 8]⟩, ⟨some 28, none, .po (.bin .shr), [.tm 27, .cn (.n .u64 1)]⟩, ⟨some 8, none, .mv, [.tm 28]⟩] [5, 6, 7, 8]))
/-- spyglass/num.SqrtMul -/
def F55 : Fn1 := ⟨57, .seq (.reg [⟨some 4, none, .mv, [.cn (.n .i64 0)]⟩] [0, 1]) (.seq (.seq (.reg [⟨some 11, none, .mv, [.tm 0]⟩, ⟨some 12, none, .po (.bin .lss), [.tm 11, .cn (.n .i64 0)]⟩, ⟨some 13, none, .mv, [.tm 12]⟩, ⟨some 14, some (13, false), .mv, [.tm 1]⟩, ⟨some 15, some (13, false), .po (.bin .lss), [.tm 14, .cn (.n .i64 0)]⟩, ⟨some 16, none, .pick, [.tm 13, .cn (.b true), .tm 15]⟩] [0, 1, 16]) (.cond (.tm 16) (.seq (.reg [⟨some 4, none, .mv, [.cn (.n .i64 0)]⟩] [4]) .ret) .skip)) (.seq (.reg [⟨some 18, none, .mv, [.tm 0]⟩, ⟨some 19, none, .po (.toInt .u64), [.tm 18]⟩, ⟨some 20, none, .mv, [.tm 1]⟩, ⟨some 21, none, .po (.toInt .u64), [.tm 20]⟩, ⟨some 22, none, .call 96, [.tm 19, .tm 21]⟩, ⟨some 17, none, .mv, [.tm 22]⟩, ⟨some 23, none, .po (.ext 0), [.tm 17]⟩, ⟨some 24, none, .po (.ext 1), [.tm 17]⟩, ⟨some 5, none, .mv, [.tm 23]⟩, ⟨some 6, none, .mv, [.tm 24]⟩] [5, 6]) (.seq (.reg [⟨some 7, none, .mv, [.cn (.n .u64 0)]⟩] [5, 6, 7]) (.seq (.seq (.reg [⟨some 8, none, .mv, [.cn (.n .u64 4611686018427387904)]⟩] [5, 6, 7, 8]) (.block 0 (.loop [5, 6, 7, 8] L55_0))) (.seq (.reg [⟨some 55, none, .mv, [.tm 7]⟩, ⟨some 56, none, .po (.toInt .i64), [.tm 55]⟩, ⟨some 4, none, .mv, [.tm 56]⟩] [4]) .ret))))), [.tm 4]⟩
theorem of55 : Fn1.of Try.prog 55 false [[0, 1], [0, 1, 16], [4], [5, 6], [5, 6, 7], [5, 6, 7, 8], [5, 6, 7, 8], [5, 6, 7, 8, 26], [5, 6, 7, 8, 9, 10], [5, 6, 7, 8, 51], [5, 6, 7, 8], [5, 6, 7, 8], [4]] = some F55 := by kernel_rfl
/-- spyglass/num.Sqrt -/
def F54 : Fn1 := ⟨5, .seq (.reg [⟨some 2, none, .mv, [.cn (.n .i64 0)]⟩] [0]) (.seq (.reg [⟨some 3, none, .mv, [.tm 0]⟩, ⟨some 4, none, .call 55, [.tm 3, .cn (.n .i64 1)]⟩, ⟨some 2, none, .mv, [.tm 4]⟩] [2]) .ret), [.tm 2]⟩
theorem of54 : Fn1.of Try.prog 54 false [[0], [2]] = some F54 := by kernel_rfl
/-- spyglass/spylaw1.NumRoots -/
def F10 : Fn1 := ⟨62, .seq (.reg [⟨some 4, none, .mv, [.cn (.b false)]⟩] [0, 1]) (.seq (.reg [⟨some 10, none, .mv, [.tm 0]⟩, ⟨some 11, none, .call 34, [.tm 10]⟩, ⟨some 12, none, .mv, [.tm 1]⟩, ⟨some 13, none, .call 34, [.tm 12]⟩, ⟨some 14, none, .call 51, [.tm 11, .tm 13]⟩, ⟨some 15, none, .call 44, [.tm 14]⟩, ⟨some 9, none, .mv, [.tm 15]⟩, ⟨some 16, none, .po (.ext 0), [.tm 9]⟩, ⟨some 17, none, .po (.ext 1), [.tm 9]⟩, ⟨some 5, none, .mv, [.tm 16]⟩, ⟨some 6, none, .mv, [.tm 17]⟩] [0, 1, 5]) (.seq (.reg [⟨some 18, none, .po (.build [.b false, .sl 0 [] true] []), []⟩, ⟨some 19, none, .po (.build [.b false, .sl 0 [] true] []), []⟩, ⟨some 7, none, .alloc [.b false, .sl 0 [] true], []⟩, ⟨some 8, none, .alloc [.b false, .sl 0 [] true], []⟩, ⟨none, none, .st 2, [.tm 7, .tm 18]⟩, ⟨none, none, .st 2, [.tm 8, .tm 19]⟩] [0, 1, 5, 7, 8]) (.seq (.seq (.reg [⟨some 20, none, .mv, [.tm 0]⟩, ⟨some 21, none, .po (.bin .geq), [.tm 20, .cn (.n .i64 0)]⟩] [0, 1, 5, 7, 8, 21]) (.cond (.tm 21) (.reg [⟨some 22, none, .mv, [.tm 0]⟩, ⟨some 23, none, .call 34, [.tm 22]⟩, ⟨some 24, none, .call 52, [.tm 23]⟩, ⟨none, none, .st 2, [.tm 7, .tm 24]⟩] [0, 1, 5, 7, 8]) .skip)) (.seq (.seq (.reg [⟨some 25, none, .mv, [.tm 0]⟩, ⟨some 26, none, .po (.bin .geq), [.tm 25, .cn (.n .i64 0)]⟩, ⟨some 27, none, .mv, [.tm 26]⟩, ⟨some 28, some (27, true), .mv, [.tm 1]⟩, ⟨some 29, some (27, true), .po (.bin .geq), [.tm 28, .cn (.n .i64 0)]⟩, ⟨some 30, none, .pick, [.tm 27, .tm 29, .cn (.b false)]⟩] [0, 1, 5, 7, 8, 30]) (.cond (.tm 30) (.reg [⟨some 31, none, .mv, [.tm 0]⟩, ⟨some 32, none, .call 34, [.tm 31]⟩, ⟨some 33, none, .mv, [.tm 1]⟩, ⟨some 34, none, .call 34, [.tm 33]⟩, ⟨some 35, none, .call 50, [.tm 32, .tm 34]⟩, ⟨some 36, none, .call 52, [.tm 35]⟩, ⟨none, none, .st 2, [.tm 8, .tm 36]⟩] [0, 1, 5, 7, 8]) .skip)) (.seq (.dreg [⟨some 37, none, .call 28, []⟩, ⟨some 38, none, .mv, [.tm 37]⟩, ⟨some 39, some (38, true), .mv, [.tm 0]⟩, ⟨some 40, some (38, true), .mv, [.tm 1]⟩, ⟨some 41, some (38, true), .call 53, [.tm 39, .tm 40]⟩, ⟨some 42, some (38, true), .mv, [.tm 5]⟩, ⟨some 43, some (38, true), .po (.bin .eql), [.tm 41, .tm 42]⟩, ⟨some 44, none, .pick, [.tm 38, .tm 43, .cn (.b false)]⟩, ⟨some 45, none, .mv, [.tm 44]⟩, ⟨some 46, some (45, true), .ld true 2 false, [.tm 7]⟩, ⟨some 47, some (45, true), .mv, [.tm 0]⟩, ⟨some 48, some (45, true), .call 54, [.tm 47]⟩, ⟨some 49, some (45, true), .call 34, [.tm 48]⟩, ⟨some 50, some (45, true), .call 35, [.tm 46, .tm 49]⟩, ⟨some 51, some (45, true), .po (.bin .eql), [.tm 50, .cn (.n .i64 0)]⟩, ⟨some 52, none, .pick, [.tm 45, .tm 51, .cn (.b false)]⟩, ⟨some 53, none, .mv, [.tm 52]⟩, ⟨some 54, some (53, true), .ld true 2 false, [.tm 8]⟩, ⟨some 55, some (53, true), .mv, [.tm 0]⟩, ⟨some 56, some (53, true), .mv, [.tm 1]⟩, ⟨some 57, some (53, true), .call 55, [.tm 55, .tm 56]⟩, ⟨some 58, some (53, true), .call 34, [.tm 57]⟩, ⟨some 59, some (53, true), .call 35, [.tm 54, .tm 58]⟩, ⟨some 60, some (53, true), .po (.bin .eql), [.tm 59, .cn (.n .i64 0)]⟩, ⟨some 61, none, .pick, [.tm 53, .tm 60, .cn (.b false)]⟩, ⟨some 4, none, .mv, [.tm 61]⟩] [] [4]) .ret))))), [.tm 4]⟩
theorem of10 : Fn1.of Try.prog 10 false [[0, 1], [0, 1, 5], [0, 1, 5, 7, 8], [0, 1, 5, 7, 8, 21], [0, 1, 5, 7, 8], [0, 1, 5, 7, 8, 30], [0, 1, 5, 7, 8], [4]] = some F10 := by kernel_rfl

theorem sqrtMul_neg (a b : Int) (h : a < 0 ∨ b < 0) : Pure Try.prog 55 [.n .i64 a, .n .i64 b] (.n .i64 0) := by
  refine pure_of_wp of55 (Nat.le_of_ble_eq_true rfl) ?_
  by_cases ha : a < 0
  · refine DecK.yes (decide_eq_true ha) ?_
    ((repeat' first | refine DecK.tt ?_ | refine DecK.ff ?_ | refine DecK.beq (fun _ => ?_) (fun _ => ?_) | refine DecK.bne (fun _ => ?_) (fun _ => ?_) | refine DecK.dec (fun _ => ?_) (fun _ => ?_) | refine OptK.mk _ rfl ?_ | refine endV (by rfl) ?_) <;> (try with_reducible rfl))
  · refine DecK.no (decide_eq_false ha) ?_
    refine DecK.yes (decide_eq_true (by omega)) ?_
    ((repeat' first | refine DecK.tt ?_ | refine DecK.ff ?_ | refine DecK.beq (fun _ => ?_) (fun _ => ?_) | refine DecK.bne (fun _ => ?_) (fun _ => ?_) | refine DecK.dec (fun _ => ?_) (fun _ => ?_) | refine OptK.mk _ rfl ?_ | refine endV (by rfl) ?_) <;> (try with_reducible rfl))
theorem sqrtMul_ok (a b r0 : Int) (ha : fits a) (hb : fits b) (ha0 : 0 ≤ a) (hb0 : 0 ≤ b) (hr0 : 0 ≤ r0) (hr1 : r0 * r0 ≤ a * b) (hr2 : a * b < (r0 + 1) * (r0 + 1)) :
    Pure Try.prog 55 [.n .i64 a, .n .i64 b] (.n .i64 r0) := by
  refine pure_of_wp of55 (Nat.le_of_ble_eq_true rfl) ?_
  unfold fits at ha hb
  refine DecK.no (decide_eq_false (by omega)) ?_
  refine DecK.no (decide_eq_false (by omega)) ?_
  have ea : IntKind.u64.wrap a = a := wu64 (by omega)
  have eb : IntKind.u64.wrap b = b := wu64 (by omega)
  obtain ⟨N, hN⟩ : ∃ N, N = a * b := ⟨_, rfl⟩
  have hN0 : 0 ≤ N := by rw [hN]; exact Int.mul_nonneg ha0 hb0
  have hN1 : N ≤ 9223372036854775807 * 9223372036854775807 := by rw [hN]; exact Int.mul_le_mul ha.2 hb.2 hb0 (by omega)
  rw [← hN] at hr1 hr2
  refine CallK.mk _ ((Mul64_ok a b (by omega) (by omega)).args (by rw [ea, eb])) rfl ?_
  rw [← hN]
  have sh : ∀ z : Int, z.fdiv (2 ^ min (Int.toNat 1) IntKind.u64.bits) = z / 2 := fun z => Int.fdiv_eq_ediv_of_nonneg z (by decide)
  refine loop_ind2 (fun (r b : Int) => ⟨[(5, .v (.n .u64 (N / 18446744073709551616))), (6, .v (.n .u64 (N % 18446744073709551616))), (7, .v (.n .u64 r)), (8, .v (.n .u64 b))], []⟩) (fun r b => b.toNat)
    (fun r b => ∃ q m : Nat, r = (q * 2 ^ m : Nat) ∧ b = (2 ^ m / 2 : Nat) ∧ m ≤ 63 ∧ (q + 1) * 2 ^ m ≤ 9223372036854775808 ∧ r * r ≤ N ∧ N < (r + (2 ^ m : Nat)) * (r + (2 ^ m : Nat))) 0 4611686018427387904
    ⟨0, 63, by decide, by decide, by decide, by decide, by omega, by simp; omega⟩ ?_
  intro r bt ⟨q, m, h1, h2, h3, h4, h5, h6⟩ ih
  subst h1
  subst h2
  refine DecK.dec (fun hp => ?_) (fun hp => ?_)
  · obtain ⟨k, rfl⟩ : ∃ k, m = k + 1 := by
      cases m with
      | zero => exfalso; simp at hp
      | succ k => exact ⟨k, rfl⟩
    have eb2 : 2 ^ (k + 1) / 2 = 2 ^ k := by rw [Nat.pow_succ, Nat.mul_div_cancel _ (by decide)]
    have kpos : 0 < 2 ^ k := Nat.pow_pos (by decide)
    have hlt : 2 ^ k < 2 ^ (k + 1) := by rw [Nat.pow_succ]; omega
    rw [eb2] at hp ⊢
    have hor : IntKind.u64.wrap ((BitVec.ofInt IntKind.u64.bits ((q * 2 ^ (k + 1) : Nat) : Int) ||| BitVec.ofInt IntKind.u64.bits ((2 ^ k : Nat) : Int)).toNat : Nat) = ((q * 2 ^ (k + 1) + 2 ^ k : Nat) : Int) :=
      or_add hlt (by rw [Nat.add_mul] at h4; omega)
    obtain ⟨x, hx⟩ : ∃ x : Nat, x = q * 2 ^ (k + 1) + 2 ^ k := ⟨_, rfl⟩
    rw [← hx] at hor
    have hxlt : x < 9223372036854775808 := by rw [hx]; rw [Nat.add_mul] at h4; omega
    refine CallK.mk _ ((Mul64_ok x x (by omega) (by omega)).args (by rw [hor])) rfl ?_
    obtain ⟨X, hX⟩ : ∃ X : Int, X = x * x := ⟨_, rfl⟩
    have hX0 : 0 ≤ X := by rw [hX]; exact Int.mul_nonneg (by omega) (by omega)
    rw [← hX]
    have e2 : 2 ^ (k + 1) = 2 ^ k + 2 ^ k := by rw [Nat.pow_succ]; omega
    have ey : x = (2 * q + 1) * 2 ^ k := by rw [hx, e2]; grind
    have en : q * 2 ^ (k + 1) = 2 * q * 2 ^ k := by rw [e2]; grind
    have es : (q * 2 ^ (k + 1) + 2 ^ (k + 1) : Nat) = x + 2 ^ k := by rw [hx, e2]; omega
    have ef : ((2 ^ k : Nat) : Int).fdiv (2 ^ min (Int.toNat 1) IntKind.u64.bits) = (2 ^ k / 2 : Nat) := by rw [sh]; omega
    have h6' : N < ((x + 2 ^ k : Nat) : Int) * ((x + 2 ^ k : Nat) : Int) := by
      rw [← es]
      exact_mod_cast h6
    have hle : 2 ^ k ≤ 4611686018427387904 := Nat.pow_le_pow_right (n := 2) (by decide) (show k ≤ 62 by omega)
    have yes : X ≤ N → ∃ q' m' : Nat, (x : Int) = (q' * 2 ^ m' : Nat) ∧ ((2 ^ k / 2 : Nat) : Int) = (2 ^ m' / 2 : Nat) ∧ m' ≤ 63 ∧ (q' + 1) * 2 ^ m' ≤ 9223372036854775808 ∧ (x : Int) * x ≤ N ∧ N < ((x : Int) + (2 ^ m' : Nat)) * ((x : Int) + (2 ^ m' : Nat)) := fun h => by
      refine ⟨2 * q + 1, k, by rw [ey], rfl, by omega, ?_, by rw [← hX]; exact h, by exact_mod_cast h6'⟩
      have : (2 * q + 1 + 1) * 2 ^ k = (q + 1) * 2 ^ (k + 1) := by rw [e2]; grind
      omega
    have no : N < X → ∃ q' m' : Nat, ((q * 2 ^ (k + 1) : Nat) : Int) = (q' * 2 ^ m' : Nat) ∧ ((2 ^ k / 2 : Nat) : Int) = (2 ^ m' / 2 : Nat) ∧ m' ≤ 63 ∧ (q' + 1) * 2 ^ m' ≤ 9223372036854775808 ∧ ((q * 2 ^ (k + 1) : Nat) : Int) * (q * 2 ^ (k + 1) : Nat) ≤ N ∧ N < (((q * 2 ^ (k + 1) : Nat) : Int) + (2 ^ m' : Nat)) * (((q * 2 ^ (k + 1) : Nat) : Int) + (2 ^ m' : Nat)) := fun h => by
      refine ⟨2 * q, k, by rw [en], rfl, by omega, ?_, h5, ?_⟩
      · have : (2 * q + 1) * 2 ^ k + 2 ^ k = (q + 1) * 2 ^ (k + 1) := by rw [e2]; grind
        omega
      · rw [hX, hx] at h
        exact_mod_cast h
    have hdec : (2 ^ k / 2 : Nat) < 2 ^ k := by omega
    refine DecK.dec (fun c1 => ?_) (fun c1 => ?_)
    · refine DecK.tt ?_
      refine ih _ _ ?_ ?_
      · rw [hor, ef]; exact yes (by omega)
      · rw [ef]; omega
    · refine DecK.beq (fun c2 => ?_) (fun c2 => ?_)
      · refine DecK.dec (fun c3 => ?_) (fun c3 => ?_)
        · refine ih _ _ ?_ ?_
          · rw [hor, ef]; exact yes (by omega)
          · rw [ef]; omega
        · refine ih _ _ ?_ ?_
          · rw [ef]; exact no (by omega)
          · rw [ef]; omega
      · refine DecK.ff ?_
        refine ih _ _ ?_ ?_
        · rw [ef]; exact no (by omega)
        · rw [ef]; omega
  · have hm : m = 0 := by
      cases m with
      | zero => rfl
      | succ k =>
        exfalso
        have : 2 ^ (k + 1) / 2 = 2 ^ k := by rw [Nat.pow_succ, Nat.mul_div_cancel _ (by decide)]
        rw [this] at hp
        have : 0 < 2 ^ k := Nat.pow_pos (by decide)
        omega
    subst hm
    simp only [Nat.pow_zero, Nat.mul_one] at h4 h5 h6 ⊢
    have e := sqrt_unique (by omega) hr0 h5 h6 hr1 hr2
    ((repeat' first | refine DecK.tt ?_ | refine DecK.ff ?_ | refine DecK.beq (fun _ => ?_) (fun _ => ?_) | refine DecK.bne (fun _ => ?_) (fun _ => ?_) | refine DecK.dec (fun _ => ?_) (fun _ => ?_) | refine OptK.mk _ rfl ?_ | refine endV (by rfl) ?_) <;> (try with_reducible rfl))
    rw [e, w64 (by omega)]
theorem sqrt_ok (a r0 : Int) (ha : fits a) (ha0 : 0 ≤ a) (hr0 : 0 ≤ r0) (hr1 : r0 * r0 ≤ a) (hr2 : a < (r0 + 1) * (r0 + 1)) : Pure Try.prog 54 [.n .i64 a] (.n .i64 r0) := by
  refine pure_of_wp of54 (Nat.le_of_ble_eq_true rfl) ?_
  refine CallK.mk _ (sqrtMul_ok a 1 r0 ha (by decide) ha0 (by decide) hr0 (by omega) (by omega)) rfl ?_
  ((repeat' first | refine DecK.tt ?_ | refine DecK.ff ?_ | refine DecK.beq (fun _ => ?_) (fun _ => ?_) | refine DecK.bne (fun _ => ?_) (fun _ => ?_) | refine DecK.dec (fun _ => ?_) (fun _ => ?_) | refine OptK.mk _ rfl ?_ | refine endV (by rfl) ?_) <;> (try with_reducible rfl))
theorem sqrt_neg (a : Int) (ha0 : a < 0) : Pure Try.prog 54 [.n .i64 a] (.n .i64 0) := by
  refine pure_of_wp of54 (Nat.le_of_ble_eq_true rfl) ?_
  refine CallK.mk _ (sqrtMul_neg a 1 (.inl ha0)) rfl ?_
  ((repeat' first | refine DecK.tt ?_ | refine DecK.ff ?_ | refine DecK.beq (fun _ => ?_) (fun _ => ?_) | refine DecK.bne (fun _ => ?_) (fun _ => ?_) | refine DecK.dec (fun _ => ?_) (fun _ => ?_) | refine OptK.mk _ rfl ?_ | refine endV (by rfl) ?_) <;> (try with_reducible rfl))
theorem sqrt_int (a : Int) (h : 0 ≤ a) : ∃ r : Int, 0 ≤ r ∧ r * r ≤ a ∧ a < (r + 1) * (r + 1) := by
  obtain ⟨r, h1, h2⟩ := sqrt_ex a.toNat
  have e : (a.toNat : Int) = a := by omega
  refine ⟨r, by omega, ?_, ?_⟩
  · rw [← e]; exact_mod_cast h1
  · rw [← e]; exact_mod_cast h2
theorem root_fits {a b r : Int} (ha : fits a) (hb : fits b) (ha0 : 0 ≤ a) (hb0 : 0 ≤ b) (hr : 0 ≤ r) (h : r * r ≤ a * b) : fits r := by
  unfold fits at *
  refine ⟨by omega, ?_⟩
  rcases Int.lt_or_le r 9223372036854775808 with h' | h'
  · omega
  · exfalso
    have hs := sq_mono (show (0 : Int) ≤ 9223372036854775808 by decide) h'
    have e : a * b ≤ 9223372036854775807 * 9223372036854775807 := Int.mul_le_mul ha.2 hb.2 hb0 (by omega)
    omega
theorem roots_pure (a b : Int) (ha : fits a) (hb : fits b) : Pure Try.prog 10 [.n .i64 a, .n .i64 b] (.b true) := by
  have za := ha.zb
  have zb' := hb.zb
  have zg : zb 4 (Int.gcd a b : Nat) := by
    refine zb_64 ⟨by omega, ?_⟩
    unfold fits at ha hb
    by_cases h : a = 0
    · subst h; rw [Int.gcd_zero_left]; omega
    · have := Nat.le_of_dvd (show 0 < a.natAbs by omega) (Nat.gcd_dvd_left a.natAbs b.natAbs)
      have e : Int.gcd a b = Nat.gcd a.natAbs b.natAbs := rfl
      omega
  have zp : zb 8 (a * b) := (za.mul zb').mono (by decide)
  have h2 := mul_fits2 ha hb
  obtain ⟨ra, a0, a1, a2⟩ : ∃ r : Int, 0 ≤ r ∧ (a < 0 → r = 0) ∧ (0 ≤ a → r * r ≤ a ∧ a < (r + 1) * (r + 1)) := by
    by_cases h : 0 ≤ a
    · obtain ⟨r, k1, k2, k3⟩ := sqrt_int a h
      exact ⟨r, k1, by omega, fun _ => ⟨k2, k3⟩⟩
    · exact ⟨0, by omega, fun _ => rfl, by omega⟩
  obtain ⟨rb, b0, b1, b2⟩ : ∃ r : Int, 0 ≤ r ∧ ((a < 0 ∨ b < 0) → r = 0) ∧ (0 ≤ a → 0 ≤ b → r * r ≤ a * b ∧ a * b < (r + 1) * (r + 1)) := by
    by_cases h : 0 ≤ a ∧ 0 ≤ b
    · obtain ⟨r, k1, k2, k3⟩ := sqrt_int (a * b) (Int.mul_nonneg h.1 h.2)
      exact ⟨r, k1, by omega, fun _ _ => ⟨k2, k3⟩⟩
    · exact ⟨0, by omega, fun _ => rfl, by omega⟩
  have fa : fits ra := by
    by_cases h : 0 ≤ a
    · exact root_fits ha (show fits 1 by decide) h (by decide) a0 (by have := (a2 h).1; omega)
    · rw [a1 (by omega)]; decide
  have fb : fits rb := by
    by_cases h : 0 ≤ a ∧ 0 ≤ b
    · exact root_fits ha hb h.1 h.2 b0 (b2 h.1 h.2).1
    · rw [b1 (by omega)]; decide
  have ta : Pure Try.prog 54 [.n .i64 a] (.n .i64 ra) := by
    by_cases h : 0 ≤ a
    · exact sqrt_ok a ra ha h a0 (a2 h).1 (a2 h).2
    · rw [a1 (by omega)]; exact sqrt_neg a (by omega)
  have tb : Pure Try.prog 55 [.n .i64 a, .n .i64 b] (.n .i64 rb) := by
    by_cases h : 0 ≤ a ∧ 0 ≤ b
    · exact sqrtMul_ok a b rb ha hb h.1 h.2 b0 (b2 h.1 h.2).1 (b2 h.1 h.2).2
    · rw [b1 (by omega)]; exact sqrtMul_neg a b (by omega)
  have tca := Cmp_ok ra ra (fa.zb.mono (by decide)) (fa.zb.mono (by decide))
  have tcb := Cmp_ok rb rb (fb.zb.mono (by decide)) (fb.zb.mono (by decide))
  rw [icmp_eq rfl] at tca tcb
  have ez : V.agg (zC 0) = zV 0 := rfl
  have z0 : ∀ r : Int, r = 0 → Pure Try.prog 35 [.agg [.b false, .sl 0 [] true], zV r] (.n .i64 0) := fun r hr => by
    subst hr
    have := Cmp_ok 0 0 (zb_64 (by decide) |>.mono (by decide)) (zb_64 (by decide) |>.mono (by decide))
    rw [icmp_eq rfl] at this
    exact Pure.of (.cons zNone (.cons (.refl _) .nil)) this
  refine pure_of_wp of10 (Nat.le_of_ble_eq_true rfl) ?_
  refine CallK.mk _ (I_ok a ha) rfl ?_
  refine CallK.mk _ (I_ok b hb) rfl ?_
  refine CallK.mk _ (Gcd_ok a b (za.mono (by decide)) (zb'.mono (by decide))) rfl ?_
  refine CallK.mk _ (Fits_ok _ (zg.mono (by decide))) rfl ?_
  refine OptK.mk _ rfl ?_
  refine OptK.mk _ rfl ?_
  have tail1 := numGcd_ok a b ha hb
  by_cases h : 0 ≤ a
  · refine DecK.yes (decide_eq_true h) ?_
    refine CallK.mk _ (I_ok a ha) rfl ?_
    refine CallK.mk _ (Root_ok a ra (za.mono (by decide)) h a0 (a2 h).1 (a2 h).2) rfl ?_
    refine OptK.mk _ rfl ?_
    refine DecK.yes (decide_eq_true h) ?_
    by_cases h' : 0 ≤ b
    · refine DecK.yes (decide_eq_true h') ?_
      refine CallK.mk _ (I_ok a ha) rfl ?_
      refine CallK.mk _ (I_ok b hb) rfl ?_
      refine CallK.mk _ (Times_ok a b (za.mono (by decide)) (zb'.mono (by decide))) rfl ?_
      refine CallK.mk _ (Root_ok (a * b) rb (zp.mono (by decide)) (Int.mul_nonneg h h') b0 (b2 h h').1 (b2 h h').2) rfl ?_
      refine OptK.mk _ rfl ?_
      refine CallK.mk _ nums_ok rfl ?_
      refine DecK.tt ?_
      refine CallK.mk _ tail1 rfl ?_
      refine DecK.yes (by simp) ?_
      refine CallK.mk _ ta rfl ?_
      refine CallK.mk _ (I_ok ra fa) rfl ?_
      refine CallK.mk _ tca rfl ?_
      refine DecK.yes rfl ?_
      refine CallK.mk _ tb rfl ?_
      refine CallK.mk _ (I_ok rb fb) rfl ?_
      refine CallK.mk _ tcb rfl ?_
      ((repeat' first | refine DecK.tt ?_ | refine DecK.ff ?_ | refine DecK.beq (fun _ => ?_) (fun _ => ?_) | refine DecK.bne (fun _ => ?_) (fun _ => ?_) | refine DecK.dec (fun _ => ?_) (fun _ => ?_) | refine OptK.mk _ rfl ?_ | refine endV (by rfl) ?_) <;> (try with_reducible rfl))
      rfl
    · refine DecK.no (decide_eq_false h') ?_
      refine CallK.mk _ nums_ok rfl ?_
      refine DecK.tt ?_
      refine CallK.mk _ tail1 rfl ?_
      refine DecK.yes (by simp) ?_
      refine CallK.mk _ ta rfl ?_
      refine CallK.mk _ (I_ok ra fa) rfl ?_
      refine CallK.mk _ tca rfl ?_
      refine DecK.yes rfl ?_
      refine CallK.mk _ tb rfl ?_
      refine CallK.mk _ (I_ok rb fb) rfl ?_
      refine CallK.mk _ (z0 rb (b1 (by omega))) rfl ?_
      ((repeat' first | refine DecK.tt ?_ | refine DecK.ff ?_ | refine DecK.beq (fun _ => ?_) (fun _ => ?_) | refine DecK.bne (fun _ => ?_) (fun _ => ?_) | refine DecK.dec (fun _ => ?_) (fun _ => ?_) | refine OptK.mk _ rfl ?_ | refine endV (by rfl) ?_) <;> (try with_reducible rfl))
      rfl
  · refine DecK.no (decide_eq_false h) ?_
    refine DecK.no (decide_eq_false h) ?_
    refine DecK.ff ?_
    refine CallK.mk _ nums_ok rfl ?_
    refine DecK.tt ?_
    refine CallK.mk _ tail1 rfl ?_
    refine DecK.yes (by simp) ?_
    refine CallK.mk _ ta rfl ?_
    refine CallK.mk _ (I_ok ra fa) rfl ?_
    refine CallK.mk _ (z0 ra (a1 (by omega))) rfl ?_
    refine DecK.yes rfl ?_
    refine CallK.mk _ tb rfl ?_
    refine CallK.mk _ (I_ok rb fb) rfl ?_
    refine CallK.mk _ (z0 rb (b1 (by omega))) rfl ?_
    ((repeat' first | refine DecK.tt ?_ | refine DecK.ff ?_ | refine DecK.beq (fun _ => ?_) (fun _ => ?_) | refine DecK.bne (fun _ => ?_) (fun _ => ?_) | refine DecK.dec (fun _ => ?_) (fun _ => ?_) | refine OptK.mk _ rfl ?_ | refine endV (by rfl) ?_) <;> (try with_reducible rfl))
    rfl
theorem numRoots_law (x : Ty.T (.pair (.n .i64) (.pair (.n .i64) .nil))) (h : Ty.inn (.pair (.n .i64) (.pair (.n .i64) .nil)) x) : Pure Try.prog 10 (Ty.vals (.pair (.n .i64) (.pair (.n .i64) .nil)) x) (.b true) :=
  roots_pure x.1 x.2.1 h.1 h.2.1
end Go.Proofs.Ytkmlnmbhlkhgpaa.Sv
