/- Numbers of 64 bits: the rest of the program's package num but for roots. No condition. -/
import Derived.Test.YtjeafcngljbdlaaNc
namespace Go.Proofs.Ytjeafcngljbdlaa.Sv
open Go Go.RowKit
set_option linter.unusedVariables false
set_option linter.unusedSimpArgs false
set_option maxRecDepth 100000
/-- spyglass/num.FloorDiv -/
def F45 : Fn1 := ⟨18, .seq (.reg [⟨some 4, none, .mv, [.cn (.n .i64 0)]⟩] [0, 1]) (.seq (.seq (.reg [⟨some 6, none, .mv, [.tm 1]⟩, ⟨some 7, none, .po (.bin .lss), [.tm 6, .cn (.n .i64 1)]⟩] [0, 1, 7]) (.cond (.tm 7) (.seq (.reg [⟨some 4, none, .mv, [.cn (.n .i64 0)]⟩] [4]) .ret) .skip)) (.seq (.reg [⟨some 8, none, .mv, [.tm 0]⟩, ⟨some 9, none, .mv, [.tm 1]⟩, ⟨some 10, none, .po (.bin .quo), [.tm 8, .tm 9]⟩, ⟨some 5, none, .mv, [.tm 10]⟩] [0, 1, 5]) (.seq (.seq (.reg [⟨some 11, none, .mv, [.tm 0]⟩, ⟨some 12, none, .mv, [.tm 1]⟩, ⟨some 13, none, .po (.bin .rem), [.tm 11, .tm 12]⟩, ⟨some 14, none, .po (.bin .lss), [.tm 13, .cn (.n .i64 0)]⟩] [5, 14]) (.cond (.tm 14) (.reg [⟨some 15, none, .mv, [.tm 5]⟩, ⟨some 16, none, .po (.bin .sub), [.tm 15, .cn (.n .i64 1)]⟩, ⟨some 5, none, .mv, [.tm 16]⟩] [5]) .skip)) (.seq (.reg [⟨some 17, none, .mv, [.tm 5]⟩, ⟨some 4, none, .mv, [.tm 17]⟩] [4]) .ret)))), [.tm 4]⟩
theorem of45 : Fn1.of Try.prog 45 ⟨false, [], false⟩ [[0, 1], [0, 1, 7], [4], [0, 1, 5], [5, 14], [5], [4]] = some F45 := by kernel_rfl
/-- spyglass/num.MulDiv -/
def F52 : Fn1 := ⟨15, .seq (.reg [⟨some 6, none, .mv, [.cn (.n .i64 0)]⟩, ⟨some 7, none, .mv, [.cn (.n .i64 0)]⟩] [0, 1, 2]) (.seq (.reg [⟨some 8, none, .mv, [.tm 0]⟩, ⟨some 9, none, .mv, [.tm 1]⟩, ⟨some 10, none, .call 64, [.tm 8, .tm 9]⟩, ⟨some 11, none, .mv, [.tm 2]⟩, ⟨some 12, none, .call 67, [.tm 10, .tm 11]⟩, ⟨some 13, none, .po (.ext 0), [.tm 12]⟩, ⟨some 14, none, .po (.ext 1), [.tm 12]⟩, ⟨some 6, none, .mv, [.tm 13]⟩, ⟨some 7, none, .mv, [.tm 14]⟩] [6, 7]) .ret), [.tm 6, .tm 7]⟩
theorem of52 : Fn1.of Try.prog 52 ⟨false, [], false⟩ [[0, 1, 2], [6, 7]] = some F52 := by kernel_rfl
/-- spyglass/num.MulDivUp -/
def F54 : Fn1 := ⟨34, .seq (.reg [⟨some 6, none, .mv, [.cn (.n .i64 0)]⟩, ⟨some 7, none, .mv, [.cn (.n .i64 0)]⟩] [0, 1, 2]) (.seq (.reg [⟨some 11, none, .mv, [.tm 0]⟩, ⟨some 12, none, .mv, [.tm 1]⟩, ⟨some 13, none, .call 64, [.tm 11, .tm 12]⟩, ⟨some 8, none, .alloc [.n .i64 0, .n .u64 0], []⟩, ⟨none, none, .st 2, [.tm 8, .tm 13]⟩] [2, 8]) (.seq (.reg [⟨some 15, none, .ld true 2 false, [.tm 8]⟩, ⟨some 16, none, .mv, [.tm 2]⟩, ⟨some 17, none, .call 67, [.tm 15, .tm 16]⟩, ⟨some 14, none, .mv, [.tm 17]⟩, ⟨some 18, none, .po (.ext 0), [.tm 14]⟩, ⟨some 19, none, .po (.ext 1), [.tm 14]⟩, ⟨some 9, none, .mv, [.tm 18]⟩, ⟨some 10, none, .mv, [.tm 19]⟩] [2, 8, 9, 10]) (.seq (.seq (.reg [⟨some 20, none, .mv, [.tm 10]⟩, ⟨some 21, none, .po (.bin .neq), [.tm 20, .cn (.n .i64 0)]⟩, ⟨some 22, none, .mv, [.tm 21]⟩, ⟨some 23, some (22, false), .ld true 2 false, [.tm 8]⟩, ⟨some 24, some (22, false), .mv, [.tm 2]⟩, ⟨some 25, some (22, false), .call 66, [.tm 23, .tm 24]⟩, ⟨some 26, some (22, false), .po (.bin .eql), [.tm 25, .cn (.n .i64 0)]⟩, ⟨some 27, none, .pick, [.tm 22, .cn (.b true), .tm 26]⟩] [9, 10, 27]) (.cond (.tm 27) (.seq (.reg [⟨some 28, none, .mv, [.tm 9]⟩, ⟨some 29, none, .mv, [.tm 10]⟩, ⟨some 6, none, .mv, [.tm 28]⟩, ⟨some 7, none, .mv, [.tm 29]⟩] [6, 7]) .ret) .skip)) (.seq (.seq (.reg [⟨some 30, none, .mv, [.tm 9]⟩, ⟨some 31, none, .po (.bin .eql), [.tm 30, .cn (.n .i64 9223372036854775807)]⟩] [9, 31]) (.cond (.tm 31) (.seq (.reg [⟨some 6, none, .mv, [.cn (.n .i64 0)]⟩, ⟨some 7, none, .mv, [.cn (.n .i64 2)]⟩] [6, 7]) .ret) .skip)) (.seq (.reg [⟨some 32, none, .mv, [.tm 9]⟩, ⟨some 33, none, .po (.bin .add), [.tm 32, .cn (.n .i64 1)]⟩, ⟨some 6, none, .mv, [.tm 33]⟩, ⟨some 7, none, .mv, [.cn (.n .i64 0)]⟩] [6, 7]) .ret))))), [.tm 6, .tm 7]⟩
theorem of54 : Fn1.of Try.prog 54 ⟨false, [], false⟩ [[0, 1, 2], [2, 8], [2, 8, 9, 10], [9, 10, 27], [6, 7], [9, 31], [6, 7], [6, 7]] = some F54 := by kernel_rfl
/-- live: [5, 6] -/
def L62_0 : SC := .seq (.seq (.reg [⟨some 11, none, .mv, [.tm 6]⟩, ⟨some 12, none, .po (.bin .gtr), [.tm 11, .cn (.n .u64 0)]⟩] [5, 6, 12]) (.cond (.tm 12) .skip (.exit 0))) (.block 1 (.dreg [⟨some 13, none, .mv, [.tm 6]⟩, ⟨some 14, none, .mv, [.tm 5]⟩, ⟨some 15, none, .mv, [.tm 6]⟩, ⟨some 16, none, .po (.bin .rem), [.tm 14, .tm 15]⟩, ⟨some 5, none, .mv, [.tm 13]⟩, ⟨some 6, none, .mv, [.tm 16]⟩] [] [5, 6]))
/-- spyglass/num.Gcd -/
def F62 : Fn1 := ⟨20, .seq (.reg [⟨some 4, none, .mv, [.cn (.n .i64 0)]⟩] [0, 1]) (.seq (.reg [⟨some 7, none, .mv, [.tm 0]⟩, ⟨some 8, none, .call 75, [.tm 7]⟩, ⟨some 9, none, .mv, [.tm 1]⟩, ⟨some 10, none, .call 75, [.tm 9]⟩, ⟨some 5, none, .mv, [.tm 8]⟩, ⟨some 6, none, .mv, [.tm 10]⟩] [5, 6]) (.seq (.block 0 (.loop [5, 6] L62_0)) (.seq (.reg [⟨some 17, none, .mv, [.tm 5]⟩, ⟨some 18, none, .po (.bin .andNot), [.tm 17, .cn (.n .u64 9223372036854775808)]⟩, ⟨some 19, none, .po (.toInt .i64), [.tm 18]⟩, ⟨some 4, none, .mv, [.tm 19]⟩] [4]) .ret))), [.tm 4]⟩
theorem of62 : Fn1.of Try.prog 62 ⟨false, [], false⟩ [[0, 1], [5, 6], [5, 6], [5, 6, 12], [5, 6], [4]] = some F62 := by kernel_rfl
/-- Everything about a quotient of numbers of 64 bits, out of that of the absolute values. -/
theorem quo_all {a b : Int} (hb : 0 < b) : ∃ q r : Int, 0 ≤ q ∧ 0 ≤ r ∧ r < b ∧ q ≤ a.natAbs ∧ (0 < r → q + 1 ≤ a.natAbs) ∧
    ((a < 0 ∧ a.tdiv b = -q ∧ a.tmod b = -r ∧ a / b = (if 0 < r then -q - 1 else -q) ∧ a % b = (if 0 < r then b - r else 0) ∧ cdiv a b = -q ∧ rnd a b = (if 2 * r ≥ b then -q - 1 else -q)) ∨
     (0 ≤ a ∧ a.tdiv b = q ∧ a.tmod b = r ∧ a / b = q ∧ a % b = r ∧ cdiv a b = (if 0 < r then q + 1 else q) ∧ rnd a b = (if 2 * r ≥ b then q + 1 else q))) := by
  obtain ⟨x, hx⟩ : ∃ x : Int, x = a.natAbs := ⟨_, rfl⟩
  have e1 := Int.mul_ediv_add_emod x b
  have e2 := Int.emod_nonneg x (show b ≠ 0 by omega)
  have e3 := Int.emod_lt_of_pos x hb
  have e4 : 0 ≤ x / b := Int.ediv_nonneg (by omega) (by omega)
  have e5 : x / b ≤ x := Int.ediv_le_self b (by omega)
  have hs := split_abs (a := a) (b := b) (q := x / b) (r := x % b) (by omega) (by rw [Int.mul_comm, show (b.natAbs : Int) = b by omega]; omega) e2 (by omega)
  rw [if_neg (by omega), show (b.natAbs : Int) = b by omega] at hs
  have hs2 := split_abs (a := -a) (b := b) (q := x / b) (r := x % b) (by omega) (by rw [Int.mul_comm, show (b.natAbs : Int) = b by omega]; omega) e2 (by omega)
  rw [if_neg (by omega), show (b.natAbs : Int) = b by omega] at hs2
  have hr : (2 * x + b) / (2 * b) = if 2 * (x % b) ≥ b then x / b + 1 else x / b := by
    have h2 : 0 < 2 * b := by omega
    have := (Int.ediv_emod_unique (a := 2 * x + b) (b := 2 * b) (q := if 2 * (x % b) ≥ b then x / b + 1 else x / b) (r := if 2 * (x % b) ≥ b then 2 * (x % b) - b else 2 * (x % b) + b) h2).2 ⟨by
      split
      · have : 2 * b * (x / b + 1) = 2 * (b * (x / b)) + 2 * b := by grind
        omega
      · have : 2 * b * (x / b) = 2 * (b * (x / b)) := by grind
        omega, by split <;> omega, by split <;> omega⟩
    exact this.1
  have k1 : 0 < x % b → x / b + 1 ≤ x := fun h => by
    by_cases h0 : x / b < x
    · omega
    · exfalso
      have h1 : x / b = x := by omega
      rw [h1] at e1
      have : x * 1 ≤ x * b := Int.mul_le_mul_of_nonneg_left (by omega) (by omega)
      rw [Int.mul_comm x b] at this
      omega
  refine ⟨x / b, x % b, e4, e2, e3, by omega, fun h => by have := k1 h; omega, ?_⟩
  by_cases h1 : a < 0
  · have hxa : x = -a := by omega
    refine .inl ⟨h1, ?_, ?_, ?_, ?_, ?_, ?_⟩
    · rw [tdivC hb, if_neg (by omega), hxa]
    · rw [tmodC hb, if_neg (by omega), hxa]
    · rw [← hs.1]
      split <;> split <;> first | rfl | (exfalso; omega) | omega
    · rw [← hs.2]
      split <;> split <;> first | rfl | (exfalso; omega) | omega
    · rw [cdiv, ← hs2.1, if_neg (by omega), if_neg (by omega)]
    · rw [rnd, if_pos h1, show 2 * -a + b = 2 * x + b by omega, hr]
      split <;> omega
  · have hxa : x = a := by omega
    refine .inr ⟨by omega, ?_, ?_, ?_, ?_, ?_, ?_⟩
    · rw [tdivC hb, if_pos (by omega), hxa]
    · rw [tmodC hb, if_pos (by omega), hxa]
    · rw [hxa]
    · rw [hxa]
    · rw [cdiv, ← hs2.1]
      by_cases h3 : a = 0
      · have z1 : x = 0 := by omega
        rw [z1, Int.zero_ediv, Int.zero_emod] at *
        simp [h3]
      · split <;> split <;> first | rfl | (exfalso; omega) | (split <;> omega) | omega
    · rw [rnd, if_neg h1, show 2 * a + b = 2 * x + b by omega, hr]
theorem floorDiv_ok (a b : Int) (ha : fits a) (hb : fits b) : Pure Try.prog 45 [.n .i64 a, .n .i64 b] (.n .i64 (if b < 1 then 0 else a / b)) := by
  refine pure_of_wp of45 (Nat.le_of_ble_eq_true rfl) ?_
  unfold fits at ha hb
  refine DecK.dec (fun h => ?_) (fun h => ?_)
  · ((repeat' first | refine DecK.tt ?_ | refine DecK.ff ?_ | refine DecK.beq (fun _ => ?_) (fun _ => ?_) | refine DecK.bne (fun _ => ?_) (fun _ => ?_) | refine DecK.dec (fun _ => ?_) (fun _ => ?_) | refine OptK.mk _ rfl ?_ | refine endV (by rfl) ?_) <;> (try with_reducible rfl))
    rw [if_pos h]
  rw [if_neg h]
  obtain ⟨q, r, h1, h2, h3, h4, h5, h6⟩ := quo_all (a := a) (b := b) (by omega)
  refine OptK.mk _ (op_quo (by omega)) ?_
  refine OptK.mk _ (op_rem (by omega)) ?_
  refine DecK.dec (fun g => ?_) (fun g => ?_)
  all_goals
    ((repeat' first | refine DecK.tt ?_ | refine DecK.ff ?_ | refine DecK.beq (fun _ => ?_) (fun _ => ?_) | refine DecK.bne (fun _ => ?_) (fun _ => ?_) | refine DecK.dec (fun _ => ?_) (fun _ => ?_) | refine OptK.mk _ rfl ?_ | refine endV (by rfl) ?_) <;> (try with_reducible rfl))
    simp only [V.tup.injEq, V.agg.injEq, V.n.injEq, V.b.injEq, V.s.injEq, List.cons.injEq, true_and, and_true]
    simp only [wm64]
    omega
/-- a * b / c, rounded up, as the program does it. -/
def upT (c x : Int) : List V := if c < 1 then [.n .i64 0, .n .i64 1] else if fits (x / c) ∧ fits (cdiv x c) then [.n .i64 (cdiv x c), .n .i64 0] else [.n .i64 0, .n .i64 2]
theorem mulDiv_ok (a b c : Int) (ha : fits a) (hb : fits b) (hc : fits c) : Pure Try.prog 52 [.n .i64 a, .n .i64 b, .n .i64 c] (.tup (quoT c (a * b / c))) := by
  refine pure_of_wp of52 (Nat.le_of_ble_eq_true rfl) ?_
  have h2 := mul_fits2 ha hb
  refine CallK.mk _ (Product_ok a b ha hb) rfl ?_
  have td := wDiv_ok (a * b) c (by unfold fits2; omega) hc
  by_cases h : c < 1
  · rw [quoT, if_pos h] at *
    refine CallK.mk _ td rfl ?_
    ((repeat' first | refine DecK.tt ?_ | refine DecK.ff ?_ | refine DecK.beq (fun _ => ?_) (fun _ => ?_) | refine DecK.bne (fun _ => ?_) (fun _ => ?_) | refine DecK.dec (fun _ => ?_) (fun _ => ?_) | refine OptK.mk _ rfl ?_ | refine endV (by rfl) ?_) <;> (try with_reducible rfl))
  · rw [quoT, if_neg h] at *
    by_cases hf : fits (a * b / c)
    · rw [if_pos hf] at *
      refine CallK.mk _ td rfl ?_
      ((repeat' first | refine DecK.tt ?_ | refine DecK.ff ?_ | refine DecK.beq (fun _ => ?_) (fun _ => ?_) | refine DecK.bne (fun _ => ?_) (fun _ => ?_) | refine DecK.dec (fun _ => ?_) (fun _ => ?_) | refine OptK.mk _ rfl ?_ | refine endV (by rfl) ?_) <;> (try with_reducible rfl))
    · rw [if_neg hf] at *
      refine CallK.mk _ td rfl ?_
      ((repeat' first | refine DecK.tt ?_ | refine DecK.ff ?_ | refine DecK.beq (fun _ => ?_) (fun _ => ?_) | refine DecK.bne (fun _ => ?_) (fun _ => ?_) | refine DecK.dec (fun _ => ?_) (fun _ => ?_) | refine OptK.mk _ rfl ?_ | refine endV (by rfl) ?_) <;> (try with_reducible rfl))
theorem mulDivUp_ok (a b c : Int) (ha : fits a) (hb : fits b) (hc : fits c) : Pure Try.prog 54 [.n .i64 a, .n .i64 b, .n .i64 c] (.tup (upT c (a * b))) := by
  refine pure_of_wp of54 (Nat.le_of_ble_eq_true rfl) ?_
  have h2 := mul_fits2 ha hb
  refine CallK.mk _ (Product_ok a b ha hb) rfl ?_
  have td := wDiv_ok (a * b) c (by unfold fits2; omega) hc
  have tm := wMod_ok (a * b) c (by unfold fits2; omega) hc
  refine OptK.mk _ rfl ?_
  by_cases h : c < 1
  · rw [quoT, if_pos h] at td
    rw [upT, if_pos h]
    refine CallK.mk _ td rfl ?_
    ((repeat' first | refine DecK.tt ?_ | refine DecK.ff ?_ | refine DecK.beq (fun _ => ?_) (fun _ => ?_) | refine DecK.bne (fun _ => ?_) (fun _ => ?_) | refine DecK.dec (fun _ => ?_) (fun _ => ?_) | refine OptK.mk _ rfl ?_ | refine endV (by rfl) ?_) <;> (try with_reducible rfl))
  · rw [quoT, if_neg h] at td
    rw [if_neg h] at tm
    rw [upT, if_neg h]
    obtain ⟨q, r, g1, g2, g3, g4, g5, g6⟩ := quo_all (a := a * b) (b := c) (by omega)
    generalize a * b / c = x at *
    generalize a * b % c = m at *
    generalize cdiv (a * b) c = u at *
    have hm : m = 0 → u = x := by omega
    have hm' : m ≠ 0 → u = x + 1 := by omega
    clear g6
    by_cases hf : fits x
    · rw [if_pos hf] at td
      refine CallK.mk _ td rfl ?_
      refine DecK.ff ?_
      refine CallK.mk _ tm rfl ?_
      unfold fits at hf
      refine DecK.beq (fun h0 => ?_) (fun h0 => ?_)
      · ((repeat' first | refine DecK.tt ?_ | refine DecK.ff ?_ | refine DecK.beq (fun _ => ?_) (fun _ => ?_) | refine DecK.bne (fun _ => ?_) (fun _ => ?_) | refine DecK.dec (fun _ => ?_) (fun _ => ?_) | refine OptK.mk _ rfl ?_ | refine endV (by rfl) ?_) <;> (try with_reducible rfl))
        rw [hm h0, if_pos (by unfold fits; omega)]
      · refine DecK.beq (fun h3 => ?_) (fun h3 => ?_)
        · ((repeat' first | refine DecK.tt ?_ | refine DecK.ff ?_ | refine DecK.beq (fun _ => ?_) (fun _ => ?_) | refine DecK.bne (fun _ => ?_) (fun _ => ?_) | refine DecK.dec (fun _ => ?_) (fun _ => ?_) | refine OptK.mk _ rfl ?_ | refine endV (by rfl) ?_) <;> (try with_reducible rfl))
          rw [if_neg (by unfold fits; omega)]
        · ((repeat' first | refine DecK.tt ?_ | refine DecK.ff ?_ | refine DecK.beq (fun _ => ?_) (fun _ => ?_) | refine DecK.bne (fun _ => ?_) (fun _ => ?_) | refine DecK.dec (fun _ => ?_) (fun _ => ?_) | refine OptK.mk _ rfl ?_ | refine endV (by rfl) ?_) <;> (try with_reducible rfl))
          rw [if_pos (by unfold fits; omega)]
          simp only [V.tup.injEq, V.agg.injEq, V.n.injEq, V.b.injEq, V.s.injEq, List.cons.injEq, true_and, and_true]
          rw [wm64]
          omega
    · rw [if_neg hf] at td
      refine CallK.mk _ td rfl ?_
      ((repeat' first | refine DecK.tt ?_ | refine DecK.ff ?_ | refine DecK.beq (fun _ => ?_) (fun _ => ?_) | refine DecK.bne (fun _ => ?_) (fun _ => ?_) | refine DecK.dec (fun _ => ?_) (fun _ => ?_) | refine OptK.mk _ rfl ?_ | refine endV (by rfl) ?_) <;> (try with_reducible rfl))
      rw [if_neg (fun h => hf h.1)]
theorem numGcd_ok (a b : Int) (ha : fits a) (hb : fits b) : Pure Try.prog 62 [.n .i64 a, .n .i64 b] (.n .i64 (small (Int.gcd a b))) := by
  refine pure_of_wp of62 (Nat.le_of_ble_eq_true rfl) ?_
  refine CallK.mk _ (size_ok a ha) rfl ?_
  refine CallK.mk _ (size_ok b hb) rfl ?_
  unfold fits at ha hb
  refine loop_ind2 (fun (x y : Int) => ⟨[(5, .v (.n .u64 x)), (6, .v (.n .u64 y))], []⟩) (fun x y => y.toNat)
    (fun x y => 0 ≤ x ∧ 0 ≤ y ∧ x ≤ 9223372036854775808 ∧ y ≤ 9223372036854775808 ∧ Int.gcd x y = Int.gcd a b) a.natAbs b.natAbs ⟨by omega, by omega, by omega, by omega, by simp [Int.gcd]⟩ ?_
  intro x y ⟨h1, h2, h3, h4, h5⟩ ih
  refine DecK.dec (fun h => ?_) (fun h => ?_)
  · have e1 := Int.emod_nonneg x (show y ≠ 0 by omega)
    have e2 := Int.emod_lt_of_pos x (show 0 < y by omega)
    refine OptK.mk _ (op_rem (by omega)) ?_
    have e3 : x.tmod y = x % y := Int.tmod_eq_emod_of_nonneg h1
    refine ih _ _ ⟨?_, ?_, ?_, ?_, ?_⟩ ?_
    all_goals try rw [e3]
    · omega
    · omega
    · omega
    · omega
    · rw [← h5]
      obtain ⟨m, rfl⟩ : ∃ m : Nat, x = m := ⟨x.toNat, by omega⟩
      obtain ⟨n, rfl⟩ : ∃ n : Nat, y = n := ⟨y.toNat, by omega⟩
      show Nat.gcd n (m % n) = Nat.gcd m n
      rw [Nat.gcd_comm m n, Nat.gcd_rec n m, Nat.gcd_comm]
    · omega
  · have hy : y = 0 := by omega
    subst hy
    obtain ⟨m, rfl⟩ : ∃ m : Nat, x = m := ⟨x.toNat, by omega⟩
    have hm : ((Int.gcd a b : Nat) : Int) = m := by rw [← h5, Int.gcd_zero]; omega
    have e : IntKind.i64.wrap (IntKind.u64.wrap ((BitVec.ofInt IntKind.u64.bits (m : Int) &&& ~~~ BitVec.ofInt IntKind.u64.bits 9223372036854775808).toNat : Nat)) = (m % 9223372036854775808 : Nat) := by
      have e1 : (BitVec.ofInt IntKind.u64.bits (m : Int) &&& ~~~ BitVec.ofInt IntKind.u64.bits 9223372036854775808).toNat = m % 9223372036854775808 := by
        show (BitVec.ofInt 64 (m : Int) &&& ~~~ BitVec.ofInt 64 9223372036854775808).toNat = _
        rw [show (~~~ BitVec.ofInt 64 9223372036854775808) = BitVec.ofNat 64 9223372036854775807 by decide, BitVec.toNat_and, BitVec.ofInt_natCast, BitVec.toNat_ofNat, BitVec.toNat_ofNat, Nat.mod_eq_of_lt (by omega)]
        show m &&& 9223372036854775807 = _
        exact Nat.and_two_pow_sub_one_eq_mod m 63
      rw [e1, wm64, wmu64]
      omega
    ((repeat' first | refine DecK.tt ?_ | refine DecK.ff ?_ | refine DecK.beq (fun _ => ?_) (fun _ => ?_) | refine DecK.bne (fun _ => ?_) (fun _ => ?_) | refine DecK.dec (fun _ => ?_) (fun _ => ?_) | refine OptK.mk _ rfl ?_ | refine endV (by rfl) ?_) <;> (try with_reducible rfl))
    rw [e, hm]
    by_cases hf : fits (m : Int)
    · rw [small, if_pos hf]
      unfold fits at hf
      congr 1
      omega
    · rw [small, if_neg hf]
      unfold fits at hf
      congr 1
      omega
end Go.Proofs.Ytjeafcngljbdlaa.Sv
