/- Fractions: Make. No condition. -/
import Derived.Test.YtpggblmopgfloaaFj
namespace Go.Proofs.Ytpggblmopgfloaa.Sv
open Go Go.RowKit
set_option linter.unusedVariables false
set_option linter.unusedSimpArgs false
set_option maxRecDepth 100000
/-- spyglass/frac.size -/
def F104 : Fn1 := ⟨10, .seq (.reg [⟨some 2, none, .mv, [.cn (.n .u64 0)]⟩] [0]) (.seq (.seq (.reg [⟨some 3, none, .mv, [.tm 0]⟩, ⟨some 4, none, .po (.bin .lss), [.tm 3, .cn (.n .i64 0)]⟩] [0, 4]) (.cond (.tm 4) (.seq (.reg [⟨some 5, none, .mv, [.tm 0]⟩, ⟨some 6, none, .po (.toInt .u64), [.tm 5]⟩, ⟨some 7, none, .po (.un .neg), [.tm 6]⟩, ⟨some 2, none, .mv, [.tm 7]⟩] [2]) .ret) .skip)) (.seq (.reg [⟨some 8, none, .mv, [.tm 0]⟩, ⟨some 9, none, .po (.toInt .u64), [.tm 8]⟩, ⟨some 2, none, .mv, [.tm 9]⟩] [2]) .ret)), [.tm 2]⟩
theorem of104 : Fn1.of Try.prog 104 ⟨false, [], false⟩ [[0], [0, 4], [2], [2]] = some F104 := by kernel_rfl
/-- live: [0, 1, 4, 6, 7] -/
def L56_0 : SC := .seq (.seq (.reg [⟨some 17, none, .mv, [.tm 7]⟩, ⟨some 18, none, .po (.bin .gtr), [.tm 17, .cn (.n .u64 0)]⟩] [0, 1, 4, 6, 7, 18]) (.cond (.tm 18) .skip (.exit 0))) (.block 1 (.dreg [⟨some 19, none, .mv, [.tm 7]⟩, ⟨some 20, none, .mv, [.tm 6]⟩, ⟨some 21, none, .mv, [.tm 7]⟩, ⟨some 22, none, .po (.bin .rem), [.tm 20, .tm 21]⟩, ⟨some 6, none, .mv, [.tm 19]⟩, ⟨some 7, none, .mv, [.tm 22]⟩] [] [0, 1, 4, 6, 7]))
/-- spyglass/frac.Make -/
def F56 : Fn1 := ⟨56, .seq (.reg [⟨some 4, none, .alloc [.n .i64 0, .n .i64 0], []⟩, ⟨some 5, none, .mv, [.cn (.n .i64 0)]⟩] [0, 1, 4]) (.seq (.seq (.reg [⟨some 10, none, .mv, [.tm 1]⟩, ⟨some 11, none, .po (.bin .eql), [.tm 10, .cn (.n .i64 0)]⟩] [0, 1, 4, 11]) (.cond (.tm 11) (.seq (.reg [⟨some 12, none, .po (.build [.n .i64 0, .n .i64 0] []), []⟩, ⟨none, none, .st 2, [.tm 4, .tm 12]⟩, ⟨some 5, none, .mv, [.cn (.n .i64 1)]⟩] [4, 5]) .ret) .skip)) (.seq (.reg [⟨some 13, none, .mv, [.tm 0]⟩, ⟨some 14, none, .call 104, [.tm 13]⟩, ⟨some 15, none, .mv, [.tm 1]⟩, ⟨some 16, none, .call 104, [.tm 15]⟩, ⟨some 6, none, .mv, [.tm 14]⟩, ⟨some 7, none, .mv, [.tm 16]⟩] [0, 1, 4, 6, 7]) (.seq (.block 0 (.loop [0, 1, 4, 6, 7] L56_0)) (.seq (.dreg [⟨some 23, none, .mv, [.tm 0]⟩, ⟨some 24, none, .call 104, [.tm 23]⟩, ⟨some 25, none, .mv, [.tm 6]⟩, ⟨some 26, none, .po (.bin .quo), [.tm 24, .tm 25]⟩, ⟨some 27, none, .mv, [.tm 1]⟩, ⟨some 28, none, .call 104, [.tm 27]⟩, ⟨some 29, none, .mv, [.tm 6]⟩, ⟨some 30, none, .po (.bin .quo), [.tm 28, .tm 29]⟩, ⟨some 8, none, .mv, [.tm 26]⟩, ⟨some 9, none, .mv, [.tm 30]⟩] [] [0, 1, 4, 8, 9]) (.seq (.block 2 (.seq (.reg [⟨some 32, none, .mv, [.tm 8]⟩, ⟨some 33, none, .po (.bin .gtr), [.tm 32, .cn (.n .u64 1152921504606846976)]⟩, ⟨some 34, none, .mv, [.tm 33]⟩, ⟨some 35, some (34, false), .mv, [.tm 9]⟩, ⟨some 36, some (34, false), .po (.bin .gtr), [.tm 35, .cn (.n .u64 1152921504606846976)]⟩, ⟨some 37, none, .pick, [.tm 34, .cn (.b true), .tm 36]⟩, ⟨some 31, none, .mv, [.tm 37]⟩] [0, 1, 4, 8, 9, 31]) (.cond (.tm 31) (.seq (.reg [⟨some 38, none, .po (.build [.n .i64 0, .n .i64 0] []), []⟩, ⟨none, none, .st 2, [.tm 4, .tm 38]⟩, ⟨some 5, none, .mv, [.cn (.n .i64 2)]⟩] [4, 5]) .ret) (.seq (.reg [⟨some 40, none, .mv, [.tm 0]⟩, ⟨some 41, none, .po (.bin .lss), [.tm 40, .cn (.n .i64 0)]⟩, ⟨some 42, none, .mv, [.tm 1]⟩, ⟨some 43, none, .po (.bin .lss), [.tm 42, .cn (.n .i64 0)]⟩, ⟨some 44, none, .po (.beq true), [.tm 41, .tm 43]⟩, ⟨some 39, none, .mv, [.tm 44]⟩] [4, 8, 9, 39]) (.cond (.tm 39) (.seq (.reg [⟨some 45, none, .mv, [.tm 8]⟩, ⟨some 46, none, .po (.toInt .i64), [.tm 45]⟩, ⟨some 47, none, .po (.un .neg), [.tm 46]⟩, ⟨some 48, none, .mv, [.tm 9]⟩, ⟨some 49, none, .po (.toInt .i64), [.tm 48]⟩, ⟨some 50, none, .po (.build [.n .i64 0, .n .i64 0] [(0, 1), (1, 1)]), [.tm 47, .tm 49]⟩, ⟨none, none, .st 2, [.tm 4, .tm 50]⟩, ⟨some 5, none, .mv, [.cn (.n .i64 0)]⟩] [4, 5]) .ret) .skip))))) (.seq (.reg [⟨some 51, none, .mv, [.tm 8]⟩, ⟨some 52, none, .po (.toInt .i64), [.tm 51]⟩, ⟨some 53, none, .mv, [.tm 9]⟩, ⟨some 54, none, .po (.toInt .i64), [.tm 53]⟩, ⟨some 55, none, .po (.build [.n .i64 0, .n .i64 0] [(0, 1), (1, 1)]), [.tm 52, .tm 54]⟩, ⟨none, none, .st 2, [.tm 4, .tm 55]⟩, ⟨some 5, none, .mv, [.cn (.n .i64 0)]⟩] [4, 5]) .ret)))))), [.cell 4 true 2, .tm 5]⟩
theorem of56 : Fn1.of Try.prog 56 ⟨false, [], false⟩ [[0, 1, 4], [0, 1, 4, 11], [4, 5], [0, 1, 4, 6, 7], [0, 1, 4, 6, 7], [0, 1, 4, 6, 7, 18], [0, 1, 4, 6, 7], [0, 1, 4, 8, 9], [0, 1, 4, 8, 9, 31], [4, 5], [4, 8, 9, 39], [4, 5], [4, 5]] = some F56 := by kernel_rfl
theorem frSize_ok (a : Int) (ha : fits a) : Pure Try.prog 104 [.n .i64 a] (.n .u64 a.natAbs) := by
  refine pure_of_wp of104 (Nat.le_of_ble_eq_true rfl) ?_
  unfold fits at ha
  refine DecK.dec (fun h => ?_) (fun h => ?_)
  · ((repeat' first | refine DecK.tt ?_ | refine DecK.ff ?_ | refine DecK.beq (fun _ => ?_) (fun _ => ?_) | refine DecK.bne (fun _ => ?_) (fun _ => ?_) | refine DecK.dec (fun _ => ?_) (fun _ => ?_) | refine OptK.mk _ rfl ?_ | refine endV (by rfl) ?_) <;> (try with_reducible rfl))
    simp only [wmu64, V.n.injEq, true_and]
    omega
  · ((repeat' first | refine DecK.tt ?_ | refine DecK.ff ?_ | refine DecK.beq (fun _ => ?_) (fun _ => ?_) | refine DecK.bne (fun _ => ?_) (fun _ => ?_) | refine DecK.dec (fun _ => ?_) (fun _ => ?_) | refine OptK.mk _ rfl ?_ | refine endV (by rfl) ?_) <;> (try with_reducible rfl))
    simp only [wmu64, V.n.injEq, true_and]
    omega
def makeT (n d : Int) : V := if d = 0 then .tup [fracV 0 0, .n .i64 1] else if d < 0 then lowT (-n) (-d) else lowT n d
/-- Quotients of the absolute values. -/
theorem make_low {n d g : Int} (hg : g = (Int.gcd n d : Int)) (hd : d ≠ 0) (p q : Int) (hp : p = (n.natAbs : Int) / g) (hq : q = (d.natAbs : Int) / g) :
    (0 ≤ p ∧ 0 ≤ q) ∧ makeT n d = if p > 1152921504606846976 ∨ q > 1152921504606846976 then .tup [fracV 0 0, .n .i64 2] else .tup [fracV (if (n < 0 ↔ d < 0) then p else -p) q, .n .i64 0] := by
  have g0 : 0 < g := by
    have := Int.gcd_pos_of_ne_zero_right n hd
    omega
  have gn : g ∣ n := by rw [hg]; exact Int.gcd_dvd_left ..
  have gd : g ∣ d := by rw [hg]; exact Int.gcd_dvd_right ..
  obtain ⟨x, rfl⟩ := gn
  obtain ⟨y, rfl⟩ := gd
  have ab : ∀ z : Int, ((g * z).natAbs : Int) / g = z.natAbs := fun z => by
    rw [Int.natAbs_mul, Int.natCast_mul, Int.natAbs_of_nonneg (by omega), Int.mul_ediv_cancel_left _ (by omega)]
  have di : ∀ z : Int, (g * z) / g = z := fun z => Int.mul_ediv_cancel_left _ (by omega)
  have dn : ∀ z : Int, (-(g * z)) / g = -z := fun z => by rw [← Int.mul_neg, di]
  have sg : ∀ z : Int, g * z < 0 ↔ z < 0 := fun z => by
    constructor
    · intro h
      refine Classical.byContradiction fun k => ?_
      have := Int.mul_nonneg (show 0 ≤ g by omega) (show 0 ≤ z by omega)
      omega
    · exact fun h => Int.mul_neg_of_pos_of_neg g0 h
  rw [ab] at hp hq
  have y0 : y ≠ 0 := fun h => hd (by rw [h, Int.mul_zero])
  refine ⟨by omega, ?_⟩
  unfold makeT lowT
  rw [if_neg hd]
  rw [Int.neg_gcd, Int.gcd_neg, ← hg, di, di, dn, dn]
  subst hp hq
  simp only [sg]
  by_cases h : y < 0
  · rw [if_pos h]
    by_cases k : (x.natAbs : Int) > 1152921504606846976 ∨ (y.natAbs : Int) > 1152921504606846976
    · rw [if_pos k, if_pos (by omega)]
    · rw [if_neg k, if_neg (by omega)]
      have e1 : -y = y.natAbs := by omega
      by_cases j : x < 0
      · rw [if_pos ⟨fun _ => h, fun _ => j⟩, ← e1, show (x.natAbs : Int) = -x by omega]
      · rw [if_neg (fun i => j (i.2 h)), ← e1, show -(x.natAbs : Int) = -x by omega]
  · rw [if_neg h]
    by_cases k : (x.natAbs : Int) > 1152921504606846976 ∨ (y.natAbs : Int) > 1152921504606846976
    · rw [if_pos k, if_pos (by omega)]
    · rw [if_neg k, if_neg (by omega)]
      have e1 : y = y.natAbs := by omega
      by_cases j : x < 0
      · rw [if_neg (fun i => h (i.1 j)), ← e1, show -(x.natAbs : Int) = x by omega]
      · rw [if_pos ⟨fun i => absurd i j, fun i => absurd i h⟩, ← e1, show (x.natAbs : Int) = x by omega]
theorem make_ok (n d : Int) (hn : fits n) (hd : fits d) : Pure Try.prog 56 [.n .i64 n, .n .i64 d] (makeT n d) := by
  refine pure_of_wp of56 (Nat.le_of_ble_eq_true rfl) ?_
  refine DecK.beq (fun h => ?_) (fun h0 => ?_)
  · refine OptK.mk _ rfl ?_
    ((repeat' first | refine DecK.tt ?_ | refine DecK.ff ?_ | refine DecK.beq (fun _ => ?_) (fun _ => ?_) | refine DecK.bne (fun _ => ?_) (fun _ => ?_) | refine DecK.dec (fun _ => ?_) (fun _ => ?_) | refine OptK.mk _ rfl ?_ | refine endV (by rfl) ?_) <;> (try with_reducible rfl))
    rw [makeT, if_pos h]
    rfl
  have sn := frSize_ok n hn
  have sd := frSize_ok d hd
  refine CallK.mk _ sn rfl ?_
  refine CallK.mk _ sd rfl ?_
  unfold fits at hn hd
  refine loop_ind2 (fun (x y : Int) => ⟨[(0, .v (.n .i64 n)), (1, .v (.n .i64 d)), (4, .ref 4 0), (6, .v (.n .u64 x)), (7, .v (.n .u64 y))], [(4, [.n .i64 0, .n .i64 0])]⟩) (fun x y => y.toNat)
    (fun x y => 0 ≤ x ∧ 0 ≤ y ∧ x ≤ 9223372036854775808 ∧ y ≤ 9223372036854775808 ∧ Int.gcd x y = Int.gcd n d) n.natAbs d.natAbs ⟨by omega, by omega, by omega, by omega, by simp [Int.gcd]⟩ ?_
  intro x y ⟨h1, h2, h3, h4, h5⟩ ih
  refine DecK.dec (fun h => ?_) (fun h => ?_)
  · have e1 := Int.emod_nonneg x (show y ≠ 0 by omega)
    have e2 := Int.emod_lt_of_pos x (show 0 < y by omega)
    refine OptK.mk _ (op_rem (by omega)) ?_
    have e3 : x.tmod y = x % y := Int.tmod_eq_emod_of_nonneg h1
    refine ih _ _ ⟨?_, ?_, ?_, ?_, ?_⟩ ?_
    all_goals try rw [e3]
    · omega
    · omega
    · omega
    · omega
    · rw [← h5]
      obtain ⟨m, rfl⟩ : ∃ m : Nat, x = m := ⟨x.toNat, by omega⟩
      obtain ⟨k, rfl⟩ : ∃ n : Nat, y = n := ⟨y.toNat, by omega⟩
      show Nat.gcd k (m % k) = Nat.gcd m k
      rw [Nat.gcd_comm m k, Nat.gcd_rec k m, Nat.gcd_comm]
    · omega
  · have hy : y = 0 := by omega
    subst hy
    have hx : x = (Int.gcd n d : Int) := by rw [← h5, Int.gcd_zero]; omega
    have x0 : 0 < x := by
      have := Int.gcd_pos_of_ne_zero_right n h0
      omega
    obtain ⟨⟨p0, q0⟩, hm⟩ := make_low hx h0 _ _ rfl rfl
    have bp := Int.ediv_le_self x (show (0 : Int) ≤ n.natAbs by omega)
    have bq := Int.ediv_le_self x (show (0 : Int) ≤ d.natAbs by omega)
    have wp : IntKind.u64.wrap ((n.natAbs : Int).tdiv x) = (n.natAbs : Int) / x := by rw [Int.tdiv_eq_ediv_of_nonneg (by omega), wu64 (by omega)]
    have wq : IntKind.u64.wrap ((d.natAbs : Int).tdiv x) = (d.natAbs : Int) / x := by rw [Int.tdiv_eq_ediv_of_nonneg (by omega), wu64 (by omega)]
    refine CallK.mk _ sn rfl ?_
    refine OptK.mk (.v (.n .u64 ((n.natAbs : Int) / x))) ((op_quo (y := x) (by omega)).trans (by rw [wp])) ?_
    refine CallK.mk _ sd rfl ?_
    refine OptK.mk (.v (.n .u64 ((d.natAbs : Int) / x))) ((op_quo (y := x) (by omega)).trans (by rw [wq])) ?_
    generalize (n.natAbs : Int) / x = p at *
    generalize (d.natAbs : Int) / x = q at *
    refine DecK.dec (fun g1 => ?_) (fun g1 => ?_)
    · repeat' (refine DecK.tt ?_)
      refine OptK.mk _ rfl ?_
      ((repeat' first | refine DecK.tt ?_ | refine DecK.ff ?_ | refine DecK.beq (fun _ => ?_) (fun _ => ?_) | refine DecK.bne (fun _ => ?_) (fun _ => ?_) | refine DecK.dec (fun _ => ?_) (fun _ => ?_) | refine OptK.mk _ rfl ?_ | refine endV (by rfl) ?_) <;> (try with_reducible rfl))
      rw [hm, if_pos (.inl g1)]
      rfl
    refine DecK.dec (fun g2 => ?_) (fun g2 => ?_)
    · refine OptK.mk _ rfl ?_
      ((repeat' first | refine DecK.tt ?_ | refine DecK.ff ?_ | refine DecK.beq (fun _ => ?_) (fun _ => ?_) | refine DecK.bne (fun _ => ?_) (fun _ => ?_) | refine DecK.dec (fun _ => ?_) (fun _ => ?_) | refine OptK.mk _ rfl ?_ | refine endV (by rfl) ?_) <;> (try with_reducible rfl))
      rw [hm, if_pos (.inr g2)]
      rfl
    rw [if_neg (by omega)] at hm
    have w1 : IntKind.i64.wrap p = p := w64 (by omega)
    have w2 : IntKind.i64.wrap q = q := w64 (by omega)
    have w3 : IntKind.i64.wrap (0 - p) = -p := by rw [w64 (by omega)]; omega
    refine DecK.xor (fun k => ?_) (fun k => ?_)
    · rw [if_neg k] at hm
      refine OptK.mk _ rfl ?_
      ((repeat' first | refine DecK.tt ?_ | refine DecK.ff ?_ | refine DecK.beq (fun _ => ?_) (fun _ => ?_) | refine DecK.bne (fun _ => ?_) (fun _ => ?_) | refine DecK.dec (fun _ => ?_) (fun _ => ?_) | refine OptK.mk _ rfl ?_ | refine endV (by rfl) ?_) <;> (try with_reducible rfl))
      rw [hm, w1, w2, w3]
      rfl
    · rw [if_pos k] at hm
      refine OptK.mk _ rfl ?_
      ((repeat' first | refine DecK.tt ?_ | refine DecK.ff ?_ | refine DecK.beq (fun _ => ?_) (fun _ => ?_) | refine DecK.bne (fun _ => ?_) (fun _ => ?_) | refine DecK.dec (fun _ => ?_) (fun _ => ?_) | refine OptK.mk _ rfl ?_ | refine endV (by rfl) ?_) <;> (try with_reducible rfl))
      rw [hm, w1, w2]
      rfl
end Go.Proofs.Ytpggblmopgfloaa.Sv
