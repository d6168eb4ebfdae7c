/- Numbers of 64 bits: quotients and rests of the program's package num. No condition. -/
import Derived.Test.YtjeafcngljbdlaaNb
namespace Go.Proofs.Ytjeafcngljbdlaa.Sv
open Go Go.RowKit
set_option linter.unusedVariables false
set_option linter.unusedSimpArgs false
set_option maxRecDepth 100000
/-- (spyglass/num.Wide).Mod -/
def F66 : Fn1 := ⟨43, .seq (.reg [⟨some 2, none, .box, [.tm 0]⟩, ⟨some 4, none, .mv, [.cn (.n .i64 0)]⟩] [1, 2]) (.seq (.seq (.reg [⟨some 8, none, .mv, [.tm 1]⟩, ⟨some 9, none, .po (.bin .lss), [.tm 8, .cn (.n .i64 1)]⟩] [1, 2, 9]) (.cond (.tm 9) (.seq (.reg [⟨some 4, none, .mv, [.cn (.n .i64 0)]⟩] [4]) .ret) .skip)) (.seq (.reg [⟨some 10, none, .ld true 2 false, [.tm 2]⟩, ⟨some 5, none, .alloc [.n .i64 0, .n .u64 0], []⟩, ⟨none, none, .st 2, [.tm 5, .tm 10]⟩] [1, 2, 5]) (.seq (.seq (.reg [⟨some 11, none, .fa 0, [.tm 2]⟩, ⟨some 12, none, .ld false 1 false, [.tm 11]⟩, ⟨some 13, none, .po (.bin .lss), [.tm 12, .cn (.n .i64 0)]⟩] [1, 2, 5, 13]) (.cond (.tm 13) (.reg [⟨some 14, none, .ld true 2 false, [.tm 2]⟩, ⟨some 15, none, .call 78, [.tm 14]⟩, ⟨none, none, .st 2, [.tm 5, .tm 15]⟩] [1, 2, 5]) .skip)) (.seq (.dreg [⟨some 17, none, .fa 0, [.tm 5]⟩, ⟨some 18, none, .ld false 1 false, [.tm 17]⟩, ⟨some 19, none, .po (.toInt .u64), [.tm 18]⟩, ⟨some 20, none, .mv, [.tm 1]⟩, ⟨some 21, none, .po (.toInt .u64), [.tm 20]⟩, ⟨some 22, none, .po (.bin .rem), [.tm 19, .tm 21]⟩, ⟨some 23, none, .fa 1, [.tm 5]⟩, ⟨some 24, none, .ld false 1 false, [.tm 23]⟩, ⟨some 25, none, .mv, [.tm 1]⟩, ⟨some 26, none, .po (.toInt .u64), [.tm 25]⟩, ⟨some 27, none, .call 80, [.tm 22, .tm 24, .tm 26]⟩, ⟨some 16, none, .mv, [.tm 27]⟩, ⟨some 28, none, .po (.ext 0), [.tm 16]⟩, ⟨some 29, none, .po (.ext 1), [.tm 16]⟩, ⟨some 6, none, .mv, [.tm 28]⟩, ⟨some 7, none, .mv, [.tm 29]⟩] [] [1, 2, 7]) (.seq (.seq (.reg [⟨some 30, none, .fa 0, [.tm 2]⟩, ⟨some 31, none, .ld false 1 false, [.tm 30]⟩, ⟨some 32, none, .po (.bin .lss), [.tm 31, .cn (.n .i64 0)]⟩, ⟨some 33, none, .mv, [.tm 32]⟩, ⟨some 34, some (33, true), .mv, [.tm 7]⟩, ⟨some 35, some (33, true), .po (.bin .gtr), [.tm 34, .cn (.n .u64 0)]⟩, ⟨some 36, none, .pick, [.tm 33, .tm 35, .cn (.b false)]⟩] [1, 7, 36]) (.cond (.tm 36) (.reg [⟨some 37, none, .mv, [.tm 1]⟩, ⟨some 38, none, .po (.toInt .u64), [.tm 37]⟩, ⟨some 39, none, .mv, [.tm 7]⟩, ⟨some 40, none, .po (.bin .sub), [.tm 38, .tm 39]⟩, ⟨some 7, none, .mv, [.tm 40]⟩] [7]) .skip)) (.seq (.reg [⟨some 41, none, .mv, [.tm 7]⟩, ⟨some 42, none, .po (.toInt .i64), [.tm 41]⟩, ⟨some 4, none, .mv, [.tm 42]⟩] [4]) .ret)))))), [.tm 4]⟩
theorem of66 : Fn1.of Try.prog 66 ⟨false, [], false⟩ [[1, 2], [1, 2, 9], [4], [1, 2, 5], [1, 2, 5, 13], [1, 2, 5], [1, 2, 7], [1, 7, 36], [7], [4]] = some F66 := by kernel_rfl
/-- (spyglass/num.Wide).Div -/
def F67 : Fn1 := ⟨61, .seq (.reg [⟨some 2, none, .box, [.tm 0]⟩, ⟨some 4, none, .mv, [.cn (.n .i64 0)]⟩, ⟨some 5, none, .mv, [.cn (.n .i64 0)]⟩] [1, 2]) (.seq (.seq (.reg [⟨some 10, none, .mv, [.tm 1]⟩, ⟨some 11, none, .po (.bin .lss), [.tm 10, .cn (.n .i64 1)]⟩] [1, 2, 11]) (.cond (.tm 11) (.seq (.reg [⟨some 4, none, .mv, [.cn (.n .i64 0)]⟩, ⟨some 5, none, .mv, [.cn (.n .i64 1)]⟩] [4, 5]) .ret) .skip)) (.seq (.reg [⟨some 12, none, .ld true 2 false, [.tm 2]⟩, ⟨some 6, none, .alloc [.n .i64 0, .n .u64 0], []⟩, ⟨none, none, .st 2, [.tm 6, .tm 12]⟩] [1, 2, 6]) (.seq (.seq (.reg [⟨some 13, none, .fa 0, [.tm 2]⟩, ⟨some 14, none, .ld false 1 false, [.tm 13]⟩, ⟨some 15, none, .po (.bin .lss), [.tm 14, .cn (.n .i64 0)]⟩] [1, 2, 6, 15]) (.cond (.tm 15) (.reg [⟨some 16, none, .ld true 2 false, [.tm 2]⟩, ⟨some 17, none, .call 78, [.tm 16]⟩, ⟨none, none, .st 2, [.tm 6, .tm 17]⟩] [1, 2, 6]) .skip)) (.seq (.seq (.reg [⟨some 18, none, .fa 0, [.tm 6]⟩, ⟨some 19, none, .ld false 1 false, [.tm 18]⟩, ⟨some 20, none, .po (.toInt .u64), [.tm 19]⟩, ⟨some 21, none, .mv, [.tm 1]⟩, ⟨some 22, none, .po (.toInt .u64), [.tm 21]⟩, ⟨some 23, none, .po (.bin .geq), [.tm 20, .tm 22]⟩] [1, 2, 6, 23]) (.cond (.tm 23) (.seq (.reg [⟨some 4, none, .mv, [.cn (.n .i64 0)]⟩, ⟨some 5, none, .mv, [.cn (.n .i64 2)]⟩] [4, 5]) .ret) .skip)) (.seq (.reg [⟨some 25, none, .fa 0, [.tm 6]⟩, ⟨some 26, none, .ld false 1 false, [.tm 25]⟩, ⟨some 27, none, .po (.toInt .u64), [.tm 26]⟩, ⟨some 28, none, .fa 1, [.tm 6]⟩, ⟨some 29, none, .ld false 1 false, [.tm 28]⟩, ⟨some 30, none, .mv, [.tm 1]⟩, ⟨some 31, none, .po (.toInt .u64), [.tm 30]⟩, ⟨some 32, none, .call 80, [.tm 27, .tm 29, .tm 31]⟩, ⟨some 24, none, .mv, [.tm 32]⟩, ⟨some 33, none, .po (.ext 0), [.tm 24]⟩, ⟨some 34, none, .po (.ext 1), [.tm 24]⟩, ⟨some 7, none, .mv, [.tm 33]⟩, ⟨some 8, none, .mv, [.tm 34]⟩] [2, 7, 8]) (.seq (.reg [⟨some 9, none, .mv, [.cn (.n .u64 9223372036854775807)]⟩] [2, 7, 8, 9]) (.seq (.seq (.reg [⟨some 35, none, .fa 0, [.tm 2]⟩, ⟨some 36, none, .ld false 1 false, [.tm 35]⟩, ⟨some 37, none, .po (.bin .lss), [.tm 36, .cn (.n .i64 0)]⟩] [2, 7, 8, 9, 37]) (.cond (.tm 37) (.seq (.reg [⟨some 9, none, .mv, [.cn (.n .u64 9223372036854775808)]⟩] [2, 7, 8, 9]) (.seq (.reg [⟨some 38, none, .mv, [.tm 8]⟩, ⟨some 39, none, .po (.bin .gtr), [.tm 38, .cn (.n .u64 0)]⟩] [2, 7, 8, 9, 39]) (.cond (.tm 39) (.reg [⟨some 40, none, .mv, [.tm 9]⟩, ⟨some 41, none, .po (.bin .sub), [.tm 40, .cn (.n .u64 1)]⟩, ⟨some 9, none, .mv, [.tm 41]⟩] [2, 7, 8, 9]) .skip))) .skip)) (.seq (.seq (.reg [⟨some 42, none, .mv, [.tm 7]⟩, ⟨some 43, none, .mv, [.tm 9]⟩, ⟨some 44, none, .po (.bin .gtr), [.tm 42, .tm 43]⟩] [2, 7, 8, 44]) (.cond (.tm 44) (.seq (.reg [⟨some 4, none, .mv, [.cn (.n .i64 0)]⟩, ⟨some 5, none, .mv, [.cn (.n .i64 2)]⟩] [4, 5]) .ret) .skip)) (.seq (.block 0 (.seq (.reg [⟨some 46, none, .fa 0, [.tm 2]⟩, ⟨some 47, none, .ld false 1 false, [.tm 46]⟩, ⟨some 48, none, .po (.bin .geq), [.tm 47, .cn (.n .i64 0)]⟩, ⟨some 45, none, .mv, [.tm 48]⟩] [7, 8, 45]) (.cond (.tm 45) (.seq (.reg [⟨some 49, none, .mv, [.tm 7]⟩, ⟨some 50, none, .po (.toInt .i64), [.tm 49]⟩, ⟨some 4, none, .mv, [.tm 50]⟩, ⟨some 5, none, .mv, [.cn (.n .i64 0)]⟩] [4, 5]) .ret) (.seq (.reg [⟨some 52, none, .mv, [.tm 8]⟩, ⟨some 53, none, .po (.bin .gtr), [.tm 52, .cn (.n .u64 0)]⟩, ⟨some 51, none, .mv, [.tm 53]⟩] [7, 51]) (.cond (.tm 51) (.seq (.reg [⟨some 54, none, .mv, [.tm 7]⟩, ⟨some 55, none, .po (.un .neg), [.tm 54]⟩, ⟨some 56, none, .po (.toInt .i64), [.tm 55]⟩, ⟨some 57, none, .po (.bin .sub), [.tm 56, .cn (.n .i64 1)]⟩, ⟨some 4, none, .mv, [.tm 57]⟩, ⟨some 5, none, .mv, [.cn (.n .i64 0)]⟩] [4, 5]) .ret) .skip))))) (.seq (.reg [⟨some 58, none, .mv, [.tm 7]⟩, ⟨some 59, none, .po (.un .neg), [.tm 58]⟩, ⟨some 60, none, .po (.toInt .i64), [.tm 59]⟩, ⟨some 4, none, .mv, [.tm 60]⟩, ⟨some 5, none, .mv, [.cn (.n .i64 0)]⟩] [4, 5]) .ret)))))))))), [.tm 4, .tm 5]⟩
theorem of67 : Fn1.of Try.prog 67 ⟨false, [], false⟩ [[1, 2], [1, 2, 11], [4, 5], [1, 2, 6], [1, 2, 6, 15], [1, 2, 6], [1, 2, 6, 23], [4, 5], [2, 7, 8], [2, 7, 8, 9], [2, 7, 8, 9, 37], [2, 7, 8, 9], [2, 7, 8, 9, 39], [2, 7, 8, 9], [2, 7, 8, 44], [4, 5], [7, 8, 45], [4, 5], [7, 51], [4, 5], [4, 5]] = some F67 := by kernel_rfl
theorem wideMod_nat (A d : Nat) (hd : 0 < d) : (A / 18446744073709551616 % d * 18446744073709551616 + A % 18446744073709551616) % d = A % d := by
  have e := Nat.div_add_mod A 18446744073709551616
  have : A % d = (A / 18446744073709551616 * 18446744073709551616 + A % 18446744073709551616) % d := by rw [Nat.mul_comm, e]
  rw [this, Nat.add_mod, Nat.mul_mod, Nat.mod_mod, ← Nat.mul_mod, ← Nat.add_mod]
/-- The rest, out of that of the absolute value. -/
theorem mod_abs {w d : Int} (hd : 0 < d) : w % d = if w < 0 ∧ 0 < w.natAbs % d.natAbs then d - (w.natAbs % d.natAbs : Nat) else (w.natAbs % d.natAbs : Nat) := by
  have h := split_abs (a := w) (b := d) (q := (w.natAbs / d.natAbs : Nat)) (r := (w.natAbs % d.natAbs : Nat)) (by omega) (by
    have := Nat.div_add_mod w.natAbs d.natAbs
    rw [Nat.mul_comm] at this
    exact_mod_cast this.symm) (by omega) (by have := Nat.mod_lt w.natAbs (show 0 < d.natAbs by omega); omega)
  rw [← h.2]
  generalize w.natAbs % d.natAbs = r
  split <;> split <;> omega
theorem div_abs {w d : Int} (hd : 0 < d) : w / d = if w < 0 ∧ 0 < w.natAbs % d.natAbs then -((w.natAbs / d.natAbs : Nat) : Int) - 1 else if w < 0 then -((w.natAbs / d.natAbs : Nat) : Int) else (w.natAbs / d.natAbs : Nat) := by
  have h := split_abs (a := w) (b := d) (q := (w.natAbs / d.natAbs : Nat)) (r := (w.natAbs % d.natAbs : Nat)) (by omega) (by
    have := Nat.div_add_mod w.natAbs d.natAbs
    rw [Nat.mul_comm] at this
    exact_mod_cast this.symm) (by omega) (by have := Nat.mod_lt w.natAbs (show 0 < d.natAbs by omega); omega)
  rw [← h.1, if_neg (by omega)]
  generalize w.natAbs % d.natAbs = r
  generalize w.natAbs / d.natAbs = q
  split <;> split <;> omega
theorem wMod_ok (w d : Int) (hw : fits2 w) (hd : fits d) : Pure Try.prog 66 [wideV w, .n .i64 d] (.n .i64 (if d < 1 then 0 else w % d)) := by
  refine pure_of_wp of66 (Nat.le_of_ble_eq_true rfl) ?_
  unfold fits at hd
  refine DecK.dec (fun h => ?_) (fun h => ?_)
  · ((repeat' first | refine DecK.tt ?_ | refine DecK.ff ?_ | refine DecK.beq (fun _ => ?_) (fun _ => ?_) | refine DecK.bne (fun _ => ?_) (fun _ => ?_) | refine DecK.dec (fun _ => ?_) (fun _ => ?_) | refine OptK.mk _ rfl ?_ | refine endV (by rfl) ?_) <;> (try with_reducible rfl))
    rw [if_pos h]
  rw [if_neg h, mod_abs (by omega)]
  have wd : IntKind.u64.wrap d = (d.natAbs : Int) := by rw [wmu64]; omega
  obtain ⟨A, hA⟩ : ∃ A, A = w.natAbs := ⟨_, rfl⟩
  obtain ⟨D, hD⟩ : ∃ D, D = d.natAbs := ⟨_, rfl⟩
  rw [← hA, ← hD]
  rw [← hD] at wd
  have hAb : A ≤ 170141183460469231731687303715884105728 := by unfold fits2 at hw; omega
  have hrem : ∀ x : Int, x = (A / 18446744073709551616 : Nat) → x.tmod (IntKind.u64.wrap d) = ((A / 18446744073709551616 % D : Nat) : Int) := fun x hx => by rw [hx, wd]; exact IntWalk.up_tmod rfl rfl
  have hmlt : A / 18446744073709551616 % D < D := Nat.mod_lt _ (by omega)
  have hr := wideMod_nat A D (by omega)
  have hrl : A % D < D := Nat.mod_lt _ (by omega)
  have td := Div64_ok (A / 18446744073709551616 % D) (A % 18446744073709551616) D hmlt (by omega) (by omega)
  rw [hr] at td
  refine OptK.mk _ rfl ?_
  unfold fits2 at hw
  refine DecK.dec (fun hn => ?_) (fun hn => ?_)
  · have e1 : IntKind.u64.wrap (m128 (-w) / 18446744073709551616) = (A / 18446744073709551616 : Nat) := by rw [wmu64, m128]; omega
    have e2 : m128 (-w) % 18446744073709551616 = (A % 18446744073709551616 : Nat) := by rw [m128]; omega
    refine CallK.mk _ (wNeg_ok w hw) rfl ?_
    refine OptK.mk _ rfl ?_
    refine OptK.mk _ (op_rem (by rw [wd]; omega)) ?_
    refine CallK.mk _ (td.args (by rw [hrem _ e1, e2, wd])) rfl ?_
    refine DecK.dec (fun _ => ?_) (fun h => absurd hn h)
    generalize A % D = r at *
    refine DecK.dec (fun hr0 => ?_) (fun hr0 => ?_)
    · ((repeat' first | refine DecK.tt ?_ | refine DecK.ff ?_ | refine DecK.beq (fun _ => ?_) (fun _ => ?_) | refine DecK.bne (fun _ => ?_) (fun _ => ?_) | refine DecK.dec (fun _ => ?_) (fun _ => ?_) | refine OptK.mk _ rfl ?_ | refine endV (by rfl) ?_) <;> (try with_reducible rfl))
      rw [if_pos (by omega)]
      congr 1
      rw [wd, wmu64, wm64]
      omega
    · ((repeat' first | refine DecK.tt ?_ | refine DecK.ff ?_ | refine DecK.beq (fun _ => ?_) (fun _ => ?_) | refine DecK.bne (fun _ => ?_) (fun _ => ?_) | refine DecK.dec (fun _ => ?_) (fun _ => ?_) | refine OptK.mk _ rfl ?_ | refine endV (by rfl) ?_) <;> (try with_reducible rfl))
      rw [if_neg (by omega)]
      congr 1
      rw [wm64]
      omega
  · have e1 : IntKind.u64.wrap (w / 18446744073709551616) = (A / 18446744073709551616 : Nat) := by rw [wmu64]; omega
    have e2 : w % 18446744073709551616 = (A % 18446744073709551616 : Nat) := by omega
    refine OptK.mk _ (op_rem (by rw [wd]; omega)) ?_
    refine CallK.mk _ (td.args (by rw [hrem _ e1, e2, wd])) rfl ?_
    refine DecK.dec (fun h => absurd h hn) (fun _ => ?_)
    generalize A % D = r at *
    ((repeat' first | refine DecK.tt ?_ | refine DecK.ff ?_ | refine DecK.beq (fun _ => ?_) (fun _ => ?_) | refine DecK.bne (fun _ => ?_) (fun _ => ?_) | refine DecK.dec (fun _ => ?_) (fun _ => ?_) | refine OptK.mk _ rfl ?_ | refine endV (by rfl) ?_) <;> (try with_reducible rfl))
    rw [if_neg (by omega)]
    congr 1
    rw [wm64]
    omega
/-- A quotient that may be too large: the value and the error. -/
def quoT (d q : Int) : List V := if d < 1 then [.n .i64 0, .n .i64 1] else if fits q then [.n .i64 q, .n .i64 0] else [.n .i64 0, .n .i64 2]
theorem quoT_arg {d q : Int} (h : d < 1) : V.tup [.n .i64 0, .n .i64 1] = .tup (quoT d q) := by rw [quoT, if_pos h]
theorem quoT_in {d q x : Int} (h : ¬ d < 1) (hq : fits q) (hx : x = q) : V.tup [.n .i64 x, .n .i64 0] = .tup (quoT d q) := by rw [quoT, if_neg h, if_pos hq, hx]
theorem quoT_out {d q : Int} (h : ¬ d < 1) (hq : ¬ fits q) : V.tup [.n .i64 0, .n .i64 2] = .tup (quoT d q) := by rw [quoT, if_neg h, if_neg hq]
theorem wDiv_ok (w d : Int) (hw : fits2 w) (hd : fits d) : Pure Try.prog 67 [wideV w, .n .i64 d] (.tup (quoT d (w / d))) := by
  refine pure_of_wp of67 (Nat.le_of_ble_eq_true rfl) ?_
  unfold fits at hd
  refine DecK.dec (fun h => ?_) (fun h => ?_)
  · ((repeat' first | refine DecK.tt ?_ | refine DecK.ff ?_ | refine DecK.beq (fun _ => ?_) (fun _ => ?_) | refine DecK.bne (fun _ => ?_) (fun _ => ?_) | refine DecK.dec (fun _ => ?_) (fun _ => ?_) | refine OptK.mk _ rfl ?_ | refine endV (by rfl) ?_) <;> (try with_reducible rfl))
    exact quoT_arg h
  have wd : IntKind.u64.wrap d = (d.natAbs : Int) := by rw [wmu64]; omega
  have hq := div_abs (w := w) (d := d) (by omega)
  obtain ⟨A, hA⟩ : ∃ A, A = w.natAbs := ⟨_, rfl⟩
  obtain ⟨D, hD⟩ : ∃ D, D = d.natAbs := ⟨_, rfl⟩
  rw [← hA, ← hD] at hq
  rw [← hD] at wd
  unfold fits2 at hw
  have hge : ¬ A / 18446744073709551616 < D → 18446744073709551616 ≤ A / D := fun hh => by
    refine (Nat.le_div_iff_mul_le (by omega)).2 ?_
    have := Nat.div_add_mod A 18446744073709551616
    omega
  have hlt : A / 18446744073709551616 < D → A / D < 18446744073709551616 := fun hh => (Nat.div_lt_iff_lt_mul (by omega)).2 (by have := Nat.div_add_mod A 18446744073709551616; omega)
  have eA : A / 18446744073709551616 * 18446744073709551616 + A % 18446744073709551616 = A := by omega
  have td : A / 18446744073709551616 < D → _ := fun hh => Div64_ok (A / 18446744073709551616) (A % 18446744073709551616) D hh (by omega) (by omega)
  rw [eA] at td
  refine OptK.mk _ rfl ?_
  refine DecK.dec (fun hn => ?_) (fun hn => ?_)
  · have e1 : IntKind.u64.wrap (m128 (-w) / 18446744073709551616) = (A / 18446744073709551616 : Nat) := by rw [wmu64, m128]; omega
    have e2 : m128 (-w) % 18446744073709551616 = (A % 18446744073709551616 : Nat) := by rw [m128]; omega
    refine CallK.mk _ (wNeg_ok w hw) rfl ?_
    refine OptK.mk _ rfl ?_
    refine DecK.dec (fun hb => ?_) (fun hb => ?_)
    · rw [e1, wd] at hb
      have := hge (by omega)
      generalize A / D = q at *
      generalize A % D = r at *
      ((repeat' first | refine DecK.tt ?_ | refine DecK.ff ?_ | refine DecK.beq (fun _ => ?_) (fun _ => ?_) | refine DecK.bne (fun _ => ?_) (fun _ => ?_) | refine DecK.dec (fun _ => ?_) (fun _ => ?_) | refine OptK.mk _ rfl ?_ | refine endV (by rfl) ?_) <;> (try with_reducible rfl))
      refine quoT_out h (by rw [hq]; unfold fits; split <;> (try split) <;> omega)
    rw [e1, wd] at hb
    have hlt := hlt (by omega)
    refine CallK.mk _ ((td (by omega)).args (by rw [e1, e2, wd])) rfl ?_
    clear hge td
    generalize A / D = q at *
    generalize A % D = r at *
    refine DecK.dec (fun _ => ?_) (fun h => absurd hn h)
    have w1 : IntKind.u64.wrap (9223372036854775808 - 1) = 9223372036854775807 := by decide
    refine DecK.dec (fun hr => ?_) (fun hr => ?_)
    · refine DecK.dec (fun hb => ?_) (fun hb => ?_)
      · rw [w1] at hb
        ((repeat' first | refine DecK.tt ?_ | refine DecK.ff ?_ | refine DecK.beq (fun _ => ?_) (fun _ => ?_) | refine DecK.bne (fun _ => ?_) (fun _ => ?_) | refine DecK.dec (fun _ => ?_) (fun _ => ?_) | refine OptK.mk _ rfl ?_ | refine endV (by rfl) ?_) <;> (try with_reducible rfl))
        exact quoT_out h (by rw [hq, if_pos (by omega)]; unfold fits; omega)
      · rw [w1] at hb
        refine DecK.dec (fun h => by omega) (fun _ => ?_)
        refine DecK.dec (fun _ => ?_) (fun h => absurd hr h)
        ((repeat' first | refine DecK.tt ?_ | refine DecK.ff ?_ | refine DecK.beq (fun _ => ?_) (fun _ => ?_) | refine DecK.bne (fun _ => ?_) (fun _ => ?_) | refine DecK.dec (fun _ => ?_) (fun _ => ?_) | refine OptK.mk _ rfl ?_ | refine endV (by rfl) ?_) <;> (try with_reducible rfl))
        refine quoT_in h (by rw [hq, if_pos (by omega)]; unfold fits; omega) ?_
        rw [hq, if_pos (by omega)]
        simp only [wm64, wmu64]
        omega
    · refine DecK.dec (fun hb => ?_) (fun hb => ?_)
      · ((repeat' first | refine DecK.tt ?_ | refine DecK.ff ?_ | refine DecK.beq (fun _ => ?_) (fun _ => ?_) | refine DecK.bne (fun _ => ?_) (fun _ => ?_) | refine DecK.dec (fun _ => ?_) (fun _ => ?_) | refine OptK.mk _ rfl ?_ | refine endV (by rfl) ?_) <;> (try with_reducible rfl))
        exact quoT_out h (by rw [hq, if_neg (by omega), if_pos (by omega)]; unfold fits; omega)
      · refine DecK.dec (fun h => by omega) (fun _ => ?_)
        refine DecK.dec (fun h => absurd h hr) (fun _ => ?_)
        ((repeat' first | refine DecK.tt ?_ | refine DecK.ff ?_ | refine DecK.beq (fun _ => ?_) (fun _ => ?_) | refine DecK.bne (fun _ => ?_) (fun _ => ?_) | refine DecK.dec (fun _ => ?_) (fun _ => ?_) | refine OptK.mk _ rfl ?_ | refine endV (by rfl) ?_) <;> (try with_reducible rfl))
        refine quoT_in h (by rw [hq, if_neg (by omega), if_pos (by omega)]; unfold fits; omega) ?_
        rw [hq, if_neg (by omega), if_pos (by omega)]
        simp only [wm64, wmu64]
        omega
  · have e1 : IntKind.u64.wrap (w / 18446744073709551616) = (A / 18446744073709551616 : Nat) := by rw [wmu64]; omega
    have e2 : w % 18446744073709551616 = (A % 18446744073709551616 : Nat) := by omega
    refine DecK.dec (fun hb => ?_) (fun hb => ?_)
    · rw [e1, wd] at hb
      have := hge (by omega)
      generalize A / D = q at *
      generalize A % D = r at *
      ((repeat' first | refine DecK.tt ?_ | refine DecK.ff ?_ | refine DecK.beq (fun _ => ?_) (fun _ => ?_) | refine DecK.bne (fun _ => ?_) (fun _ => ?_) | refine DecK.dec (fun _ => ?_) (fun _ => ?_) | refine OptK.mk _ rfl ?_ | refine endV (by rfl) ?_) <;> (try with_reducible rfl))
      refine quoT_out h (by rw [hq]; unfold fits; split <;> (try split) <;> omega)
    rw [e1, wd] at hb
    have hlt := hlt (by omega)
    refine CallK.mk _ ((td (by omega)).args (by rw [e1, e2, wd])) rfl ?_
    clear hge td
    generalize A / D = q at *
    generalize A % D = r at *
    refine DecK.dec (fun h => absurd h hn) (fun _ => ?_)
    refine DecK.dec (fun hb => ?_) (fun hb => ?_)
    · ((repeat' first | refine DecK.tt ?_ | refine DecK.ff ?_ | refine DecK.beq (fun _ => ?_) (fun _ => ?_) | refine DecK.bne (fun _ => ?_) (fun _ => ?_) | refine DecK.dec (fun _ => ?_) (fun _ => ?_) | refine OptK.mk _ rfl ?_ | refine endV (by rfl) ?_) <;> (try with_reducible rfl))
      exact quoT_out h (by rw [hq, if_neg (by omega), if_neg (by omega)]; unfold fits; omega)
    · refine DecK.dec (fun _ => ?_) (fun h => by omega)
      ((repeat' first | refine DecK.tt ?_ | refine DecK.ff ?_ | refine DecK.beq (fun _ => ?_) (fun _ => ?_) | refine DecK.bne (fun _ => ?_) (fun _ => ?_) | refine DecK.dec (fun _ => ?_) (fun _ => ?_) | refine OptK.mk _ rfl ?_ | refine endV (by rfl) ?_) <;> (try with_reducible rfl))
      refine quoT_in h (by rw [hq, if_neg (by omega), if_neg (by omega)]; unfold fits; omega) ?_
      rw [hq, if_neg (by omega), if_neg (by omega)]
      rw [wm64]
      omega
end Go.Proofs.Ytjeafcngljbdlaa.Sv
