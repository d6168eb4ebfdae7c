/- Numbers of 64 bits: quotients and rests of the program's package num. No condition. -/
import Derived.Test.YtljcbmnkjiogmaaDoorNb
namespace Go.Proofs.YtljcbmnkjiogmaaDoor.Sv
open Go Go.RowKit
set_option linter.unusedVariables false
set_option linter.unusedSimpArgs false
set_option maxRecDepth 100000
theorem wideMod_nat (A d : Nat) (hd : 0 < d) : (A / 18446744073709551616 % d * 18446744073709551616 + A % 18446744073709551616) % d = A % d := by
  have e := Nat.div_add_mod A 18446744073709551616
  have : A % d = (A / 18446744073709551616 * 18446744073709551616 + A % 18446744073709551616) % d := by rw [Nat.mul_comm, e]
  rw [this, Nat.add_mod, Nat.mul_mod, Nat.mod_mod, ← Nat.mul_mod, ← Nat.add_mod]
/-- The rest, out of that of the absolute value. -/
theorem mod_abs {w d : Int} (hd : 0 < d) : w % d = if w < 0 ∧ 0 < w.natAbs % d.natAbs then d - (w.natAbs % d.natAbs : Nat) else (w.natAbs % d.natAbs : Nat) := by
  have h := split_abs (a := w) (b := d) (q := (w.natAbs / d.natAbs : Nat)) (r := (w.natAbs % d.natAbs : Nat)) (by omega) (by
    have := Nat.div_add_mod w.natAbs d.natAbs
    rw [Nat.mul_comm] at this
    exact_mod_cast this.symm) (by omega) (by have := Nat.mod_lt w.natAbs (show 0 < d.natAbs by omega); omega)
  rw [← h.2]
  generalize w.natAbs % d.natAbs = r
  split <;> split <;> omega
theorem div_abs {w d : Int} (hd : 0 < d) : w / d = if w < 0 ∧ 0 < w.natAbs % d.natAbs then -((w.natAbs / d.natAbs : Nat) : Int) - 1 else if w < 0 then -((w.natAbs / d.natAbs : Nat) : Int) else (w.natAbs / d.natAbs : Nat) := by
  have h := split_abs (a := w) (b := d) (q := (w.natAbs / d.natAbs : Nat)) (r := (w.natAbs % d.natAbs : Nat)) (by omega) (by
    have := Nat.div_add_mod w.natAbs d.natAbs
    rw [Nat.mul_comm] at this
    exact_mod_cast this.symm) (by omega) (by have := Nat.mod_lt w.natAbs (show 0 < d.natAbs by omega); omega)
  rw [← h.1, if_neg (by omega)]
  generalize w.natAbs % d.natAbs = r
  generalize w.natAbs / d.natAbs = q
  split <;> split <;> omega
/-- A quotient that may be too large: the value and the error. -/
def quoT (d q : Int) : List V := if d < 1 then [.n .i64 0, .n .i64 1] else if fits q then [.n .i64 q, .n .i64 0] else [.n .i64 0, .n .i64 2]
theorem quoT_arg {d q : Int} (h : d < 1) : V.tup [.n .i64 0, .n .i64 1] = .tup (quoT d q) := by rw [quoT, if_pos h]
theorem quoT_in {d q x : Int} (h : ¬ d < 1) (hq : fits q) (hx : x = q) : V.tup [.n .i64 x, .n .i64 0] = .tup (quoT d q) := by rw [quoT, if_neg h, if_pos hq, hx]
theorem quoT_out {d q : Int} (h : ¬ d < 1) (hq : ¬ fits q) : V.tup [.n .i64 0, .n .i64 2] = .tup (quoT d q) := by rw [quoT, if_neg h, if_neg hq]
end Go.Proofs.YtljcbmnkjiogmaaDoor.Sv
