/- Clocks: what they show. No condition. -/
import Derived.Test.YtdceakejbnolpaaBbTick
namespace Go.Proofs.Ytdceakejbnolpaa.Sv
open Go Go.RowKit
set_option linter.unusedVariables false
set_option linter.unusedSimpArgs false
set_option maxRecDepth 100000
/-- spyglass/clock.inTime -/
def F72 : Fn1 := ⟨9, .seq (.reg [⟨some 2, none, .mv, [.cn (.b false)]⟩] [0]) (.seq (.reg [⟨some 3, none, .mv, [.tm 0]⟩, ⟨some 4, none, .po (.bin .leq), [.cn (.n .i64 (-17592186044416)), .tm 3]⟩, ⟨some 5, none, .mv, [.tm 4]⟩, ⟨some 6, some (5, true), .mv, [.tm 0]⟩, ⟨some 7, some (5, true), .po (.bin .leq), [.tm 6, .cn (.n .i64 17592186044416)]⟩, ⟨some 8, none, .pick, [.tm 5, .tm 7, .cn (.b false)]⟩, ⟨some 2, none, .mv, [.tm 8]⟩] [2]) .ret), [.tm 2]⟩
theorem of72 : Fn1.of Try.prog 72 ⟨false, [], false⟩ [[0], [2]] = some F72 := by kernel_rfl
/-- spyglass/spyref1.InTime -/
def F73 : Fn1 := ⟨9, .seq (.reg [⟨some 2, none, .mv, [.cn (.b false)]⟩] [0]) (.seq (.reg [⟨some 3, none, .mv, [.tm 0]⟩, ⟨some 4, none, .po (.bin .leq), [.tm 3, .cn (.n .i64 17592186044416)]⟩, ⟨some 5, none, .mv, [.tm 4]⟩, ⟨some 6, some (5, true), .mv, [.tm 0]⟩, ⟨some 7, some (5, true), .po (.bin .geq), [.tm 6, .cn (.n .i64 (-17592186044416))]⟩, ⟨some 8, none, .pick, [.tm 5, .tm 7, .cn (.b false)]⟩, ⟨some 2, none, .mv, [.tm 8]⟩] [2]) .ret), [.tm 2]⟩
theorem of73 : Fn1.of Try.prog 73 ⟨false, [], false⟩ [[0], [2]] = some F73 := by kernel_rfl
/-- spyglass/clock.Check -/
def F75 : Fn1 := ⟨38, .seq (.reg [⟨some 1, none, .box, [.tm 0]⟩, ⟨some 2, none, .mv, [.cn (.n .i64 0)]⟩] [1]) (.seq (.seq (.reg [⟨some 4, none, .fa 1, [.tm 1]⟩, ⟨some 5, none, .ld true 3 false, [.tm 4]⟩, ⟨some 6, none, .call 135, [.tm 5]⟩, ⟨some 3, none, .mv, [.tm 6]⟩] [1, 3]) (.seq (.reg [⟨some 7, none, .mv, [.tm 3]⟩, ⟨some 8, none, .po (.bin .neq), [.tm 7, .cn (.n .i64 0)]⟩] [1, 3, 8]) (.cond (.tm 8) (.seq (.reg [⟨some 9, none, .mv, [.tm 3]⟩, ⟨some 2, none, .mv, [.tm 9]⟩] [2]) .ret) .skip))) (.seq (.seq (.reg [⟨some 10, none, .fa 0, [.tm 1]⟩, ⟨some 11, none, .ld false 1 false, [.tm 10]⟩, ⟨some 12, none, .call 72, [.tm 11]⟩, ⟨some 13, none, .po (.un .not), [.tm 12]⟩, ⟨some 14, none, .mv, [.tm 13]⟩, ⟨some 15, some (14, false), .fa 1, [.tm 1]⟩, ⟨some 16, some (14, false), .fa 0, [.tm 15]⟩, ⟨some 17, some (14, false), .ld false 1 false, [.tm 16]⟩, ⟨some 18, some (14, false), .call 72, [.tm 17]⟩, ⟨some 19, some (14, false), .po (.un .not), [.tm 18]⟩, ⟨some 20, none, .pick, [.tm 14, .cn (.b true), .tm 19]⟩, ⟨some 21, none, .mv, [.tm 20]⟩, ⟨some 22, some (21, false), .fa 1, [.tm 1]⟩, ⟨some 23, some (21, false), .fa 1, [.tm 22]⟩, ⟨some 24, some (21, false), .ld false 1 false, [.tm 23]⟩, ⟨some 25, some (21, false), .call 72, [.tm 24]⟩, ⟨some 26, some (21, false), .po (.un .not), [.tm 25]⟩, ⟨some 27, none, .pick, [.tm 21, .cn (.b true), .tm 26]⟩, ⟨some 28, none, .mv, [.tm 27]⟩, ⟨some 29, some (28, false), .fa 4, [.tm 1]⟩, ⟨some 30, some (28, false), .ld false 1 false, [.tm 29]⟩, ⟨some 31, some (28, false), .po (.bin .lss), [.tm 30, .cn (.n .i64 0)]⟩, ⟨some 32, none, .pick, [.tm 28, .cn (.b true), .tm 31]⟩, ⟨some 33, none, .mv, [.tm 32]⟩, ⟨some 34, some (33, false), .fa 4, [.tm 1]⟩, ⟨some 35, some (33, false), .ld false 1 false, [.tm 34]⟩, ⟨some 36, some (33, false), .po (.bin .gtr), [.tm 35, .cn (.n .i64 100000)]⟩, ⟨some 37, none, .pick, [.tm 33, .cn (.b true), .tm 36]⟩] [37]) (.cond (.tm 37) (.seq (.reg [⟨some 2, none, .mv, [.cn (.n .i64 4)]⟩] [2]) .ret) .skip)) (.seq (.reg [⟨some 2, none, .mv, [.cn (.n .i64 0)]⟩] [2]) .ret))), [.tm 2]⟩
theorem of75 : Fn1.of Try.prog 75 ⟨false, [], false⟩ [[1], [1, 3], [1, 3, 8], [2], [37], [2], [2]] = some F75 := by kernel_rfl
/-- live: [1, 20, 21, 22] -/
def L80_0 : SC := .seq (.reg [⟨some 23, none, .po (.bin .lss), [.tm 22, .tm 21]⟩] [1, 20, 21, 22, 23]) (.seq (.cond (.tm 23) .skip (.exit 0)) (.seq (.block 1 (.seq (.reg [⟨some 24, none, .ia none 1, [.tm 20, .tm 22]⟩, ⟨some 25, none, .ld false 1 true, [.tm 24]⟩, ⟨some 5, none, .mv, [.tm 25]⟩] [1, 5, 20, 21, 22]) (.seq (.reg [⟨some 26, none, .mv, [.tm 5]⟩, ⟨some 27, none, .call 73, [.tm 26]⟩, ⟨some 28, none, .po (.un .not), [.tm 27]⟩] [1, 20, 21, 22, 28]) (.cond (.tm 28) (.seq (.reg [⟨some 2, none, .mv, [.cn (.n .i64 4)]⟩] [2]) .ret) .skip)))) (.reg [⟨some 29, none, .po (.bin .add), [.tm 22, .cn (.n .i64 1)]⟩, ⟨some 22, none, .mv, [.tm 29]⟩] [1, 20, 21, 22])))
/-- spyglass/spyref1.ClockErr -/
def F80 : Fn1 := ⟨38, .seq (.reg [⟨some 1, none, .box, [.tm 0]⟩, ⟨some 2, none, .mv, [.cn (.n .i64 0)]⟩] [1]) (.seq (.seq (.reg [⟨some 6, none, .fa 1, [.tm 1]⟩, ⟨some 7, none, .ld true 3 false, [.tm 6]⟩, ⟨some 8, none, .call 140, [.tm 7]⟩, ⟨some 3, none, .mv, [.tm 8]⟩] [1, 3]) (.seq (.reg [⟨some 9, none, .mv, [.tm 3]⟩, ⟨some 10, none, .po (.bin .neq), [.tm 9, .cn (.n .i64 0)]⟩] [1, 3, 10]) (.cond (.tm 10) (.seq (.reg [⟨some 11, none, .mv, [.tm 3]⟩, ⟨some 2, none, .mv, [.tm 11]⟩] [2]) .ret) .skip))) (.seq (.seq (.reg [⟨some 12, none, .fa 0, [.tm 1]⟩, ⟨some 13, none, .ld false 1 false, [.tm 12]⟩, ⟨some 14, none, .fa 1, [.tm 1]⟩, ⟨some 15, none, .fa 0, [.tm 14]⟩, ⟨some 16, none, .ld false 1 false, [.tm 15]⟩, ⟨some 17, none, .fa 1, [.tm 1]⟩, ⟨some 18, none, .fa 1, [.tm 17]⟩, ⟨some 19, none, .ld false 1 false, [.tm 18]⟩, ⟨some 20, none, .po (.bsl 3 [.n .i64 0] [(0, 1), (1, 1), (2, 1)]), [.tm 13, .tm 16, .tm 19]⟩, ⟨some 21, none, .len false, [.tm 20]⟩, ⟨some 22, none, .mv, [.cn (.n .i64 0)]⟩] [1, 20, 21, 22]) (.block 0 (.loop [1, 20, 21, 22] L80_0))) (.seq (.seq (.reg [⟨some 30, none, .fa 4, [.tm 1]⟩, ⟨some 31, none, .ld false 1 false, [.tm 30]⟩, ⟨some 32, none, .po (.bin .lss), [.tm 31, .cn (.n .i64 0)]⟩, ⟨some 33, none, .mv, [.tm 32]⟩, ⟨some 34, some (33, false), .fa 4, [.tm 1]⟩, ⟨some 35, some (33, false), .ld false 1 false, [.tm 34]⟩, ⟨some 36, some (33, false), .po (.bin .gtr), [.tm 35, .cn (.n .i64 100000)]⟩, ⟨some 37, none, .pick, [.tm 33, .cn (.b true), .tm 36]⟩] [37]) (.cond (.tm 37) (.seq (.reg [⟨some 2, none, .mv, [.cn (.n .i64 4)]⟩] [2]) .ret) .skip)) (.seq (.reg [⟨some 2, none, .mv, [.cn (.n .i64 0)]⟩] [2]) .ret)))), [.tm 2]⟩
theorem of80 : Fn1.of Try.prog 80 ⟨false, [], false⟩ [[1], [1, 3], [1, 3, 10], [2], [1, 20, 21, 22], [1, 20, 21, 22], [1, 20, 21, 22, 23], [1, 5, 20, 21, 22], [1, 20, 21, 22, 28], [2], [1, 20, 21, 22], [37], [2], [2]] = some F80 := by kernel_rfl
/-- spyglass/spyref1.known -/
def F141 : Fn1 := ⟨12, .seq (.reg [⟨some 1, none, .box, [.tm 0]⟩, ⟨some 2, none, .mv, [.cn (.b false)]⟩] [1]) (.seq (.reg [⟨some 3, none, .ld true 5 false, [.tm 1]⟩, ⟨some 4, none, .call 80, [.tm 3]⟩, ⟨some 5, none, .po (.bin .eql), [.tm 4, .cn (.n .i64 0)]⟩, ⟨some 6, none, .mv, [.tm 5]⟩, ⟨some 7, some (6, true), .fa 1, [.tm 1]⟩, ⟨some 8, some (6, true), .fa 2, [.tm 7]⟩, ⟨some 9, some (6, true), .ld false 1 false, [.tm 8]⟩, ⟨some 10, some (6, true), .po (.un .not), [.tm 9]⟩, ⟨some 11, none, .pick, [.tm 6, .tm 10, .cn (.b false)]⟩, ⟨some 2, none, .mv, [.tm 11]⟩] [2]) .ret), [.tm 2]⟩
theorem of141 : Fn1.of Try.prog 141 ⟨false, [], false⟩ [[1], [2]] = some F141 := by kernel_rfl
/-- spyglass/spyref1.part -/
def F84 : Fn1 := ⟨26, .seq (.reg [⟨some 8, none, .alloc [.b false, .sl 0 [] true], []⟩] [0, 1, 2, 3, 8]) (.seq (.seq (.reg [⟨some 9, none, .mv, [.tm 3]⟩] [0, 1, 2, 8, 9]) (.cond (.tm 9) (.seq (.reg [⟨some 10, none, .mv, [.tm 0]⟩, ⟨some 11, none, .call 15, [.tm 10]⟩, ⟨some 12, none, .mv, [.tm 1]⟩, ⟨some 13, none, .call 15, [.tm 12]⟩, ⟨some 14, none, .call 16, [.tm 11, .tm 13]⟩, ⟨some 15, none, .mv, [.tm 2]⟩, ⟨some 16, none, .call 15, [.tm 15]⟩, ⟨some 17, none, .call 121, [.tm 14, .tm 16]⟩, ⟨none, none, .st 2, [.tm 8, .tm 17]⟩] [8]) .ret) .skip)) (.seq (.reg [⟨some 18, none, .mv, [.tm 0]⟩, ⟨some 19, none, .call 15, [.tm 18]⟩, ⟨some 20, none, .mv, [.tm 1]⟩, ⟨some 21, none, .call 15, [.tm 20]⟩, ⟨some 22, none, .call 16, [.tm 19, .tm 21]⟩, ⟨some 23, none, .mv, [.tm 2]⟩, ⟨some 24, none, .call 15, [.tm 23]⟩, ⟨some 25, none, .call 66, [.tm 22, .tm 24]⟩, ⟨none, none, .st 2, [.tm 8, .tm 25]⟩] [8]) .ret)), [.cell 8 true 2]⟩
theorem of84 : Fn1.of Try.prog 84 ⟨false, [], false⟩ [[0, 1, 2, 3, 8], [0, 1, 2, 8, 9], [8], [8]] = some F84 := by kernel_rfl
def inT (t : Int) : Prop := -17592186044416 ≤ t ∧ t ≤ 17592186044416
instance (t : Int) : Decidable (inT t) := by unfold inT; infer_instance
theorem inTime1 (t : Int) : Pure Try.prog 72 [.n .i64 t] (.b (decide (inT t))) := by
  refine pure_of_wp of72 (Nat.le_of_ble_eq_true rfl) ?_
  ((repeat' first | refine DecK.tt ?_ | refine DecK.ff ?_ | refine DecK.beq (fun _ => ?_) (fun _ => ?_) | refine DecK.bne (fun _ => ?_) (fun _ => ?_) | refine DecK.dec (fun _ => ?_) (fun _ => ?_) | refine OptK.mk _ rfl ?_ | refine endV (by rfl) ?_) <;> (try with_reducible rfl))
  all_goals refine congrArg _ ?_
  all_goals first | (refine decide_eq_decide.2 ?_; unfold inT; omega) | (symm; refine decide_eq_false ?_; unfold inT; omega)
theorem inTime2 (t : Int) : Pure Try.prog 73 [.n .i64 t] (.b (decide (inT t))) := by
  refine pure_of_wp of73 (Nat.le_of_ble_eq_true rfl) ?_
  ((repeat' first | refine DecK.tt ?_ | refine DecK.ff ?_ | refine DecK.beq (fun _ => ?_) (fun _ => ?_) | refine DecK.bne (fun _ => ?_) (fun _ => ?_) | refine DecK.dec (fun _ => ?_) (fun _ => ?_) | refine OptK.mk _ rfl ?_ | refine endV (by rfl) ?_) <;> (try with_reducible rfl))
  all_goals refine congrArg _ ?_
  all_goals first | (refine decide_eq_decide.2 ?_; unfold inT; omega) | (symm; refine decide_eq_false ?_; unfold inT; omega)
abbrev clkC (s lo hi : Int) (u : Bool) (dr : Int) : List V := [.n .i64 s, .n .i64 lo, .n .i64 hi, .b u, .n .i64 dr]
abbrev clkV (s lo hi : Int) (u : Bool) (dr : Int) : V := .agg (clkC s lo hi u dr)
def clkErr (s lo hi : Int) (u : Bool) (dr : Int) : Int := if bErr lo hi u ≠ 0 then bErr lo hi u else if inT s ∧ inT lo ∧ inT hi ∧ 0 ≤ dr ∧ dr ≤ 100000 then 0 else 4
theorem clkErr_in {s lo hi dr : Int} {u : Bool} (h : bErr lo hi u = 0) : clkErr s lo hi u dr = if inT s ∧ inT lo ∧ inT hi ∧ 0 ≤ dr ∧ dr ≤ 100000 then 0 else 4 := by
  rw [clkErr, if_neg (fun g => g h)]
theorem clkCheck (s lo hi : Int) (u : Bool) (dr : Int) : Pure Try.prog 75 [clkV s lo hi u dr] (.n .i64 (clkErr s lo hi u dr)) := by
  refine pure_of_wp of75 (Nat.le_of_ble_eq_true rfl) ?_
  refine CallK.mk _ (checkTick lo hi u) rfl ?_
  refine DecK.bne (fun h => ?_) (fun h => ?_)
  · ((repeat' first | refine DecK.tt ?_ | refine DecK.ff ?_ | refine DecK.beq (fun _ => ?_) (fun _ => ?_) | refine DecK.bne (fun _ => ?_) (fun _ => ?_) | refine DecK.dec (fun _ => ?_) (fun _ => ?_) | refine OptK.mk _ rfl ?_ | refine endV (by rfl) ?_) <;> (try with_reducible rfl))
    rw [clkErr, if_pos h]
  · rw [clkErr_in h]
    repeat' first | refine DecK.tt ?_ | refine DecK.ff ?_ | refine DecK.beq (fun _ => ?_) (fun _ => ?_) | refine DecK.bne (fun _ => ?_) (fun _ => ?_) | refine DecK.dec (fun _ => ?_) (fun _ => ?_) | refine OptK.mk _ rfl ?_ | refine endV (by rfl) ?_ | (refine CallK.mk _ (inTime1 _) rfl ?_) | (refine DecK.not (DecK.dec (fun _ => ?_) (fun _ => ?_)))
    all_goals simp only [V.tup.injEq, V.agg.injEq, V.n.injEq, V.b.injEq, V.s.injEq, List.cons.injEq, true_and, and_true]
    all_goals (unfold inT at *; split <;> omega)
theorem clkErr2 (s lo hi : Int) (u : Bool) (dr : Int) : Pure Try.prog 80 [clkV s lo hi u dr] (.n .i64 (clkErr s lo hi u dr)) := by
  refine pure_of_wp of80 (Nat.le_of_ble_eq_true rfl) ?_
  refine CallK.mk _ (boundErrTick lo hi u) rfl ?_
  refine DecK.bne (fun h => ?_) (fun h => ?_)
  · ((repeat' first | refine DecK.tt ?_ | refine DecK.ff ?_ | refine DecK.beq (fun _ => ?_) (fun _ => ?_) | refine DecK.bne (fun _ => ?_) (fun _ => ?_) | refine DecK.dec (fun _ => ?_) (fun _ => ?_) | refine OptK.mk _ rfl ?_ | refine endV (by rfl) ?_) <;> (try with_reducible rfl))
    rw [clkErr, if_pos h]
  · rw [clkErr_in h]
    iterate 4
      all_goals try refine loop_unroll ?_
      all_goals repeat' first | (refine DecK.yes rfl ?_) | (refine DecK.no rfl ?_) | (refine CallK.mk _ (inTime2 _) rfl ?_) | (refine DecK.not (DecK.dec (fun _ => ?_) (fun _ => ?_))) | refine DecK.tt ?_ | refine DecK.ff ?_ | refine DecK.beq (fun _ => ?_) (fun _ => ?_) | refine DecK.bne (fun _ => ?_) (fun _ => ?_) | refine DecK.dec (fun _ => ?_) (fun _ => ?_) | refine OptK.mk _ rfl ?_ | refine endV (by rfl) ?_
    all_goals simp only [V.tup.injEq, V.agg.injEq, V.n.injEq, V.b.injEq, V.s.injEq, List.cons.injEq, true_and, and_true]
    all_goals (unfold inT at *; split <;> omega)
theorem clk_ok {s lo hi dr : Int} {u : Bool} (h : clkErr s lo hi u dr = 0) : inT s ∧ inT lo ∧ inT hi ∧ 0 ≤ dr ∧ dr ≤ 100000 ∧ bErr lo hi u = 0 := by
  unfold clkErr at h
  by_cases hb : bErr lo hi u ≠ 0
  · rw [if_pos hb] at h; exact absurd h hb
  · rw [if_neg hb] at h
    split at h
    · rename_i g; exact ⟨g.1, g.2.1, g.2.2.1, g.2.2.2.1, g.2.2.2.2, by omega⟩
    · cases h
theorem known_ok (s lo hi : Int) (u : Bool) (dr : Int) : Pure Try.prog 141 [clkV s lo hi u dr] (.b (decide (clkErr s lo hi u dr = 0 ∧ u = false))) := by
  refine pure_of_wp of141 (Nat.le_of_ble_eq_true rfl) ?_
  refine CallK.mk _ (clkErr2 s lo hi u dr) rfl ?_
  refine DecK.beq (fun h => ?_) (fun h => ?_)
  · ((repeat' first | refine DecK.tt ?_ | refine DecK.ff ?_ | refine DecK.beq (fun _ => ?_) (fun _ => ?_) | refine DecK.bne (fun _ => ?_) (fun _ => ?_) | refine DecK.dec (fun _ => ?_) (fun _ => ?_) | refine OptK.mk _ rfl ?_ | refine endV (by rfl) ?_) <;> (try with_reducible rfl))
    cases u <;> simp [h]
  · ((repeat' first | refine DecK.tt ?_ | refine DecK.ff ?_ | refine DecK.beq (fun _ => ?_) (fun _ => ?_) | refine DecK.bne (fun _ => ?_) (fun _ => ?_) | refine DecK.dec (fun _ => ?_) (fun _ => ?_) | refine OptK.mk _ rfl ?_ | refine endV (by rfl) ?_) <;> (try with_reducible rfl))
    simp [h]
theorem part_ok (a n d : Int) (up : Bool) (ha : fits a) (hn : fits n) (hd : fits d) (hd0 : 0 < d) : Pure Try.prog 84 [.n .i64 a, .n .i64 n, .n .i64 d, .b up] (zV (if up then cdiv (a * n) d else a * n / d)) := by
  refine pure_of_wp of84 (Nat.le_of_ble_eq_true rfl) ?_
  have za := ha.zb
  have zn := hn.zb
  have zd := hd.zb
  have zp : zb 8 (a * n) := (za.mul zn).mono (by decide)
  cases up
  · refine DecK.ff ?_
    repeat' first | (refine CallK.mk _ (I_ok a ha) rfl ?_) | (refine CallK.mk _ (I_ok n hn) rfl ?_) | (refine CallK.mk _ (I_ok d hd) rfl ?_) | (refine CallK.mk _ (Times_ok a n (za.mono (by decide)) (zn.mono (by decide))) rfl ?_) | (refine CallK.mk _ (Floor_ok (a * n) d (zp.mono (by decide)) (zd.mono (by decide)) (by omega)) rfl ?_) | refine DecK.tt ?_ | refine DecK.ff ?_ | refine DecK.beq (fun _ => ?_) (fun _ => ?_) | refine DecK.bne (fun _ => ?_) (fun _ => ?_) | refine DecK.dec (fun _ => ?_) (fun _ => ?_) | refine OptK.mk _ rfl ?_ | refine endV (by rfl) ?_
    rfl
  · refine DecK.tt ?_
    repeat' first | (refine CallK.mk _ (I_ok a ha) rfl ?_) | (refine CallK.mk _ (I_ok n hn) rfl ?_) | (refine CallK.mk _ (I_ok d hd) rfl ?_) | (refine CallK.mk _ (Times_ok a n (za.mono (by decide)) (zn.mono (by decide))) rfl ?_) | (refine CallK.mk _ (Ceil_ok (a * n) d (zp.mono (by decide)) (zd.mono (by decide)) (by omega)) rfl ?_) | refine DecK.tt ?_ | refine DecK.ff ?_ | refine DecK.beq (fun _ => ?_) (fun _ => ?_) | refine DecK.bne (fun _ => ?_) (fun _ => ?_) | refine DecK.dec (fun _ => ?_) (fun _ => ?_) | refine OptK.mk _ rfl ?_ | refine endV (by rfl) ?_
    rfl
end Go.Proofs.Ytdceakejbnolpaa.Sv
