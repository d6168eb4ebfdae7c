/- Bounds of numbers of a type: checks, sums; the program's and the reference's. No condition. -/
import Derived.Test.YtljcbmnkjiogmaaDoorBe
import Derived.Test.YtljcbmnkjiogmaaDoorNe
namespace Go.Proofs.YtljcbmnkjiogmaaDoor.Sv
open Go Go.RowKit
set_option linter.unusedVariables false
set_option linter.unusedSimpArgs false
set_option maxRecDepth 100000
/-- spyglass/bound.Check(spyglass/api.Tick) -/
def F42 : Fn1 := ⟨37, .seq (.reg [⟨some 1, none, .box, [.tm 0]⟩, ⟨some 2, none, .mv, [.cn (.n .i64 0)]⟩] [1]) (.seq (.block 0 (.seq (.reg [⟨some 4, none, .fa 2, [.tm 1]⟩, ⟨some 5, none, .ld false 1 false, [.tm 4]⟩, ⟨some 6, none, .mv, [.tm 5]⟩, ⟨some 7, some (6, true), .fa 0, [.tm 1]⟩, ⟨some 8, some (6, true), .ld false 1 false, [.tm 7]⟩, ⟨some 9, some (6, true), .po (.bin .neq), [.tm 8, .cn (.n .i64 0)]⟩, ⟨some 10, some (6, true), .mv, [.tm 9]⟩, ⟨some 11, some (10, false), .fa 1, [.tm 1]⟩, ⟨some 12, some (10, false), .ld false 1 false, [.tm 11]⟩, ⟨some 13, some (10, false), .po (.bin .neq), [.tm 12, .cn (.n .i64 0)]⟩, ⟨some 14, some (6, true), .pick, [.tm 10, .cn (.b true), .tm 13]⟩, ⟨some 15, none, .pick, [.tm 6, .tm 14, .cn (.b false)]⟩, ⟨some 3, none, .mv, [.tm 15]⟩] [1, 3]) (.cond (.tm 3) (.seq (.reg [⟨some 2, none, .mv, [.cn (.n .i64 3)]⟩] [2]) .ret) (.seq (.reg [⟨some 17, none, .fa 0, [.tm 1]⟩, ⟨some 18, none, .ld false 1 false, [.tm 17]⟩, ⟨some 19, none, .fa 1, [.tm 1]⟩, ⟨some 20, none, .ld false 1 false, [.tm 19]⟩, ⟨some 21, none, .po .mn, [.tm 18, .tm 20]⟩, ⟨some 22, none, .po (.bin .lss), [.tm 21, .cn (.n .i64 (-1152921504606846976))]⟩, ⟨some 23, none, .mv, [.tm 22]⟩, ⟨some 24, some (23, false), .fa 0, [.tm 1]⟩, ⟨some 25, some (23, false), .ld false 1 false, [.tm 24]⟩, ⟨some 26, some (23, false), .fa 1, [.tm 1]⟩, ⟨some 27, some (23, false), .ld false 1 false, [.tm 26]⟩, ⟨some 28, some (23, false), .po .mx, [.tm 25, .tm 27]⟩, ⟨some 29, some (23, false), .po (.bin .gtr), [.tm 28, .cn (.n .i64 1152921504606846976)]⟩, ⟨some 30, none, .pick, [.tm 23, .cn (.b true), .tm 29]⟩, ⟨some 16, none, .mv, [.tm 30]⟩] [1, 16]) (.cond (.tm 16) (.seq (.reg [⟨some 2, none, .mv, [.cn (.n .i64 4)]⟩] [2]) .ret) (.seq (.reg [⟨some 32, none, .fa 0, [.tm 1]⟩, ⟨some 33, none, .ld false 1 false, [.tm 32]⟩, ⟨some 34, none, .fa 1, [.tm 1]⟩, ⟨some 35, none, .ld false 1 false, [.tm 34]⟩, ⟨some 36, none, .po (.bin .gtr), [.tm 33, .tm 35]⟩, ⟨some 31, none, .mv, [.tm 36]⟩] [31]) (.cond (.tm 31) (.seq (.reg [⟨some 2, none, .mv, [.cn (.n .i64 11)]⟩] [2]) .ret) .skip))))))) (.seq (.reg [⟨some 2, none, .mv, [.cn (.n .i64 0)]⟩] [2]) .ret)), [.tm 2]⟩
theorem of42 : Fn1.of Tryd.prog 42 ⟨false, [], false⟩ [[1], [1, 3], [2], [1, 16], [2], [31], [2], [2]] = some F42 := by kernel_rfl
/-- live: [1, 19, 20, 21] -/
def L24_0 : SC := .seq (.reg [⟨some 22, none, .po (.bin .lss), [.tm 21, .tm 20]⟩] [1, 19, 20, 21, 22]) (.seq (.cond (.tm 22) .skip (.exit 0)) (.seq (.block 1 (.seq (.reg [⟨some 23, none, .ia none 1, [.tm 19, .tm 21]⟩, ⟨some 24, none, .ld false 1 true, [.tm 23]⟩, ⟨some 4, none, .mv, [.tm 24]⟩] [1, 4, 19, 20, 21]) (.seq (.reg [⟨some 25, none, .mv, [.tm 4]⟩, ⟨some 26, none, .po (.bin .gtr), [.tm 25, .cn (.n .i64 1152921504606846976)]⟩, ⟨some 27, none, .mv, [.tm 26]⟩, ⟨some 28, some (27, false), .mv, [.tm 4]⟩, ⟨some 29, some (27, false), .po (.bin .lss), [.tm 28, .cn (.n .i64 (-1152921504606846976))]⟩, ⟨some 30, none, .pick, [.tm 27, .cn (.b true), .tm 29]⟩] [1, 19, 20, 21, 30]) (.cond (.tm 30) (.seq (.reg [⟨some 2, none, .mv, [.cn (.n .i64 4)]⟩] [2]) .ret) .skip)))) (.reg [⟨some 31, none, .po (.bin .add), [.tm 21, .cn (.n .i64 1)]⟩, ⟨some 21, none, .mv, [.tm 31]⟩] [1, 19, 20, 21])))
/-- spyglass/spyref1.BoundErr(spyglass/api.Tick) -/
def F24 : Fn1 := ⟨37, .seq (.reg [⟨some 1, none, .box, [.tm 0]⟩, ⟨some 2, none, .mv, [.cn (.n .i64 0)]⟩] [1]) (.seq (.seq (.reg [⟨some 5, none, .fa 2, [.tm 1]⟩, ⟨some 6, none, .ld false 1 false, [.tm 5]⟩] [1, 6]) (.cond (.tm 6) (.seq (.seq (.reg [⟨some 7, none, .fa 0, [.tm 1]⟩, ⟨some 8, none, .ld false 1 false, [.tm 7]⟩, ⟨some 9, none, .po (.bin .eql), [.tm 8, .cn (.n .i64 0)]⟩, ⟨some 10, none, .mv, [.tm 9]⟩, ⟨some 11, some (10, true), .fa 1, [.tm 1]⟩, ⟨some 12, some (10, true), .ld false 1 false, [.tm 11]⟩, ⟨some 13, some (10, true), .po (.bin .eql), [.tm 12, .cn (.n .i64 0)]⟩, ⟨some 14, none, .pick, [.tm 10, .tm 13, .cn (.b false)]⟩] [14]) (.cond (.tm 14) (.seq (.reg [⟨some 2, none, .mv, [.cn (.n .i64 0)]⟩] [2]) .ret) .skip)) (.seq (.reg [⟨some 2, none, .mv, [.cn (.n .i64 3)]⟩] [2]) .ret)) .skip)) (.seq (.seq (.reg [⟨some 15, none, .fa 0, [.tm 1]⟩, ⟨some 16, none, .ld false 1 false, [.tm 15]⟩, ⟨some 17, none, .fa 1, [.tm 1]⟩, ⟨some 18, none, .ld false 1 false, [.tm 17]⟩, ⟨some 19, none, .po (.bsl 2 [.n .i64 0] [(0, 1), (1, 1)]), [.tm 16, .tm 18]⟩, ⟨some 20, none, .len false, [.tm 19]⟩, ⟨some 21, none, .mv, [.cn (.n .i64 0)]⟩] [1, 19, 20, 21]) (.block 0 (.loop [1, 19, 20, 21] L24_0))) (.seq (.seq (.reg [⟨some 32, none, .fa 1, [.tm 1]⟩, ⟨some 33, none, .ld false 1 false, [.tm 32]⟩, ⟨some 34, none, .fa 0, [.tm 1]⟩, ⟨some 35, none, .ld false 1 false, [.tm 34]⟩, ⟨some 36, none, .po (.bin .lss), [.tm 33, .tm 35]⟩] [36]) (.cond (.tm 36) (.seq (.reg [⟨some 2, none, .mv, [.cn (.n .i64 11)]⟩] [2]) .ret) .skip)) (.seq (.reg [⟨some 2, none, .mv, [.cn (.n .i64 0)]⟩] [2]) .ret)))), [.tm 2]⟩
theorem of24 : Fn1.of Tryd.prog 24 ⟨false, [], false⟩ [[1], [1, 6], [14], [2], [2], [1, 19, 20, 21], [1, 19, 20, 21], [1, 19, 20, 21, 22], [1, 4, 19, 20, 21], [1, 19, 20, 21, 30], [2], [1, 19, 20, 21], [36], [2], [2]] = some F24 := by kernel_rfl
theorem checkTick (lo hi : Int) (u : Bool) : Pure Tryd.prog 42 [bdV lo hi u] (.n .i64 (bErr lo hi u)) := by
  refine pure_of_wp of42 (Nat.le_of_ble_eq_true rfl) ?_
  unfold bErr
  cases u
  all_goals ((repeat' first | refine DecK.tt ?_ | refine DecK.ff ?_ | refine DecK.beq (fun _ => ?_) (fun _ => ?_) | refine DecK.bne (fun _ => ?_) (fun _ => ?_) | refine DecK.dec (fun _ => ?_) (fun _ => ?_) | refine OptK.mk _ rfl ?_ | refine endV (by rfl) ?_) <;> (try with_reducible rfl))
  all_goals simp only [V.tup.injEq, V.agg.injEq, V.n.injEq, V.b.injEq, V.s.injEq, List.cons.injEq, true_and, and_true]
  all_goals try simp only [if_true, Bool.false_eq_true, if_false]
  all_goals omega
theorem boundErrTick (lo hi : Int) (u : Bool) : Pure Tryd.prog 24 [bdV lo hi u] (.n .i64 (bErr lo hi u)) := by
  refine pure_of_wp of24 (Nat.le_of_ble_eq_true rfl) ?_
  unfold bErr
  cases u
  · refine DecK.ff ?_
    iterate 3
      all_goals try refine loop_unroll ?_
      all_goals repeat' first | (refine DecK.yes rfl ?_) | (refine DecK.no rfl ?_) | refine DecK.tt ?_ | refine DecK.ff ?_ | refine DecK.beq (fun _ => ?_) (fun _ => ?_) | refine DecK.bne (fun _ => ?_) (fun _ => ?_) | refine DecK.dec (fun _ => ?_) (fun _ => ?_) | refine OptK.mk _ rfl ?_ | refine endV (by rfl) ?_
    all_goals simp only [V.tup.injEq, V.agg.injEq, V.n.injEq, V.b.injEq, V.s.injEq, List.cons.injEq, true_and, and_true]
    all_goals try simp only [if_true, Bool.false_eq_true, if_false]
    all_goals omega
  · refine DecK.tt ?_
    ((repeat' first | refine DecK.tt ?_ | refine DecK.ff ?_ | refine DecK.beq (fun _ => ?_) (fun _ => ?_) | refine DecK.bne (fun _ => ?_) (fun _ => ?_) | refine DecK.dec (fun _ => ?_) (fun _ => ?_) | refine OptK.mk _ rfl ?_ | refine endV (by rfl) ?_) <;> (try with_reducible rfl))
    all_goals simp only [V.tup.injEq, V.agg.injEq, V.n.injEq, V.b.injEq, V.s.injEq, List.cons.injEq, true_and, and_true]
    all_goals try simp only [if_true, Bool.false_eq_true, if_false]
    all_goals omega
end Go.Proofs.YtljcbmnkjiogmaaDoor.Sv
