/- Fractions: checks, the program's and the reference's; lowest terms. No condition. -/
import Derived.Test.YtjeafcngljbdlaaVa
import Derived.Test.YtjeafcngljbdlaaNe
import Derived.Test.YtjeafcngljbdlaaZh
import Derived.Test.YtjeafcngljbdlaaFa
import Derived.Test.YtjeafcngljbdlaaWc
namespace Go.Proofs.Ytjeafcngljbdlaa.Sv
open Go Go.RowKit
set_option linter.unusedVariables false
set_option linter.unusedSimpArgs false
set_option maxRecDepth 100000
/-- spyglass/frac.Check -/
def F44 : Fn1 := ⟨27, .seq (.reg [⟨some 1, none, .box, [.tm 0]⟩, ⟨some 2, none, .mv, [.cn (.n .i64 0)]⟩] [1]) (.seq (.seq (.reg [⟨some 3, none, .fa 0, [.tm 1]⟩, ⟨some 4, none, .ld false 1 false, [.tm 3]⟩, ⟨some 5, none, .po (.bin .lss), [.tm 4, .cn (.n .i64 (-1152921504606846976))]⟩, ⟨some 6, none, .mv, [.tm 5]⟩, ⟨some 7, some (6, false), .fa 0, [.tm 1]⟩, ⟨some 8, some (6, false), .ld false 1 false, [.tm 7]⟩, ⟨some 9, some (6, false), .po (.bin .gtr), [.tm 8, .cn (.n .i64 1152921504606846976)]⟩, ⟨some 10, none, .pick, [.tm 6, .cn (.b true), .tm 9]⟩, ⟨some 11, none, .mv, [.tm 10]⟩, ⟨some 12, some (11, false), .fa 1, [.tm 1]⟩, ⟨some 13, some (11, false), .ld false 1 false, [.tm 12]⟩, ⟨some 14, some (11, false), .po (.bin .lss), [.tm 13, .cn (.n .i64 1)]⟩, ⟨some 15, none, .pick, [.tm 11, .cn (.b true), .tm 14]⟩, ⟨some 16, none, .mv, [.tm 15]⟩, ⟨some 17, some (16, false), .fa 1, [.tm 1]⟩, ⟨some 18, some (16, false), .ld false 1 false, [.tm 17]⟩, ⟨some 19, some (16, false), .po (.bin .gtr), [.tm 18, .cn (.n .i64 1152921504606846976)]⟩, ⟨some 20, none, .pick, [.tm 16, .cn (.b true), .tm 19]⟩] [1, 20]) (.cond (.tm 20) (.seq (.reg [⟨some 2, none, .mv, [.cn (.n .i64 4)]⟩] [2]) .ret) .skip)) (.seq (.seq (.reg [⟨some 21, none, .fa 0, [.tm 1]⟩, ⟨some 22, none, .ld false 1 false, [.tm 21]⟩, ⟨some 23, none, .fa 1, [.tm 1]⟩, ⟨some 24, none, .ld false 1 false, [.tm 23]⟩, ⟨some 25, none, .call 62, [.tm 22, .tm 24]⟩, ⟨some 26, none, .po (.bin .neq), [.tm 25, .cn (.n .i64 1)]⟩] [26]) (.cond (.tm 26) (.seq (.reg [⟨some 2, none, .mv, [.cn (.n .i64 3)]⟩] [2]) .ret) .skip)) (.seq (.reg [⟨some 2, none, .mv, [.cn (.n .i64 0)]⟩] [2]) .ret))), [.tm 2]⟩
theorem of44 : Fn1.of Try.prog 44 ⟨false, [], false⟩ [[1], [1, 20], [2], [26], [2], [2]] = some F44 := by kernel_rfl
/-- spyglass/frac.both -/
def F63 : Fn1 := ⟨11, .seq (.reg [⟨some 2, none, .box, [.tm 0]⟩, ⟨some 3, none, .box, [.tm 1]⟩, ⟨some 4, none, .mv, [.cn (.n .i64 0)]⟩] [2, 3]) (.seq (.dreg [⟨some 5, none, .ld true 2 false, [.tm 2]⟩, ⟨some 6, none, .call 44, [.tm 5]⟩, ⟨some 7, none, .ld true 2 false, [.tm 3]⟩, ⟨some 8, none, .call 44, [.tm 7]⟩, ⟨some 9, none, .po (.bsl 2 [.n .i64 0] [(0, 1), (1, 1)]), [.tm 6, .tm 8]⟩, ⟨some 10, none, .call 76, [.tm 9]⟩, ⟨some 4, none, .mv, [.tm 10]⟩] [] [4]) .ret), [.tm 4]⟩
theorem of63 : Fn1.of Try.prog 63 ⟨false, [], false⟩ [[2, 3], [4]] = some F63 := by kernel_rfl
/-- live: [0, 1, 6, 10, 11, 12] -/
def L69_0 : SC := .seq (.reg [⟨some 13, none, .po (.bin .lss), [.tm 12, .tm 11]⟩] [0, 1, 6, 10, 11, 12, 13]) (.seq (.cond (.tm 13) .skip (.exit 0)) (.seq (.block 1 (.seq (.reg [⟨some 14, none, .ia none 1, [.tm 10, .tm 12]⟩, ⟨some 15, none, .ld false 1 true, [.tm 14]⟩, ⟨some 9, none, .mv, [.tm 15]⟩] [0, 1, 6, 9, 10, 11, 12]) (.seq (.reg [⟨some 16, none, .mv, [.tm 9]⟩, ⟨some 17, none, .po (.un .not), [.tm 16]⟩] [0, 1, 6, 10, 11, 12, 17]) (.cond (.tm 17) (.seq (.reg [⟨some 18, none, .po (.build [.n .i64 0, .n .i64 0] []), []⟩, ⟨none, none, .st 2, [.tm 6, .tm 18]⟩, ⟨some 7, none, .mv, [.cn (.n .i64 2)]⟩] [6, 7]) .ret) .skip)))) (.reg [⟨some 19, none, .po (.bin .add), [.tm 12, .cn (.n .i64 1)]⟩, ⟨some 12, none, .mv, [.tm 19]⟩] [0, 1, 6, 10, 11, 12])))
/-- spyglass/frac.made -/
def F69 : Fn1 := ⟨34, .seq (.reg [⟨some 6, none, .alloc [.n .i64 0, .n .i64 0], []⟩, ⟨some 7, none, .mv, [.cn (.n .i64 0)]⟩] [0, 1, 2, 6]) (.seq (.seq (.reg [⟨some 10, none, .mv, [.tm 2]⟩, ⟨some 11, none, .len false, [.tm 10]⟩, ⟨some 12, none, .mv, [.cn (.n .i64 0)]⟩] [0, 1, 6, 10, 11, 12]) (.block 0 (.loop [0, 1, 6, 10, 11, 12] L69_0))) (.seq (.seq (.reg [⟨some 20, none, .mv, [.tm 0]⟩, ⟨some 21, none, .po (.bin .lss), [.tm 20, .cn (.n .i64 (-1152921504606846976))]⟩, ⟨some 22, none, .mv, [.tm 21]⟩, ⟨some 23, some (22, false), .mv, [.tm 0]⟩, ⟨some 24, some (22, false), .po (.bin .gtr), [.tm 23, .cn (.n .i64 1152921504606846976)]⟩, ⟨some 25, none, .pick, [.tm 22, .cn (.b true), .tm 24]⟩, ⟨some 26, none, .mv, [.tm 25]⟩, ⟨some 27, some (26, false), .mv, [.tm 1]⟩, ⟨some 28, some (26, false), .po (.bin .gtr), [.tm 27, .cn (.n .i64 1152921504606846976)]⟩, ⟨some 29, none, .pick, [.tm 26, .cn (.b true), .tm 28]⟩] [0, 1, 6, 29]) (.cond (.tm 29) (.seq (.reg [⟨some 30, none, .po (.build [.n .i64 0, .n .i64 0] []), []⟩, ⟨none, none, .st 2, [.tm 6, .tm 30]⟩, ⟨some 7, none, .mv, [.cn (.n .i64 2)]⟩] [6, 7]) .ret) .skip)) (.seq (.reg [⟨some 31, none, .mv, [.tm 0]⟩, ⟨some 32, none, .mv, [.tm 1]⟩, ⟨some 33, none, .po (.build [.n .i64 0, .n .i64 0] [(0, 1), (1, 1)]), [.tm 31, .tm 32]⟩, ⟨none, none, .st 2, [.tm 6, .tm 33]⟩, ⟨some 7, none, .mv, [.cn (.n .i64 0)]⟩] [6, 7]) .ret))), [.cell 6 true 2, .tm 7]⟩
theorem of69 : Fn1.of Try.prog 69 ⟨false, [], false⟩ [[0, 1, 2, 6], [0, 1, 6, 10, 11, 12], [0, 1, 6, 10, 11, 12], [0, 1, 6, 10, 11, 12, 13], [0, 1, 6, 9, 10, 11, 12], [0, 1, 6, 10, 11, 12, 17], [6, 7], [0, 1, 6, 10, 11, 12], [0, 1, 6, 29], [6, 7], [6, 7]] = some F69 := by kernel_rfl
/-- spyglass/spyref1.FracErr -/
def F18 : Fn1 := ⟨31, .seq (.reg [⟨some 1, none, .box, [.tm 0]⟩, ⟨some 2, none, .mv, [.cn (.n .i64 0)]⟩] [1]) (.seq (.seq (.reg [⟨some 3, none, .fa 0, [.tm 1]⟩, ⟨some 4, none, .ld false 1 false, [.tm 3]⟩, ⟨some 5, none, .po (.bin .gtr), [.tm 4, .cn (.n .i64 1152921504606846976)]⟩, ⟨some 6, none, .mv, [.tm 5]⟩, ⟨some 7, some (6, false), .fa 0, [.tm 1]⟩, ⟨some 8, some (6, false), .ld false 1 false, [.tm 7]⟩, ⟨some 9, some (6, false), .po (.bin .lss), [.tm 8, .cn (.n .i64 (-1152921504606846976))]⟩, ⟨some 10, none, .pick, [.tm 6, .cn (.b true), .tm 9]⟩, ⟨some 11, none, .mv, [.tm 10]⟩, ⟨some 12, some (11, false), .fa 1, [.tm 1]⟩, ⟨some 13, some (11, false), .ld false 1 false, [.tm 12]⟩, ⟨some 14, some (11, false), .po (.bin .gtr), [.tm 13, .cn (.n .i64 1152921504606846976)]⟩, ⟨some 15, none, .pick, [.tm 11, .cn (.b true), .tm 14]⟩, ⟨some 16, none, .mv, [.tm 15]⟩, ⟨some 17, some (16, false), .fa 1, [.tm 1]⟩, ⟨some 18, some (16, false), .ld false 1 false, [.tm 17]⟩, ⟨some 19, some (16, false), .po (.bin .lss), [.tm 18, .cn (.n .i64 1)]⟩, ⟨some 20, none, .pick, [.tm 16, .cn (.b true), .tm 19]⟩] [1, 20]) (.cond (.tm 20) (.seq (.reg [⟨some 2, none, .mv, [.cn (.n .i64 4)]⟩] [2]) .ret) .skip)) (.seq (.seq (.dreg [⟨some 21, none, .fa 0, [.tm 1]⟩, ⟨some 22, none, .ld false 1 false, [.tm 21]⟩, ⟨some 23, none, .call 10, [.tm 22]⟩, ⟨some 24, none, .fa 1, [.tm 1]⟩, ⟨some 25, none, .ld false 1 false, [.tm 24]⟩, ⟨some 26, none, .call 10, [.tm 25]⟩, ⟨some 27, none, .call 42, [.tm 23, .tm 26]⟩, ⟨some 28, none, .call 10, [.cn (.n .i64 1)]⟩, ⟨some 29, none, .call 29, [.tm 27, .tm 28]⟩, ⟨some 30, none, .po (.bin .neq), [.tm 29, .cn (.n .i64 0)]⟩] [] [30]) (.cond (.tm 30) (.seq (.reg [⟨some 2, none, .mv, [.cn (.n .i64 3)]⟩] [2]) .ret) .skip)) (.seq (.reg [⟨some 2, none, .mv, [.cn (.n .i64 0)]⟩] [2]) .ret))), [.tm 2]⟩
theorem of18 : Fn1.of Try.prog 18 ⟨false, [], false⟩ [[1], [1, 20], [2], [30], [2], [2]] = some F18 := by kernel_rfl
/-- spyglass/spyref1.Lowest -/
def F27 : Fn1 := ⟨51, .seq (.reg [⟨some 2, none, .box, [.tm 0]⟩, ⟨some 3, none, .box, [.tm 1]⟩, ⟨some 4, none, .alloc [.n .i64 0, .n .i64 0], []⟩, ⟨some 5, none, .mv, [.cn (.n .i64 0)]⟩] [2, 3, 4]) (.seq (.seq (.reg [⟨some 11, none, .fa 0, [.tm 3]⟩, ⟨some 12, none, .ld false 1 false, [.tm 11]⟩] [2, 3, 4, 12]) (.cond (.tm 12) (.dreg [⟨some 13, none, .ld true 2 false, [.tm 2]⟩, ⟨some 14, none, .call 9, [.tm 13]⟩, ⟨some 15, none, .ld true 2 false, [.tm 3]⟩, ⟨some 16, none, .call 9, [.tm 15]⟩, ⟨none, none, .st 2, [.tm 2, .tm 14]⟩, ⟨none, none, .st 2, [.tm 3, .tm 16]⟩] [] [2, 3, 4]) .skip)) (.seq (.reg [⟨some 17, none, .ld true 2 false, [.tm 2]⟩, ⟨some 18, none, .ld true 2 false, [.tm 3]⟩, ⟨some 19, none, .call 42, [.tm 17, .tm 18]⟩, ⟨some 6, none, .alloc [.b false, .sl 0 [] true], []⟩, ⟨none, none, .st 2, [.tm 6, .tm 19]⟩] [2, 3, 4, 6]) (.seq (.dreg [⟨some 20, none, .ld true 2 false, [.tm 2]⟩, ⟨some 21, none, .ld true 2 false, [.tm 6]⟩, ⟨some 22, none, .call 49, [.tm 20, .tm 21]⟩, ⟨some 23, none, .ld true 2 false, [.tm 3]⟩, ⟨some 24, none, .ld true 2 false, [.tm 6]⟩, ⟨some 25, none, .call 49, [.tm 23, .tm 24]⟩, ⟨none, none, .st 2, [.tm 2, .tm 22]⟩, ⟨none, none, .st 2, [.tm 3, .tm 25]⟩] [] [2, 3, 4]) (.seq (.seq (.dreg [⟨some 26, none, .ld true 2 false, [.tm 2]⟩, ⟨some 27, none, .call 43, [.tm 26]⟩, ⟨some 28, none, .call 10, [.cn (.n .i64 1152921504606846976)]⟩, ⟨some 29, none, .call 29, [.tm 27, .tm 28]⟩, ⟨some 30, none, .po (.bin .gtr), [.tm 29, .cn (.n .i64 0)]⟩, ⟨some 31, none, .mv, [.tm 30]⟩, ⟨some 32, some (31, false), .ld true 2 false, [.tm 3]⟩, ⟨some 33, some (31, false), .call 10, [.cn (.n .i64 1152921504606846976)]⟩, ⟨some 34, some (31, false), .call 29, [.tm 32, .tm 33]⟩, ⟨some 35, some (31, false), .po (.bin .gtr), [.tm 34, .cn (.n .i64 0)]⟩, ⟨some 36, none, .pick, [.tm 31, .cn (.b true), .tm 35]⟩] [] [2, 3, 4, 36]) (.cond (.tm 36) (.seq (.reg [⟨some 37, none, .po (.build [.n .i64 0, .n .i64 0] []), []⟩, ⟨none, none, .st 2, [.tm 4, .tm 37]⟩, ⟨some 5, none, .mv, [.cn (.n .i64 2)]⟩] [4, 5]) .ret) .skip)) (.seq (.reg [⟨some 39, none, .ld true 2 false, [.tm 2]⟩, ⟨some 40, none, .call 30, [.tm 39]⟩, ⟨some 38, none, .mv, [.tm 40]⟩, ⟨some 41, none, .po (.ext 0), [.tm 38]⟩, ⟨some 42, none, .po (.ext 1), [.tm 38]⟩, ⟨some 7, none, .mv, [.tm 41]⟩, ⟨some 8, none, .mv, [.tm 42]⟩] [3, 4, 7]) (.seq (.reg [⟨some 44, none, .ld true 2 false, [.tm 3]⟩, ⟨some 45, none, .call 30, [.tm 44]⟩, ⟨some 43, none, .mv, [.tm 45]⟩, ⟨some 46, none, .po (.ext 0), [.tm 43]⟩, ⟨some 47, none, .po (.ext 1), [.tm 43]⟩, ⟨some 9, none, .mv, [.tm 46]⟩, ⟨some 10, none, .mv, [.tm 47]⟩] [4, 7, 9]) (.seq (.reg [⟨some 48, none, .mv, [.tm 7]⟩, ⟨some 49, none, .mv, [.tm 9]⟩, ⟨some 50, none, .po (.build [.n .i64 0, .n .i64 0] [(0, 1), (1, 1)]), [.tm 48, .tm 49]⟩, ⟨none, none, .st 2, [.tm 4, .tm 50]⟩, ⟨some 5, none, .mv, [.cn (.n .i64 0)]⟩] [4, 5]) .ret))))))), [.cell 4 true 2, .tm 5]⟩
theorem of27 : Fn1.of Try.prog 27 ⟨false, [], false⟩ [[2, 3, 4], [2, 3, 4, 12], [2, 3, 4], [2, 3, 4, 6], [2, 3, 4], [2, 3, 4, 36], [4, 5], [3, 4, 7], [4, 7, 9], [4, 5]] = some F27 := by kernel_rfl
abbrev frC (n d : Int) : List V := [.n .i64 n, .n .i64 d]
abbrev fracV (n d : Int) : V := .agg (frC n d)
def frOut (n d : Int) : Prop := n < -1152921504606846976 ∨ n > 1152921504606846976 ∨ d < 1 ∨ d > 1152921504606846976
instance (n d : Int) : Decidable (frOut n d) := by unfold frOut; infer_instance
def frErr (n d : Int) : Int := if frOut n d then 4 else if (Int.gcd n d : Int) ≠ 1 then 3 else 0
theorem small1 {g : Int} : small g = 1 ↔ g = 1 := by
  unfold small
  split
  · exact Iff.rfl
  · next h =>
    refine ⟨fun h => absurd h (by decide), fun h' => absurd (show fits g by subst h'; unfold fits; omega) h⟩
theorem frCheck_ok (n d : Int) (hn : fits n) (hd : fits d) : Pure Try.prog 44 [fracV n d] (.n .i64 (frErr n d)) := by
  have t := numGcd_ok n d hn hd
  refine pure_of_wp of44 (Nat.le_of_ble_eq_true rfl) ?_
  refine DecK.dec (fun h1 => ?_) (fun h1 => ?_)
  · repeat' (refine DecK.tt ?_)
    ((repeat' first | refine DecK.tt ?_ | refine DecK.ff ?_ | refine DecK.beq (fun _ => ?_) (fun _ => ?_) | refine DecK.bne (fun _ => ?_) (fun _ => ?_) | refine DecK.dec (fun _ => ?_) (fun _ => ?_) | refine OptK.mk _ rfl ?_ | refine endV (by rfl) ?_) <;> (try with_reducible rfl))
    rw [frErr, if_pos (by unfold frOut; omega)]
  refine DecK.dec (fun h2 => ?_) (fun h2 => ?_)
  · repeat' (refine DecK.tt ?_)
    ((repeat' first | refine DecK.tt ?_ | refine DecK.ff ?_ | refine DecK.beq (fun _ => ?_) (fun _ => ?_) | refine DecK.bne (fun _ => ?_) (fun _ => ?_) | refine DecK.dec (fun _ => ?_) (fun _ => ?_) | refine OptK.mk _ rfl ?_ | refine endV (by rfl) ?_) <;> (try with_reducible rfl))
    rw [frErr, if_pos (by unfold frOut; omega)]
  refine DecK.dec (fun h3 => ?_) (fun h3 => ?_)
  · repeat' (refine DecK.tt ?_)
    ((repeat' first | refine DecK.tt ?_ | refine DecK.ff ?_ | refine DecK.beq (fun _ => ?_) (fun _ => ?_) | refine DecK.bne (fun _ => ?_) (fun _ => ?_) | refine DecK.dec (fun _ => ?_) (fun _ => ?_) | refine OptK.mk _ rfl ?_ | refine endV (by rfl) ?_) <;> (try with_reducible rfl))
    rw [frErr, if_pos (by unfold frOut; omega)]
  refine DecK.dec (fun h4 => ?_) (fun h4 => ?_)
  · ((repeat' first | refine DecK.tt ?_ | refine DecK.ff ?_ | refine DecK.beq (fun _ => ?_) (fun _ => ?_) | refine DecK.bne (fun _ => ?_) (fun _ => ?_) | refine DecK.dec (fun _ => ?_) (fun _ => ?_) | refine OptK.mk _ rfl ?_ | refine endV (by rfl) ?_) <;> (try with_reducible rfl))
    rw [frErr, if_pos (by unfold frOut; omega)]
  refine CallK.mk _ t rfl ?_
  refine DecK.bne (fun h => ?_) (fun h => ?_)
  · ((repeat' first | refine DecK.tt ?_ | refine DecK.ff ?_ | refine DecK.beq (fun _ => ?_) (fun _ => ?_) | refine DecK.bne (fun _ => ?_) (fun _ => ?_) | refine DecK.dec (fun _ => ?_) (fun _ => ?_) | refine OptK.mk _ rfl ?_ | refine endV (by rfl) ?_) <;> (try with_reducible rfl))
    rw [frErr, if_neg (by unfold frOut; omega), if_pos (fun g => h (small1.2 g))]
  · ((repeat' first | refine DecK.tt ?_ | refine DecK.ff ?_ | refine DecK.beq (fun _ => ?_) (fun _ => ?_) | refine DecK.bne (fun _ => ?_) (fun _ => ?_) | refine DecK.dec (fun _ => ?_) (fun _ => ?_) | refine OptK.mk _ rfl ?_ | refine endV (by rfl) ?_) <;> (try with_reducible rfl))
    rw [frErr, if_neg (by unfold frOut; omega), if_neg (fun g => g (small1.1 h))]
theorem fracErr_ok (n d : Int) (hn : fits n) (hd : fits d) : Pure Try.prog 18 [fracV n d] (.n .i64 (frErr n d)) := by
  refine pure_of_wp of18 (Nat.le_of_ble_eq_true rfl) ?_
  refine DecK.dec (fun h1 => ?_) (fun h1 => ?_)
  · repeat' (refine DecK.tt ?_)
    ((repeat' first | refine DecK.tt ?_ | refine DecK.ff ?_ | refine DecK.beq (fun _ => ?_) (fun _ => ?_) | refine DecK.bne (fun _ => ?_) (fun _ => ?_) | refine DecK.dec (fun _ => ?_) (fun _ => ?_) | refine OptK.mk _ rfl ?_ | refine endV (by rfl) ?_) <;> (try with_reducible rfl))
    rw [frErr, if_pos (by unfold frOut; omega)]
  refine DecK.dec (fun h2 => ?_) (fun h2 => ?_)
  · repeat' (refine DecK.tt ?_)
    ((repeat' first | refine DecK.tt ?_ | refine DecK.ff ?_ | refine DecK.beq (fun _ => ?_) (fun _ => ?_) | refine DecK.bne (fun _ => ?_) (fun _ => ?_) | refine DecK.dec (fun _ => ?_) (fun _ => ?_) | refine OptK.mk _ rfl ?_ | refine endV (by rfl) ?_) <;> (try with_reducible rfl))
    rw [frErr, if_pos (by unfold frOut; omega)]
  refine DecK.dec (fun h3 => ?_) (fun h3 => ?_)
  · repeat' (refine DecK.tt ?_)
    ((repeat' first | refine DecK.tt ?_ | refine DecK.ff ?_ | refine DecK.beq (fun _ => ?_) (fun _ => ?_) | refine DecK.bne (fun _ => ?_) (fun _ => ?_) | refine DecK.dec (fun _ => ?_) (fun _ => ?_) | refine OptK.mk _ rfl ?_ | refine endV (by rfl) ?_) <;> (try with_reducible rfl))
    rw [frErr, if_pos (by unfold frOut; omega)]
  refine DecK.dec (fun h4 => ?_) (fun h4 => ?_)
  · ((repeat' first | refine DecK.tt ?_ | refine DecK.ff ?_ | refine DecK.beq (fun _ => ?_) (fun _ => ?_) | refine DecK.bne (fun _ => ?_) (fun _ => ?_) | refine DecK.dec (fun _ => ?_) (fun _ => ?_) | refine OptK.mk _ rfl ?_ | refine endV (by rfl) ?_) <;> (try with_reducible rfl))
    rw [frErr, if_pos (by unfold frOut; omega)]
  refine CallK.mk _ (I_ok n hn) rfl ?_
  refine CallK.mk _ (I_ok d hd) rfl ?_
  refine CallK.mk _ (Gcd_ok n d (hn.zb.mono (by decide)) (hd.zb.mono (by decide))) rfl ?_
  refine CallK.mk _ (I_ok 1 (by decide)) rfl ?_
  refine CallK.mk _ (Cmp_ok (Int.gcd n d) 1 ?_ (by first | exact (zb_64 (by omega)).mono (by decide) | exact ((zb_64 (by omega)).mul (zb_64 (by omega))).mono (by decide))) rfl ?_
  · have hg : (Int.gcd n d : Int) ≤ d := Int.le_of_dvd (by omega) (Int.gcd_dvd_right ..)
    have hf : fits (Int.gcd n d) := by unfold fits at *; omega
    exact hf.zb.mono (by decide)
  refine DecK.bne (fun h => ?_) (fun h => ?_)
  · ((repeat' first | refine DecK.tt ?_ | refine DecK.ff ?_ | refine DecK.beq (fun _ => ?_) (fun _ => ?_) | refine DecK.bne (fun _ => ?_) (fun _ => ?_) | refine DecK.dec (fun _ => ?_) (fun _ => ?_) | refine OptK.mk _ rfl ?_ | refine endV (by rfl) ?_) <;> (try with_reducible rfl))
    rw [frErr, if_neg (by unfold frOut; omega), if_pos (fun g => h (by rw [g]; rfl))]
  · ((repeat' first | refine DecK.tt ?_ | refine DecK.ff ?_ | refine DecK.beq (fun _ => ?_) (fun _ => ?_) | refine DecK.bne (fun _ => ?_) (fun _ => ?_) | refine DecK.dec (fun _ => ?_) (fun _ => ?_) | refine OptK.mk _ rfl ?_ | refine endV (by rfl) ?_) <;> (try with_reducible rfl))
    rw [frErr, if_neg (by unfold frOut; omega), if_neg (fun g => g (by revert h; unfold icmp; split <;> (try split) <;> omega))]
theorem both_ok (n d n' d' : Int) (hn : fits n) (hd : fits d) (hn' : fits n') (hd' : fits d') : Pure Try.prog 63 [fracV n d, fracV n' d'] (.n .i64 (if frErr n d ≠ 0 then frErr n d else frErr n' d')) := by
  refine pure_of_wp of63 (Nat.le_of_ble_eq_true rfl) ?_
  refine CallK.mk _ (frCheck_ok n d hn hd) rfl ?_
  refine CallK.mk _ (frCheck_ok n' d' hn' hd') rfl ?_
  refine CallK.mk _ (orE_ok [frErr n d, frErr n' d'] true (Nat.le_of_ble_eq_true rfl)) rfl ?_
  ((repeat' first | refine DecK.tt ?_ | refine DecK.ff ?_ | refine DecK.beq (fun _ => ?_) (fun _ => ?_) | refine DecK.bne (fun _ => ?_) (fun _ => ?_) | refine DecK.dec (fun _ => ?_) (fun _ => ?_) | refine OptK.mk _ rfl ?_ | refine endV (by rfl) ?_) <;> (try with_reducible rfl))
  simp only [or0]
  by_cases h : frErr n' d' = 0
  · rw [h]; simp
  · rw [if_pos h]
/-- Numbers in lowest terms, where all is well. -/
def madeT (n d : Int) (ok : Bool) : V := if ok = false ∨ n < -1152921504606846976 ∨ n > 1152921504606846976 ∨ d > 1152921504606846976 then .tup [fracV 0 0, .n .i64 2] else .tup [fracV n d, .n .i64 0]
theorem made_ok (n d : Int) (x y : Bool) : Pure Try.prog 69 [.n .i64 n, .n .i64 d, .sl 2 [.b x, .b y] true] (madeT n d (x && y)) := by
  refine pure_of_wp of69 (Nat.le_of_ble_eq_true rfl) ?_
  unfold madeT
  cases x <;> cases y
  all_goals
    iterate 3
      all_goals try refine loop_unroll ?_
      all_goals repeat' first | (refine OptK.mk _ (ria 0 rfl (by decide)) ?_) | (refine OptK.mk _ (ria 1 rfl (by decide)) ?_) | (refine OptK.mk _ rfl ?_) | (refine DecK.tt ?_) | (refine DecK.ff ?_) | (refine DecK.yes rfl ?_) | (refine DecK.no rfl ?_) | refine DecK.tt ?_ | refine DecK.ff ?_ | refine DecK.beq (fun _ => ?_) (fun _ => ?_) | refine DecK.bne (fun _ => ?_) (fun _ => ?_) | refine DecK.dec (fun _ => ?_) (fun _ => ?_) | refine OptK.mk _ rfl ?_ | refine endV (by rfl) ?_
  all_goals first | (rw [if_pos (.inl rfl)] <;> rfl) | (rw [if_pos (by simp; omega)] <;> rfl) | (rw [if_neg (by simp; omega)] <;> rfl)
/-- n/q in lowest terms, q not below 1. -/
def lowT (n q : Int) : V :=
  if ((n / (Int.gcd n q : Int)).natAbs : Int) > 1152921504606846976 ∨ q / (Int.gcd n q : Int) > 1152921504606846976 then .tup [fracV 0 0, .n .i64 2] else .tup [fracV (n / (Int.gcd n q : Int)) (q / (Int.gcd n q : Int)), .n .i64 0]
theorem zb_div {k : Nat} {a g : Int} (h : zb k a) (hg : 1 ≤ g) : zb k (a / g) := by
  unfold zb at *
  generalize (1000000 : Int) ^ k = M at *
  by_cases ha : 0 ≤ a
  · have h1 := Int.ediv_le_self g ha
    have h2 := Int.ediv_nonneg ha (show 0 ≤ g by omega)
    omega
  · have h1 := Int.mul_le_mul_of_nonneg_left hg (show 0 ≤ -a by omega)
    rw [Int.neg_mul, Int.neg_mul] at h1
    have h2 := Int.le_ediv_of_mul_le (show 0 < g by omega) (show a * g ≤ a by omega)
    have h3 := Int.ediv_neg_of_neg_of_pos (show a < 0 by omega) (show 0 < g by omega)
    omega
theorem icmp_gt0 {a b : Int} : icmp a b > 0 ↔ b < a := by unfold icmp; split <;> (try split) <;> omega
theorem lowest_ok (n q : Int) (hn : zb 11 n) (hq : zb 11 q) (h0 : q ≠ 0) : Pure Try.prog 27 [zV n, zV q] (if q < 0 then lowT (-n) (-q) else lowT n q) := by
  refine pure_of_wp of27 (Nat.le_of_ble_eq_true rfl) ?_
  refine DecK.dec (fun h => ?a) (fun h => ?b)
  case' a =>
    rw [if_pos h]
    refine CallK.mk _ (Minus_ok n (hn.mono (by decide))) rfl ?_
    refine CallK.mk _ (Minus_ok q (hq.mono (by decide))) rfl ?_
    refine OptK.mk _ rfl ?_
    refine OptK.mk _ rfl ?_
    have hn : zb 11 (-n) := by unfold zb at *; omega
    have hq : zb 11 (-q) := by unfold zb at *; omega
    have h1 : 1 ≤ -q := by omega
    generalize -n = n at *
    generalize -q = q at *
  case' b =>
    rw [if_neg h]
    have h1 : 1 ≤ q := by omega
  all_goals
    have hg : 1 ≤ (Int.gcd n q : Int) := by
      have := Int.gcd_pos_of_ne_zero_right n (show q ≠ 0 by omega)
      omega
    have hgq : (Int.gcd n q : Int) ≤ q := Int.le_of_dvd (by omega) (Int.gcd_dvd_right ..)
    have zg : zb 11 (Int.gcd n q : Int) := by unfold zb at *; omega
    refine CallK.mk _ (Gcd_ok n q (hn.mono (by decide)) (hq.mono (by decide))) rfl ?_
    refine OptK.mk _ rfl ?_
    refine CallK.mk _ (Floor_ok n (Int.gcd n q) (hn.mono (by decide)) (zg.mono (by decide)) (by omega)) rfl ?_
    refine CallK.mk _ (Floor_ok q (Int.gcd n q) (hq.mono (by decide)) (zg.mono (by decide)) (by omega)) rfl ?_
    refine OptK.mk _ rfl ?_
    refine OptK.mk _ rfl ?_
    have z1 := zb_div hn hg
    have z2 := zb_div hq hg
    have p2 : 0 ≤ q / (Int.gcd n q : Int) := Int.ediv_nonneg (by omega) (by omega)
    unfold lowT
    generalize n / (Int.gcd n q : Int) = x at *
    generalize q / (Int.gcd n q : Int) = y at *
    refine CallK.mk _ (Abs_ok x) rfl ?_
    refine CallK.mk _ (I_ok 1152921504606846976 (by decide)) rfl ?_
    refine CallK.mk _ (Cmp_ok x.natAbs 1152921504606846976 (show zb 11 x.natAbs by unfold zb at *; omega |>.mono (by decide)) (by first | exact (zb_64 (by omega)).mono (by decide) | exact ((zb_64 (by omega)).mul (zb_64 (by omega))).mono (by decide))) rfl ?_
    refine DecK.dec (fun g => ?_) (fun g => ?_)
    · repeat' (refine DecK.tt ?_)
      ((repeat' first | refine DecK.tt ?_ | refine DecK.ff ?_ | refine DecK.beq (fun _ => ?_) (fun _ => ?_) | refine DecK.bne (fun _ => ?_) (fun _ => ?_) | refine DecK.dec (fun _ => ?_) (fun _ => ?_) | refine OptK.mk _ rfl ?_ | refine endV (by rfl) ?_) <;> (try with_reducible rfl))
      rw [if_pos (.inl (icmp_gt0.1 g))]; rfl
    refine CallK.mk _ (I_ok 1152921504606846976 (by decide)) rfl ?_
    refine CallK.mk _ (Cmp_ok y 1152921504606846976 (z2.mono (by decide)) (by first | exact (zb_64 (by omega)).mono (by decide) | exact ((zb_64 (by omega)).mul (zb_64 (by omega))).mono (by decide))) rfl ?_
    have g' : ¬ (x.natAbs : Int) > 1152921504606846976 := fun k => g (icmp_gt0.2 k)
    refine DecK.dec (fun k => ?_) (fun k => ?_)
    · ((repeat' first | refine DecK.tt ?_ | refine DecK.ff ?_ | refine DecK.beq (fun _ => ?_) (fun _ => ?_) | refine DecK.bne (fun _ => ?_) (fun _ => ?_) | refine DecK.dec (fun _ => ?_) (fun _ => ?_) | refine OptK.mk _ rfl ?_ | refine endV (by rfl) ?_) <;> (try with_reducible rfl))
      rw [if_pos (.inr (icmp_gt0.1 k))]; rfl
    have k' : ¬ y > 1152921504606846976 := fun j => k (icmp_gt0.2 j)
    refine CallK.mk _ (Small_ok x (z1.mono (by decide))) rfl ?_
    refine CallK.mk _ (Small_ok y (z2.mono (by decide))) rfl ?_
    ((repeat' first | refine DecK.tt ?_ | refine DecK.ff ?_ | refine DecK.beq (fun _ => ?_) (fun _ => ?_) | refine DecK.bne (fun _ => ?_) (fun _ => ?_) | refine DecK.dec (fun _ => ?_) (fun _ => ?_) | refine OptK.mk _ rfl ?_ | refine endV (by rfl) ?_) <;> (try with_reducible rfl))
    rw [if_neg (by omega), small, if_pos (by unfold fits; omega), small, if_pos (by unfold fits; omega)]
    rfl
end Go.Proofs.Ytjeafcngljbdlaa.Sv
