/- The statements on dates and uniform times hold at each input. No condition. -/
import Derived.Test.YtkmlnmbhlkhgpaaTe
namespace Go.Proofs.Ytkmlnmbhlkhgpaa.Sv
open Go Go.RowKit
set_option linter.unusedVariables false
set_option linter.unusedSimpArgs false
set_option maxRecDepth 100000
/-- spyglass/spylaw1.scales -/
def F17 : Fn1 := ⟨18, .seq (.reg [⟨some 0, none, .mv, [.cn (.b false)]⟩] []) (.seq (.reg [⟨some 4, none, .po (.build [.n .i64 0, .n .i64 0, .n .i64 0, .n .i64 0, .n .i64 0, .n .i64 0, .n .i64 0] [(0, 1), (1, 1), (2, 1), (3, 1), (4, 1), (5, 1), (6, 1)]), [.cn (.n .i64 2000), .cn (.n .i64 12), .cn (.n .i64 31), .cn (.n .i64 23), .cn (.n .i64 59), .cn (.n .i64 60), .cn (.n .i64 500)]⟩, ⟨some 1, none, .alloc [.n .i64 0, .n .i64 0, .n .i64 0, .n .i64 0, .n .i64 0, .n .i64 0, .n .i64 0], []⟩, ⟨none, none, .st 7, [.tm 1, .tm 4]⟩] [1]) (.seq (.reg [⟨some 6, none, .ld true 7, [.tm 1]⟩, ⟨some 7, none, .po (.build [.n .i64 0, .n .i64 0] [(0, 1), (1, 1)]), [.cn (.n .i64 365), .cn (.n .i64 1)]⟩, ⟨some 8, none, .po (.bsl 1 [.n .i64 0, .n .i64 0] [(0, 2)]), [.tm 7]⟩, ⟨some 9, none, .call 15, [.tm 6, .tm 8]⟩, ⟨some 5, none, .mv, [.tm 9]⟩, ⟨some 10, none, .po (.ext 0), [.tm 5]⟩, ⟨some 11, none, .po (.ext 1), [.tm 5]⟩, ⟨some 2, none, .mv, [.tm 10]⟩, ⟨some 3, none, .mv, [.tm 11]⟩] [2, 3]) (.seq (.reg [⟨some 12, none, .mv, [.tm 3]⟩, ⟨some 13, none, .po (.bin .eql), [.tm 12, .cn (.n .i64 0)]⟩, ⟨some 14, none, .mv, [.tm 13]⟩, ⟨some 15, some (14, true), .mv, [.tm 2]⟩, ⟨some 16, some (14, true), .po (.bin .eql), [.tm 15, .cn (.n .i64 31622400500)]⟩, ⟨some 17, none, .pick, [.tm 14, .tm 16, .cn (.b false)]⟩, ⟨some 0, none, .mv, [.tm 17]⟩] [0]) .ret))), [.tm 0]⟩
theorem of17 : Fn1.of Try.prog 17 false [[], [1], [2, 3], [0]] = some F17 := by kernel_rfl
/-- spyglass/spylaw1.ScaleDates -/
def F4 : Fn1 := ⟨80, .seq (.reg [⟨some 8, none, .mv, [.cn (.b false)]⟩] [0, 1, 2, 3]) (.seq (.reg [⟨some 22, none, .mv, [.tm 0]⟩, ⟨some 23, none, .mv, [.tm 1]⟩, ⟨some 24, none, .mv, [.tm 2]⟩, ⟨some 25, none, .call 22, [.tm 22, .tm 23, .tm 24]⟩, ⟨some 21, none, .mv, [.tm 25]⟩, ⟨some 26, none, .po (.ext 0), [.tm 21]⟩, ⟨some 27, none, .po (.ext 1), [.tm 21]⟩, ⟨some 9, none, .mv, [.tm 26]⟩, ⟨some 10, none, .mv, [.tm 27]⟩] [0, 1, 2, 3, 9, 10]) (.seq (.reg [⟨some 29, none, .mv, [.tm 0]⟩, ⟨some 30, none, .mv, [.tm 1]⟩, ⟨some 31, none, .mv, [.tm 2]⟩, ⟨some 32, none, .call 23, [.tm 29, .tm 30, .tm 31]⟩, ⟨some 28, none, .mv, [.tm 32]⟩, ⟨some 33, none, .po (.ext 0), [.tm 28]⟩, ⟨some 34, none, .po (.ext 1), [.tm 28]⟩, ⟨some 11, none, .mv, [.tm 33]⟩, ⟨some 12, none, .mv, [.tm 34]⟩] [3, 9, 10, 11, 12]) (.seq (.reg [⟨some 36, none, .mv, [.tm 3]⟩, ⟨some 37, none, .call 24, [.tm 36]⟩, ⟨some 35, none, .mv, [.tm 37]⟩, ⟨some 38, none, .po (.ext 0), [.tm 35]⟩, ⟨some 39, none, .po (.ext 1), [.tm 35]⟩, ⟨some 40, none, .po (.ext 2), [.tm 35]⟩, ⟨some 41, none, .po (.ext 3), [.tm 35]⟩, ⟨some 13, none, .mv, [.tm 38]⟩, ⟨some 14, none, .mv, [.tm 39]⟩, ⟨some 15, none, .mv, [.tm 40]⟩, ⟨some 16, none, .mv, [.tm 41]⟩] [3, 9, 10, 11, 12, 13, 14, 15, 16]) (.seq (.reg [⟨some 43, none, .mv, [.tm 3]⟩, ⟨some 44, none, .call 25, [.tm 43]⟩, ⟨some 42, none, .mv, [.tm 44]⟩, ⟨some 45, none, .po (.ext 0), [.tm 42]⟩, ⟨some 46, none, .po (.ext 1), [.tm 42]⟩, ⟨some 47, none, .po (.ext 2), [.tm 42]⟩, ⟨some 48, none, .po (.ext 3), [.tm 42]⟩, ⟨some 17, none, .mv, [.tm 45]⟩, ⟨some 18, none, .mv, [.tm 46]⟩, ⟨some 19, none, .mv, [.tm 47]⟩, ⟨some 20, none, .mv, [.tm 48]⟩] [9, 10, 11, 12, 13, 14, 15, 16, 17, 18, 19, 20]) (.seq (.reg [⟨some 49, none, .call 17, []⟩, ⟨some 50, none, .mv, [.tm 49]⟩, ⟨some 51, some (50, true), .mv, [.tm 9]⟩, ⟨some 52, some (50, true), .mv, [.tm 11]⟩, ⟨some 53, some (50, true), .po (.bin .eql), [.tm 51, .tm 52]⟩, ⟨some 54, none, .pick, [.tm 50, .tm 53, .cn (.b false)]⟩, ⟨some 55, none, .mv, [.tm 54]⟩, ⟨some 56, some (55, true), .mv, [.tm 10]⟩, ⟨some 57, some (55, true), .mv, [.tm 12]⟩, ⟨some 58, some (55, true), .po (.bin .eql), [.tm 56, .tm 57]⟩, ⟨some 59, none, .pick, [.tm 55, .tm 58, .cn (.b false)]⟩, ⟨some 60, none, .mv, [.tm 59]⟩, ⟨some 61, some (60, true), .mv, [.tm 13]⟩, ⟨some 62, some (60, true), .mv, [.tm 17]⟩, ⟨some 63, some (60, true), .po (.bin .eql), [.tm 61, .tm 62]⟩, ⟨some 64, none, .pick, [.tm 60, .tm 63, .cn (.b false)]⟩, ⟨some 65, none, .mv, [.tm 64]⟩, ⟨some 66, some (65, true), .mv, [.tm 14]⟩, ⟨some 67, some (65, true), .mv, [.tm 18]⟩, ⟨some 68, some (65, true), .po (.bin .eql), [.tm 66, .tm 67]⟩, ⟨some 69, none, .pick, [.tm 65, .tm 68, .cn (.b false)]⟩, ⟨some 70, none, .mv, [.tm 69]⟩, ⟨some 71, some (70, true), .mv, [.tm 15]⟩, ⟨some 72, some (70, true), .mv, [.tm 19]⟩, ⟨some 73, some (70, true), .po (.bin .eql), [.tm 71, .tm 72]⟩, ⟨some 74, none, .pick, [.tm 70, .tm 73, .cn (.b false)]⟩, ⟨some 75, none, .mv, [.tm 74]⟩, ⟨some 76, some (75, true), .mv, [.tm 16]⟩, ⟨some 77, some (75, true), .mv, [.tm 20]⟩, ⟨some 78, some (75, true), .po (.bin .eql), [.tm 76, .tm 77]⟩, ⟨some 79, none, .pick, [.tm 75, .tm 78, .cn (.b false)]⟩, ⟨some 8, none, .mv, [.tm 79]⟩] [8]) .ret))))), [.tm 8]⟩
theorem of4 : Fn1.of Try.prog 4 false [[0, 1, 2, 3], [0, 1, 2, 3, 9, 10], [3, 9, 10, 11, 12], [3, 9, 10, 11, 12, 13, 14, 15, 16], [9, 10, 11, 12, 13, 14, 15, 16, 17, 18, 19, 20], [8]] = some F4 := by kernel_rfl
/-- spyglass/spylaw1.ScaleUniforms -/
def F3 : Fn1 := ⟨46, .seq (.reg [⟨some 2, none, .box, [.tm 0]⟩, ⟨some 4, none, .mv, [.cn (.b false)]⟩] [1, 2]) (.seq (.reg [⟨some 10, none, .ld true 7, [.tm 2]⟩, ⟨some 11, none, .mv, [.tm 1]⟩, ⟨some 12, none, .call 15, [.tm 10, .tm 11]⟩, ⟨some 9, none, .mv, [.tm 12]⟩, ⟨some 13, none, .po (.ext 0), [.tm 9]⟩, ⟨some 14, none, .po (.ext 1), [.tm 9]⟩, ⟨some 5, none, .mv, [.tm 13]⟩, ⟨some 6, none, .mv, [.tm 14]⟩] [1, 2, 5, 6]) (.seq (.reg [⟨some 16, none, .ld true 7, [.tm 2]⟩, ⟨some 17, none, .mv, [.tm 1]⟩, ⟨some 18, none, .call 16, [.tm 16, .tm 17]⟩, ⟨some 15, none, .mv, [.tm 18]⟩, ⟨some 19, none, .po (.ext 0), [.tm 15]⟩, ⟨some 20, none, .po (.ext 1), [.tm 15]⟩, ⟨some 7, none, .mv, [.tm 19]⟩, ⟨some 8, none, .mv, [.tm 20]⟩] [1, 2, 5, 6, 7, 8]) (.seq (.dreg [⟨some 21, none, .call 17, []⟩, ⟨some 22, none, .mv, [.tm 21]⟩, ⟨some 23, some (22, true), .mv, [.tm 1]⟩, ⟨some 24, some (22, true), .call 18, [.tm 23]⟩, ⟨some 25, some (22, true), .mv, [.tm 1]⟩, ⟨some 26, some (22, true), .call 19, [.tm 25]⟩, ⟨some 27, some (22, true), .po (.bin .eql), [.tm 24, .tm 26]⟩, ⟨some 28, none, .pick, [.tm 22, .tm 27, .cn (.b false)]⟩, ⟨some 29, none, .mv, [.tm 28]⟩, ⟨some 30, some (29, true), .ld true 7, [.tm 2]⟩, ⟨some 31, some (29, true), .call 20, [.tm 30]⟩, ⟨some 32, some (29, true), .ld true 7, [.tm 2]⟩, ⟨some 33, some (29, true), .call 21, [.tm 32]⟩, ⟨some 34, some (29, true), .po (.bin .eql), [.tm 31, .tm 33]⟩, ⟨some 35, none, .pick, [.tm 29, .tm 34, .cn (.b false)]⟩, ⟨some 36, none, .mv, [.tm 35]⟩, ⟨some 37, some (36, true), .mv, [.tm 5]⟩, ⟨some 38, some (36, true), .mv, [.tm 7]⟩, ⟨some 39, some (36, true), .po (.bin .eql), [.tm 37, .tm 38]⟩, ⟨some 40, none, .pick, [.tm 36, .tm 39, .cn (.b false)]⟩, ⟨some 41, none, .mv, [.tm 40]⟩, ⟨some 42, some (41, true), .mv, [.tm 6]⟩, ⟨some 43, some (41, true), .mv, [.tm 8]⟩, ⟨some 44, some (41, true), .po (.bin .eql), [.tm 42, .tm 43]⟩, ⟨some 45, none, .pick, [.tm 41, .tm 44, .cn (.b false)]⟩, ⟨some 4, none, .mv, [.tm 45]⟩] [4]) .ret))), [.tm 4]⟩
theorem of3 : Fn1.of Try.prog 3 false [[1, 2], [1, 2, 5, 6], [1, 2, 5, 6, 7, 8], [4]] = some F3 := by kernel_rfl

theorem scales_ok : Pure Try.prog 17 [] (.b true) := by
  have h := toUniform_ok 2000 12 31 23 59 60 500 [(365, 1, ())] (by simp)
  have e1 : uniErr 2000 12 31 23 59 60 500 [(365, 1, ())] = 0 := by decide
  have e2 : uniT 2000 12 31 23 59 60 500 [(365, 1, ())] = 31622400500 := by decide
  rw [e1, e2] at h
  refine pure_of_wp of17 (Nat.le_of_ble_eq_true rfl) ?_
  refine OptK.mk _ rfl ?_
  refine CallK.mk _ (.of (.cons (.refl _) (.cons .loose .nil)) h) rfl ?_
  repeat' first | refine DecK.tt ?_ | refine DecK.ff ?_ | refine DecK.beq (fun _ => ?_) (fun _ => ?_) | refine DecK.bne (fun _ => ?_) (fun _ => ?_) | refine DecK.dec (fun _ => ?_) (fun _ => ?_) | refine OptK.mk _ rfl ?_ | refine endV (by rfl) ?_
  all_goals first | rfl | contradiction
theorem law_dates (y m d n : Int) : Pure Try.prog 4 [.n .i64 y, .n .i64 m, .n .i64 d, .n .i64 n] (.b true) := by
  refine pure_of_wp of4 (Nat.le_of_ble_eq_true rfl) ?_
  refine CallK.mk _ (daysDate_ok y m d) rfl ?_
  refine CallK.mk _ (dayNumber_ok y m d) rfl ?_
  have e1 := first_val
  have e2 := last_val
  by_cases hn : daysV 1 1 1 ≤ n ∧ n < daysV 10000 1 1
  · obtain ⟨a, b, c, h1, rfl⟩ := date_ex hn
    refine CallK.mk _ (date_ok h1) rfl ?_
    refine CallK.mk _ (dateOf_ok h1) rfl ?_
    refine CallK.mk _ scales_ok rfl ?_
    repeat' first | refine DecK.tt ?_ | refine DecK.ff ?_ | refine DecK.beq (fun _ => ?_) (fun _ => ?_) | refine DecK.bne (fun _ => ?_) (fun _ => ?_) | refine DecK.dec (fun _ => ?_) (fun _ => ?_) | refine OptK.mk _ rfl ?_ | refine endV (by rfl) ?_
    all_goals first | rfl | (exfalso; omega) | simp
  · refine CallK.mk _ (date_out (by omega)) rfl ?_
    refine CallK.mk _ (dateOf_out (by omega)) rfl ?_
    refine CallK.mk _ scales_ok rfl ?_
    repeat' first | refine DecK.tt ?_ | refine DecK.ff ?_ | refine DecK.beq (fun _ => ?_) (fun _ => ?_) | refine DecK.bne (fun _ => ?_) (fun _ => ?_) | refine DecK.dec (fun _ => ?_) (fun _ => ?_) | refine OptK.mk _ rfl ?_ | refine endV (by rfl) ?_
    all_goals first | rfl | (exfalso; omega) | simp
theorem law_uniforms (y mo d h mi s ms : Int) (l : List LeapT) (hl : l.length ≤ 9000000000000000000) : Pure Try.prog 3 [civilV y mo d h mi s ms, leapsV l] (.b true) := by
  refine pure_of_wp of3 (Nat.le_of_ble_eq_true rfl) ?_
  refine CallK.mk _ (toUniform_ok y mo d h mi s ms l hl) rfl ?_
  refine CallK.mk _ (uniformOf_ok y mo d h mi s ms l hl) rfl ?_
  refine CallK.mk _ scales_ok rfl ?_
  repeat' first | refine DecK.tt ?_ | refine DecK.ff ?_ | refine DecK.beq (fun _ => ?_) (fun _ => ?_) | refine DecK.bne (fun _ => ?_) (fun _ => ?_) | refine DecK.dec (fun _ => ?_) (fun _ => ?_) | refine OptK.mk _ rfl ?_ | refine endV (by rfl) ?_ | (refine CallK.mk _ (checkLeaps_ok l hl) rfl ?_) | (refine CallK.mk _ (leapsErr_ok l hl) rfl ?_) | (refine CallK.mk _ (check_ok y mo d h mi s ms) rfl ?_) | (refine CallK.mk _ (civilErr_ok y mo d h mi s ms) rfl ?_)
  all_goals first | rfl | (exfalso; omega) | simp
end Go.Proofs.Ytkmlnmbhlkhgpaa.Sv
