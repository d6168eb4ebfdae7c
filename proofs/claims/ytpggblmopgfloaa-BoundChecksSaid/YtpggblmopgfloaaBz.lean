/- Bounds by themselves: the statement of checks and comparisons. No condition. -/
import Derived.Test.YtpggblmopgfloaaByFix
import Derived.Test.YtpggblmopgfloaaBo
namespace Go.Proofs.Ytpggblmopgfloaa.Sv
open Go Go.RowKit
set_option linter.unusedVariables false
set_option linter.unusedSimpArgs false
set_option maxRecDepth 100000
/-- spyglass/bound.As(spyglass/api.Arc,spyglass/api.Fix) -/
def F25 : Fn1 := ⟨12, .seq (.reg [⟨some 1, none, .box, [.tm 0]⟩, ⟨some 2, none, .alloc [.n .i64 0, .n .i64 0, .b false], []⟩] [1, 2]) (.seq (.reg [⟨some 3, none, .ld true 3 false, [.tm 1]⟩, ⟨some 4, none, .call 21, [.tm 3]⟩, ⟨none, none, .st 3, [.tm 1, .tm 4]⟩] [1, 2]) (.seq (.reg [⟨some 5, none, .fa 0, [.tm 1]⟩, ⟨some 6, none, .ld false 1 false, [.tm 5]⟩, ⟨some 7, none, .fa 1, [.tm 1]⟩, ⟨some 8, none, .ld false 1 false, [.tm 7]⟩, ⟨some 9, none, .fa 2, [.tm 1]⟩, ⟨some 10, none, .ld false 1 false, [.tm 9]⟩, ⟨some 11, none, .po (.build [.n .i64 0, .n .i64 0, .b false] [(0, 1), (1, 1), (2, 1)]), [.tm 6, .tm 8, .tm 10]⟩, ⟨none, none, .st 3, [.tm 2, .tm 11]⟩] [2]) .ret)), [.cell 2 true 3]⟩
theorem of25 : Fn1.of Try.prog 25 ⟨false, [], false⟩ [[1, 2], [1, 2], [2]] = some F25 := by kernel_rfl
/-- spyglass/spylaw1.BoundChecks -/
def F3 : Fn1 := ⟨179, .seq (.reg [⟨some 4, none, .box, [.tm 0]⟩, ⟨some 5, none, .box, [.tm 1]⟩, ⟨some 8, none, .mv, [.cn (.b false)]⟩] [2, 3, 4, 5]) (.seq (.reg [⟨some 22, none, .po (.build [.n .i64 0, .n .i64 0, .b false] [(2, 1)]), [.cn (.b true)]⟩, ⟨some 9, none, .alloc [.n .i64 0, .n .i64 0, .b false], []⟩, ⟨none, none, .st 3, [.tm 9, .tm 22]⟩] [2, 3, 4, 5, 9]) (.seq (.reg [⟨some 24, none, .ld true 3 false, [.tm 4]⟩, ⟨some 25, none, .call 13, [.tm 24]⟩, ⟨some 23, none, .mv, [.tm 25]⟩, ⟨some 26, none, .po (.ext 0), [.tm 23]⟩, ⟨some 27, none, .po (.ext 1), [.tm 23]⟩, ⟨some 28, none, .po (.ext 2), [.tm 23]⟩, ⟨some 10, none, .alloc [.b false, .sl 0 [] true], []⟩, ⟨some 11, none, .alloc [.b false, .sl 0 [] true], []⟩, ⟨none, none, .st 2, [.tm 10, .tm 26]⟩, ⟨none, none, .st 2, [.tm 11, .tm 27]⟩, ⟨some 12, none, .mv, [.tm 28]⟩] [2, 3, 4, 5, 9, 10, 11, 12]) (.seq (.reg [⟨some 30, none, .ld true 3 false, [.tm 5]⟩, ⟨some 31, none, .call 13, [.tm 30]⟩, ⟨some 29, none, .mv, [.tm 31]⟩, ⟨some 32, none, .po (.ext 0), [.tm 29]⟩, ⟨some 33, none, .po (.ext 1), [.tm 29]⟩, ⟨some 34, none, .po (.ext 2), [.tm 29]⟩, ⟨some 13, none, .alloc [.b false, .sl 0 [] true], []⟩, ⟨some 14, none, .alloc [.b false, .sl 0 [] true], []⟩, ⟨none, none, .st 2, [.tm 13, .tm 32]⟩, ⟨none, none, .st 2, [.tm 14, .tm 33]⟩, ⟨some 15, none, .mv, [.tm 34]⟩] [2, 3, 4, 5, 9, 10, 11, 12, 13, 14, 15]) (.seq (.reg [⟨some 35, none, .ld true 3 false, [.tm 9]⟩, ⟨some 16, none, .alloc [.n .i64 0, .n .i64 0, .b false], []⟩, ⟨none, none, .st 3, [.tm 16, .tm 35]⟩, ⟨some 17, none, .mv, [.cn (.n .i64 0)]⟩] [2, 3, 4, 5, 9, 10, 11, 12, 13, 14, 15, 16, 17]) (.seq (.seq (.reg [⟨some 36, none, .mv, [.tm 12]⟩] [2, 3, 4, 5, 9, 10, 11, 12, 13, 14, 15, 16, 17, 36]) (.cond (.tm 36) (.dreg [⟨some 37, none, .ld true 3 false, [.tm 4]⟩, ⟨some 38, none, .fa 1, [.tm 4]⟩, ⟨some 39, none, .ld false 1 false, [.tm 38]⟩, ⟨some 40, none, .fa 0, [.tm 4]⟩, ⟨some 41, none, .ld false 1 false, [.tm 40]⟩, ⟨some 42, none, .po (.bin .sub), [.tm 39, .tm 41]⟩, ⟨none, none, .st 3, [.tm 16, .tm 37]⟩, ⟨some 17, none, .mv, [.tm 42]⟩] [(1, 6), (2, 6), (3, 6), (4, 6), (5, 6)] [2, 3, 4, 5, 9, 10, 11, 12, 13, 14, 15, 16, 17]) .skip)) (.seq (.reg [⟨some 18, none, .mv, [.cn (.n .i64 0)]⟩] [2, 3, 4, 5, 9, 10, 11, 12, 13, 14, 15, 16, 17, 18]) (.seq (.seq (.reg [⟨some 43, none, .mv, [.tm 12]⟩, ⟨some 44, none, .mv, [.tm 43]⟩, ⟨some 45, some (44, true), .mv, [.tm 15]⟩, ⟨some 46, none, .pick, [.tm 44, .tm 45, .cn (.b false)]⟩, ⟨some 47, none, .mv, [.tm 46]⟩, ⟨some 48, some (47, true), .ld true 2 false, [.tm 11]⟩, ⟨some 49, some (47, true), .ld true 2 false, [.tm 13]⟩, ⟨some 50, some (47, true), .call 14, [.tm 48, .tm 49]⟩, ⟨some 51, some (47, true), .po (.bin .lss), [.tm 50, .cn (.n .i64 0)]⟩, ⟨some 52, none, .pick, [.tm 47, .tm 51, .cn (.b false)]⟩] [2, 3, 4, 5, 9, 10, 11, 12, 13, 14, 15, 16, 17, 18, 52]) (.cond (.tm 52) (.reg [⟨some 18, none, .mv, [.cn (.n .i64 (-1))]⟩] [2, 3, 4, 5, 9, 10, 11, 12, 13, 14, 15, 16, 17, 18]) .skip)) (.seq (.seq (.reg [⟨some 53, none, .mv, [.tm 12]⟩, ⟨some 54, none, .mv, [.tm 53]⟩, ⟨some 55, some (54, true), .mv, [.tm 15]⟩, ⟨some 56, none, .pick, [.tm 54, .tm 55, .cn (.b false)]⟩, ⟨some 57, none, .mv, [.tm 56]⟩, ⟨some 58, some (57, true), .ld true 2 false, [.tm 10]⟩, ⟨some 59, some (57, true), .ld true 2 false, [.tm 14]⟩, ⟨some 60, some (57, true), .call 14, [.tm 58, .tm 59]⟩, ⟨some 61, some (57, true), .po (.bin .gtr), [.tm 60, .cn (.n .i64 0)]⟩, ⟨some 62, none, .pick, [.tm 57, .tm 61, .cn (.b false)]⟩] [2, 3, 4, 5, 9, 10, 11, 12, 13, 14, 15, 16, 17, 18, 62]) (.cond (.tm 62) (.reg [⟨some 18, none, .mv, [.cn (.n .i64 1)]⟩] [2, 3, 4, 5, 9, 10, 11, 12, 13, 14, 15, 16, 17, 18]) .skip)) (.seq (.reg [⟨some 64, none, .ld true 3 false, [.tm 4]⟩, ⟨some 65, none, .call 15, [.tm 64]⟩, ⟨some 63, none, .mv, [.tm 65]⟩, ⟨some 66, none, .po (.ext 0), [.tm 63]⟩, ⟨some 67, none, .po (.ext 1), [.tm 63]⟩, ⟨some 19, none, .mv, [.tm 66]⟩, ⟨some 20, none, .mv, [.tm 67]⟩] [2, 3, 4, 5, 9, 10, 11, 12, 13, 14, 15, 16, 17, 18, 19, 20]) (.seq (.reg [⟨some 68, none, .mv, [.tm 2]⟩, ⟨some 69, none, .call 16, [.tm 68]⟩, ⟨some 21, none, .alloc [.b false, .sl 0 [] true], []⟩, ⟨none, none, .st 2, [.tm 21, .tm 69]⟩] [2, 3, 4, 5, 9, 10, 11, 12, 13, 14, 15, 16, 17, 18, 19, 20, 21]) (.seq (.dreg [⟨some 70, none, .call 17, []⟩, ⟨some 71, none, .mv, [.tm 70]⟩, ⟨some 72, some (71, true), .ld true 3 false, [.tm 4]⟩, ⟨some 73, some (71, true), .call 18, [.tm 72]⟩, ⟨some 74, some (71, true), .ld true 3 false, [.tm 4]⟩, ⟨some 75, some (71, true), .call 19, [.tm 74]⟩, ⟨some 76, some (71, true), .po (.bin .eql), [.tm 73, .tm 75]⟩, ⟨some 77, none, .pick, [.tm 71, .tm 76, .cn (.b false)]⟩, ⟨some 78, none, .mv, [.tm 77]⟩, ⟨some 79, some (78, true), .call 20, []⟩, ⟨some 80, some (78, true), .ld true 3 false, [.tm 9]⟩, ⟨some 81, some (78, true), .po (.veq false [(0, .n), (1, .n), (2, .b)]), [.tm 79, .tm 80]⟩, ⟨some 82, none, .pick, [.tm 78, .tm 81, .cn (.b false)]⟩, ⟨some 83, none, .mv, [.tm 82]⟩, ⟨some 84, some (83, true), .ld true 3 false, [.tm 4]⟩, ⟨some 85, some (83, true), .call 21, [.tm 84]⟩, ⟨some 86, some (83, true), .ld true 3 false, [.tm 16]⟩, ⟨some 87, some (83, true), .po (.veq false [(0, .n), (1, .n), (2, .b)]), [.tm 85, .tm 86]⟩, ⟨some 88, none, .pick, [.tm 83, .tm 87, .cn (.b false)]⟩, ⟨some 89, none, .mv, [.tm 88]⟩, ⟨some 90, some (89, true), .mv, [.tm 2]⟩, ⟨some 91, some (89, true), .mv, [.tm 3]⟩, ⟨some 92, some (89, true), .call 22, [.tm 90, .tm 91]⟩, ⟨some 93, some (89, true), .ld true 2 false, [.tm 21]⟩, ⟨some 94, some (89, true), .mv, [.tm 3]⟩, ⟨some 95, some (89, true), .call 16, [.tm 94]⟩, ⟨some 96, some (89, true), .call 23, [.tm 93, .tm 95]⟩, ⟨some 97, some (89, true), .po (.veq false [(0, .n), (1, .n), (2, .b)]), [.tm 92, .tm 96]⟩, ⟨some 98, none, .pick, [.tm 89, .tm 97, .cn (.b false)]⟩, ⟨some 99, none, .mv, [.tm 98]⟩, ⟨some 100, some (99, true), .mv, [.tm 2]⟩, ⟨some 101, some (99, true), .call 24, [.tm 100]⟩, ⟨some 102, some (99, true), .ld true 2 false, [.tm 21]⟩, ⟨some 103, some (99, true), .ld true 2 false, [.tm 21]⟩, ⟨some 104, some (99, true), .call 23, [.tm 102, .tm 103]⟩, ⟨some 105, some (99, true), .po (.veq false [(0, .n), (1, .n), (2, .b)]), [.tm 101, .tm 104]⟩, ⟨some 106, none, .pick, [.tm 99, .tm 105, .cn (.b false)]⟩, ⟨some 107, none, .mv, [.tm 106]⟩, ⟨some 108, some (107, true), .ld true 3 false, [.tm 4]⟩, ⟨some 109, some (107, true), .call 25, [.tm 108]⟩, ⟨some 110, some (107, true), .fa 0, [.tm 16]⟩, ⟨some 111, some (107, true), .ld false 1 false, [.tm 110]⟩, ⟨some 112, some (107, true), .fa 1, [.tm 16]⟩, ⟨some 113, some (107, true), .ld false 1 false, [.tm 112]⟩, ⟨some 114, some (107, true), .fa 2, [.tm 16]⟩, ⟨some 115, some (107, true), .ld false 1 false, [.tm 114]⟩, ⟨some 116, some (107, true), .po (.build [.n .i64 0, .n .i64 0, .b false] [(0, 1), (1, 1), (2, 1)]), [.tm 111, .tm 113, .tm 115]⟩, ⟨some 117, some (107, true), .po (.veq false [(0, .n), (1, .n), (2, .b)]), [.tm 109, .tm 116]⟩, ⟨some 118, none, .pick, [.tm 107, .tm 117, .cn (.b false)]⟩, ⟨some 119, none, .mv, [.tm 118]⟩, ⟨some 120, some (119, true), .ld true 3 false, [.tm 4]⟩, ⟨some 121, some (119, true), .mv, [.tm 2]⟩, ⟨some 122, some (119, true), .call 26, [.tm 120, .tm 121]⟩, ⟨some 123, some (119, true), .mv, [.tm 12]⟩, ⟨some 124, some (119, true), .po (.un .not), [.tm 123]⟩, ⟨some 125, some (119, true), .mv, [.tm 124]⟩, ⟨some 126, some (125, false), .ld true 2 false, [.tm 10]⟩, ⟨some 127, some (125, false), .ld true 2 false, [.tm 21]⟩, ⟨some 128, some (125, false), .call 14, [.tm 126, .tm 127]⟩, ⟨some 129, some (125, false), .po (.bin .leq), [.tm 128, .cn (.n .i64 0)]⟩, ⟨some 130, some (125, false), .mv, [.tm 129]⟩, ⟨some 131, some (130, true), .ld true 2 false, [.tm 11]⟩, ⟨some 132, some (130, true), .ld true 2 false, [.tm 21]⟩, ⟨some 133, some (130, true), .call 14, [.tm 131, .tm 132]⟩, ⟨some 134, some (130, true), .po (.bin .geq), [.tm 133, .cn (.n .i64 0)]⟩, ⟨some 135, some (125, false), .pick, [.tm 130, .tm 134, .cn (.b false)]⟩, ⟨some 136, some (119, true), .pick, [.tm 125, .cn (.b true), .tm 135]⟩, ⟨some 137, some (119, true), .po (.beq false), [.tm 122, .tm 136]⟩, ⟨some 138, none, .pick, [.tm 119, .tm 137, .cn (.b false)]⟩, ⟨some 139, none, .mv, [.tm 138]⟩, ⟨some 140, some (139, true), .ld true 3 false, [.tm 4]⟩, ⟨some 141, some (139, true), .ld true 3 false, [.tm 5]⟩, ⟨some 142, some (139, true), .call 27, [.tm 140, .tm 141]⟩, ⟨some 143, some (139, true), .mv, [.tm 15]⟩, ⟨some 144, some (139, true), .po (.un .not), [.tm 143]⟩, ⟨some 145, some (139, true), .mv, [.tm 144]⟩, ⟨some 146, some (145, false), .mv, [.tm 12]⟩, ⟨some 147, some (145, false), .mv, [.tm 146]⟩, ⟨some 148, some (147, true), .ld true 2 false, [.tm 10]⟩, ⟨some 149, some (147, true), .ld true 2 false, [.tm 13]⟩, ⟨some 150, some (147, true), .call 14, [.tm 148, .tm 149]⟩, ⟨some 151, some (147, true), .po (.bin .geq), [.tm 150, .cn (.n .i64 0)]⟩, ⟨some 152, some (145, false), .pick, [.tm 147, .tm 151, .cn (.b false)]⟩, ⟨some 153, some (145, false), .mv, [.tm 152]⟩, ⟨some 154, some (153, true), .ld true 2 false, [.tm 11]⟩, ⟨some 155, some (153, true), .ld true 2 false, [.tm 14]⟩, ⟨some 156, some (153, true), .call 14, [.tm 154, .tm 155]⟩, ⟨some 157, some (153, true), .po (.bin .leq), [.tm 156, .cn (.n .i64 0)]⟩, ⟨some 158, some (145, false), .pick, [.tm 153, .tm 157, .cn (.b false)]⟩, ⟨some 159, some (139, true), .pick, [.tm 145, .cn (.b true), .tm 158]⟩, ⟨some 160, some (139, true), .po (.beq false), [.tm 142, .tm 159]⟩, ⟨some 161, none, .pick, [.tm 139, .tm 160, .cn (.b false)]⟩, ⟨some 162, none, .mv, [.tm 161]⟩, ⟨some 163, some (162, true), .ld true 3 false, [.tm 4]⟩, ⟨some 164, some (162, true), .ld true 3 false, [.tm 5]⟩, ⟨some 165, some (162, true), .call 28, [.tm 163, .tm 164]⟩, ⟨some 166, some (162, true), .mv, [.tm 18]⟩, ⟨some 167, some (162, true), .po (.bin .eql), [.tm 165, .tm 166]⟩, ⟨some 168, none, .pick, [.tm 162, .tm 167, .cn (.b false)]⟩, ⟨some 169, none, .mv, [.tm 168]⟩, ⟨some 170, some (169, true), .mv, [.tm 19]⟩, ⟨some 171, some (169, true), .mv, [.tm 17]⟩, ⟨some 172, some (169, true), .po (.bin .eql), [.tm 170, .tm 171]⟩, ⟨some 173, none, .pick, [.tm 169, .tm 172, .cn (.b false)]⟩, ⟨some 174, none, .mv, [.tm 173]⟩, ⟨some 175, some (174, true), .mv, [.tm 20]⟩, ⟨some 176, some (174, true), .mv, [.tm 12]⟩, ⟨some 177, some (174, true), .po (.beq false), [.tm 175, .tm 176]⟩, ⟨some 178, none, .pick, [.tm 174, .tm 177, .cn (.b false)]⟩, ⟨some 8, none, .mv, [.tm 178]⟩] [] [8]) .ret))))))))))), [.tm 8]⟩
theorem of3 : Fn1.of Try.prog 3 ⟨false, [], false⟩ [[2, 3, 4, 5], [2, 3, 4, 5, 9], [2, 3, 4, 5, 9, 10, 11, 12], [2, 3, 4, 5, 9, 10, 11, 12, 13, 14, 15], [2, 3, 4, 5, 9, 10, 11, 12, 13, 14, 15, 16, 17], [2, 3, 4, 5, 9, 10, 11, 12, 13, 14, 15, 16, 17, 36], [2, 3, 4, 5, 9, 10, 11, 12, 13, 14, 15, 16, 17], [2, 3, 4, 5, 9, 10, 11, 12, 13, 14, 15, 16, 17, 18], [2, 3, 4, 5, 9, 10, 11, 12, 13, 14, 15, 16, 17, 18, 52], [2, 3, 4, 5, 9, 10, 11, 12, 13, 14, 15, 16, 17, 18], [2, 3, 4, 5, 9, 10, 11, 12, 13, 14, 15, 16, 17, 18, 62], [2, 3, 4, 5, 9, 10, 11, 12, 13, 14, 15, 16, 17, 18], [2, 3, 4, 5, 9, 10, 11, 12, 13, 14, 15, 16, 17, 18, 19, 20], [2, 3, 4, 5, 9, 10, 11, 12, 13, 14, 15, 16, 17, 18, 19, 20, 21], [8]] = some F3 := by kernel_rfl
theorem icmp_gt0' {a b : Int} : icmp a b > 0 ↔ b < a := by unfold icmp; split <;> (try split) <;> omega
theorem asFixArc (lo hi : Int) (u : Bool) : Pure Try.prog 25 [bdV lo hi u] (encB (normB lo hi u)) := by
  have t := normFix lo hi u
  generalize normB lo hi u = x at *
  rcases x with _ | ⟨a, b⟩
  all_goals refine pure_of_wp of25 (Nat.le_of_ble_eq_true rfl) ?_
  all_goals refine CallK.mk _ t rfl ?_
  all_goals refine OptK.mk _ rfl ?_
  all_goals refine OptK.mk _ rfl ?_
  all_goals ((repeat' first | refine DecK.tt ?_ | refine DecK.ff ?_ | refine DecK.beq (fun _ => ?_) (fun _ => ?_) | refine DecK.bne (fun _ => ?_) (fun _ => ?_) | refine DecK.dec (fun _ => ?_) (fun _ => ?_) | refine OptK.mk _ rfl ?_ | refine endV (by rfl) ?_) <;> (try with_reducible rfl))
  all_goals rfl
set_option maxHeartbeats 4000000 in
theorem boundChecks_pure (lo hi : Int) (u : Bool) (lo' hi' : Int) (u' : Bool) (v w : Int) (hv : fits v) (hw : fits w) : Pure Try.prog 3 [bdV lo hi u, bdV lo' hi' u', .n .i64 v, .n .i64 w] (.b true) := by
  have t1 := checkFix lo hi u
  have t2 := boundErrFix lo hi u
  have t3 := normFix lo hi u
  have t4 := ofFix v w
  have zv : zok v := hv.zb.mono (by decide)
  have zw : zok w := hw.zb.mono (by decide)
  have t5 := boundedFix v w zv zw
  have t6 := exactFix v
  have t7 := boundedFix v v zv zv
  have t8 := asFixArc lo hi u
  have t9 := hasFix lo hi u v
  have t10 := insideFix lo hi u lo' hi' u'
  have t11 := cmpFix lo hi u lo' hi' u'
  have t12 := widthFix lo hi u
  refine pure_of_wp of3 (Nat.le_of_ble_eq_true rfl) ?_
  refine OptK.mk _ rfl ?_
  refine CallK.mk _ (sidesFix lo hi u) rfl ?_
  repeat' (refine OptK.mk _ rfl ?_)
  refine CallK.mk _ (sidesFix lo' hi' u') rfl ?_
  repeat' (refine OptK.mk _ rfl ?_)
  rcases bd_cases lo hi u with ⟨h1, h2⟩ | ⟨h1, rfl, h3, h2⟩
  · rw [h1] at t3 t8 t9 t10 t11 t12
    rw [h1]
    rcases bd_cases lo' hi' u' with ⟨g1, g2⟩ | ⟨g1, rfl, g3, g2⟩
    all_goals
      rw [g1] at t10 t11
      rw [g1]
      repeat' first | (refine DecK.tt ?_) | (refine DecK.ff ?_) | (refine DecK.yes rfl ?_) | (refine DecK.no rfl ?_)
      ((refine CallK.mk _ t12 rfl ?_); (refine CallK.mk _ (I_ok v hv) rfl ?_); (refine OptK.mk _ rfl ?_); (refine CallK.mk _ bounds_ok rfl ?_); (refine DecK.tt ?_); (refine CallK.mk _ t1 rfl ?_); (refine CallK.mk _ t2 rfl ?_); (refine DecK.beq (fun _ => ?_) (fun h => absurd rfl h)); (refine CallK.mk _ noneFix rfl ?_); (refine OptK.mk _ (eqBf none) ?_); (refine DecK.tt ?_); (refine CallK.mk _ t3 rfl ?_); (refine OptK.mk _ (eqBf _) ?_); (refine DecK.tt ?_); (refine CallK.mk _ t4 rfl ?_); (refine CallK.mk _ (I_ok w hw) rfl ?_); (refine CallK.mk _ t5 rfl ?_); (refine OptK.mk _ (eqBf _) ?_); (refine DecK.tt ?_); (refine CallK.mk _ t6 rfl ?_); (refine CallK.mk _ t7 rfl ?_); (refine OptK.mk _ (eqBf _) ?_); (refine DecK.tt ?_); (refine CallK.mk _ t8 rfl ?_); (refine OptK.mk _ (eqBf _) ?_); (refine DecK.tt ?_); (refine CallK.mk _ t9 rfl ?_))
      repeat' first | (refine DecK.tt ?_) | (refine DecK.ff ?_) | (refine DecK.yes rfl ?_) | (refine DecK.no rfl ?_)
      refine CallK.mk _ t10 rfl ?_
      repeat' first | (refine DecK.tt ?_) | (refine DecK.ff ?_) | (refine DecK.yes rfl ?_) | (refine DecK.no rfl ?_)
      refine CallK.mk _ t11 rfl ?_
      repeat' first | (refine DecK.tt ?_) | (refine DecK.ff ?_) | (refine DecK.yes rfl ?_) | (refine DecK.no rfl ?_)
      ((repeat' first | refine DecK.tt ?_ | refine DecK.ff ?_ | refine DecK.beq (fun _ => ?_) (fun _ => ?_) | refine DecK.bne (fun _ => ?_) (fun _ => ?_) | refine DecK.dec (fun _ => ?_) (fun _ => ?_) | refine OptK.mk _ rfl ?_ | refine endV (by rfl) ?_) <;> (try with_reducible rfl))
      try rfl
  · unfold bval at h3
    have w1 : IntKind.i64.wrap (hi - lo) = hi - lo := w64 (by omega)
    have za : zok lo := (show fits lo by unfold fits; omega).zb.mono (by decide)
    have zc : zok hi := (show fits hi by unfold fits; omega).zb.mono (by decide)
    rw [h1] at t3 t8 t9 t10 t11 t12
    rw [h1]
    have k1 := Cmp_ok lo v za zv
    have k2 := Cmp_ok hi v zc zv
    refine DecK.yes rfl ?_
    repeat' (refine OptK.mk _ rfl ?_)
    rcases bd_cases lo' hi' u' with ⟨g1, g2⟩ | ⟨g1, rfl, g3, g2⟩
    case' inl =>
      rw [g1] at t10 t11
      rw [g1]
      repeat' first | (refine DecK.tt ?_) | (refine DecK.ff ?_) | (refine DecK.yes rfl ?_) | (refine DecK.no rfl ?_)
    case' inr =>
      unfold bval at g3
      have zd : zok lo' := (show fits lo' by unfold fits; omega).zb.mono (by decide)
      have ze : zok hi' := (show fits hi' by unfold fits; omega).zb.mono (by decide)
      rw [g1] at t10 t11
      rw [g1]
      have k3 := Cmp_ok hi lo' zc zd
      have k4 := Cmp_ok lo hi' za ze
      have k5 := Cmp_ok lo lo' za zd
      have k6 := Cmp_ok hi hi' zc ze
      repeat' first | (refine DecK.tt ?_) | (refine DecK.ff ?_) | (refine DecK.yes rfl ?_) | (refine DecK.no rfl ?_)
      refine CallK.mk _ k3 rfl ?_
      refine DecK.dec (fun j1 => ?_) (fun j1 => ?_)
      case' refine_1 =>
        have j1' := icmp_lt0.1 j1
        repeat' first | (refine DecK.tt ?_) | (refine DecK.ff ?_) | (refine DecK.yes rfl ?_) | (refine DecK.no rfl ?_)
        refine CallK.mk _ k4 rfl ?_
        refine DecK.no (decide_eq_false fun i => by have := icmp_gt0'.1 i; omega) ?_
        rw [show cmpB (some (lo, hi)) (some (lo', hi')) = -1 from if_pos j1'] at t11
      case' refine_2 =>
        have j1' : ¬ hi < lo' := fun i => j1 (icmp_lt0.2 i)
        repeat' first | (refine DecK.tt ?_) | (refine DecK.ff ?_) | (refine DecK.yes rfl ?_) | (refine DecK.no rfl ?_)
        refine CallK.mk _ k4 rfl ?_
        refine DecK.dec (fun j2 => ?_) (fun j2 => ?_)
        case' refine_1 =>
          have j2' := icmp_gt0'.1 j2
          rw [show cmpB (some (lo, hi)) (some (lo', hi')) = 1 from (if_neg j1').trans (if_pos j2')] at t11
        case' refine_2 =>
          have j2' : ¬ lo > hi' := fun i => j2 (icmp_gt0'.2 i)
          rw [show cmpB (some (lo, hi)) (some (lo', hi')) = 0 from (if_neg j1').trans (if_neg j2')] at t11
    all_goals
      ((refine CallK.mk _ t12 rfl ?_); (refine CallK.mk _ (I_ok v hv) rfl ?_); (refine OptK.mk _ rfl ?_); (refine CallK.mk _ bounds_ok rfl ?_); (refine DecK.tt ?_); (refine CallK.mk _ t1 rfl ?_); (refine CallK.mk _ t2 rfl ?_); (refine DecK.beq (fun _ => ?_) (fun h => absurd rfl h)); (refine CallK.mk _ noneFix rfl ?_); (refine OptK.mk _ (eqBf none) ?_); (refine DecK.tt ?_); (refine CallK.mk _ t3 rfl ?_); (refine OptK.mk _ (eqBf _) ?_); (refine DecK.tt ?_); (refine CallK.mk _ t4 rfl ?_); (refine CallK.mk _ (I_ok w hw) rfl ?_); (refine CallK.mk _ t5 rfl ?_); (refine OptK.mk _ (eqBf _) ?_); (refine DecK.tt ?_); (refine CallK.mk _ t6 rfl ?_); (refine CallK.mk _ t7 rfl ?_); (refine OptK.mk _ (eqBf _) ?_); (refine DecK.tt ?_); (refine CallK.mk _ t8 rfl ?_); (refine OptK.mk _ (eqBf _) ?_); (refine DecK.tt ?_); (refine CallK.mk _ t9 rfl ?_))
      repeat' first | (refine DecK.tt ?_) | (refine DecK.ff ?_) | (refine DecK.yes rfl ?_) | (refine DecK.no rfl ?_)
      refine CallK.mk _ k1 rfl ?_
      refine DecK.dec (fun j3 => ?_) (fun j3 => ?_)
      case' refine_1 =>
        refine CallK.mk _ k2 rfl ?_
        refine DecK.yes (by
          have := icmp_le.1 j3
          simp only [bUn, voteB, Bool.false_or, Bool.false_eq_true, if_false, beq_iff_eq, ge_iff_le]
          exact decide_eq_decide.2 ⟨fun i => icmp_ge.2 i.2, fun i => ⟨this, icmp_ge.1 i⟩⟩) ?_
      case' refine_2 =>
        refine DecK.yes (by
          have : ¬ lo ≤ v := fun i => j3 (icmp_le.2 i)
          simp only [bUn, voteB, Bool.false_or, Bool.false_eq_true, if_false, beq_iff_eq]
          exact decide_eq_false fun i => this i.1) ?_
    all_goals
      refine CallK.mk _ t10 rfl ?_
      repeat' first | (refine DecK.tt ?_) | (refine DecK.ff ?_) | (refine DecK.yes rfl ?_) | (refine DecK.no rfl ?_)
      first
        | (refine CallK.mk _ k5 rfl ?_
           refine DecK.dec (fun j4 => ?_) (fun j4 => ?_)
           · refine CallK.mk _ k6 rfl ?_
             refine DecK.yes (by
               have := icmp_ge.1 j4
               simp only [insB, Bool.false_eq_true, if_false, beq_iff_eq]
               exact decide_eq_decide.2 ⟨fun i => icmp_le.2 i.2, fun i => ⟨this, icmp_le.1 i⟩⟩) ?_
             ((refine CallK.mk _ t11 rfl ?_); (refine DecK.beq (fun _ => ?_) (fun h => absurd rfl h)); (refine DecK.beq (fun _ => ?_) (fun h => absurd (by rw [w1]; rfl) h)); ((repeat' first | refine DecK.tt ?_ | refine DecK.ff ?_ | refine DecK.beq (fun _ => ?_) (fun _ => ?_) | refine DecK.bne (fun _ => ?_) (fun _ => ?_) | refine DecK.dec (fun _ => ?_) (fun _ => ?_) | refine OptK.mk _ rfl ?_ | refine endV (by rfl) ?_) <;> (try with_reducible rfl)); (try rfl))
           · refine DecK.yes (by
               have : ¬ lo' ≤ lo := fun i => j4 (icmp_ge.2 i)
               simp only [insB, Bool.false_eq_true, if_false, beq_iff_eq]
               exact decide_eq_false fun i => this i.1) ?_
             ((refine CallK.mk _ t11 rfl ?_); (refine DecK.beq (fun _ => ?_) (fun h => absurd rfl h)); (refine DecK.beq (fun _ => ?_) (fun h => absurd (by rw [w1]; rfl) h)); ((repeat' first | refine DecK.tt ?_ | refine DecK.ff ?_ | refine DecK.beq (fun _ => ?_) (fun _ => ?_) | refine DecK.bne (fun _ => ?_) (fun _ => ?_) | refine DecK.dec (fun _ => ?_) (fun _ => ?_) | refine OptK.mk _ rfl ?_ | refine endV (by rfl) ?_) <;> (try with_reducible rfl)); (try rfl)))
        | ((refine CallK.mk _ t11 rfl ?_); (refine DecK.beq (fun _ => ?_) (fun h => absurd rfl h)); (refine DecK.beq (fun _ => ?_) (fun h => absurd (by rw [w1]; rfl) h)); ((repeat' first | refine DecK.tt ?_ | refine DecK.ff ?_ | refine DecK.beq (fun _ => ?_) (fun _ => ?_) | refine DecK.bne (fun _ => ?_) (fun _ => ?_) | refine DecK.dec (fun _ => ?_) (fun _ => ?_) | refine OptK.mk _ rfl ?_ | refine endV (by rfl) ?_) <;> (try with_reducible rfl)); (try rfl))
end Go.Proofs.Ytpggblmopgfloaa.Sv
