/- The statements on dates and uniform times hold at each input. No condition. -/
import Derived.Test.YtljcbmnkjiogmaaDoorTe
namespace Go.Proofs.YtljcbmnkjiogmaaDoor.Sv
open Go Go.RowKit
set_option linter.unusedVariables false
set_option linter.unusedSimpArgs false
set_option maxRecDepth 100000
/-- spyglass/spylaw1.scales -/
def F16 : Fn1 := ⟨18, .seq (.reg [⟨some 0, none, .mv, [.cn (.b false)]⟩] []) (.seq (.reg [⟨some 4, none, .po (.build [.n .i64 0, .n .i64 0, .n .i64 0, .n .i64 0, .n .i64 0, .n .i64 0, .n .i64 0] [(0, 1), (1, 1), (2, 1), (3, 1), (4, 1), (5, 1), (6, 1)]), [.cn (.n .i64 2000), .cn (.n .i64 12), .cn (.n .i64 31), .cn (.n .i64 23), .cn (.n .i64 59), .cn (.n .i64 60), .cn (.n .i64 500)]⟩, ⟨some 1, none, .alloc [.n .i64 0, .n .i64 0, .n .i64 0, .n .i64 0, .n .i64 0, .n .i64 0, .n .i64 0], []⟩, ⟨none, none, .st 7, [.tm 1, .tm 4]⟩] [1]) (.seq (.reg [⟨some 6, none, .ld true 7 false, [.tm 1]⟩, ⟨some 7, none, .po (.build [.n .i64 0, .n .i64 0] [(0, 1), (1, 1)]), [.cn (.n .i64 365), .cn (.n .i64 1)]⟩, ⟨some 8, none, .po (.bsl 1 [.n .i64 0, .n .i64 0] [(0, 2)]), [.tm 7]⟩, ⟨some 9, none, .call 40, [.tm 6, .tm 8]⟩, ⟨some 5, none, .mv, [.tm 9]⟩, ⟨some 10, none, .po (.ext 0), [.tm 5]⟩, ⟨some 11, none, .po (.ext 1), [.tm 5]⟩, ⟨some 2, none, .mv, [.tm 10]⟩, ⟨some 3, none, .mv, [.tm 11]⟩] [2, 3]) (.seq (.reg [⟨some 12, none, .mv, [.tm 3]⟩, ⟨some 13, none, .po (.bin .eql), [.tm 12, .cn (.n .i64 0)]⟩, ⟨some 14, none, .mv, [.tm 13]⟩, ⟨some 15, some (14, true), .mv, [.tm 2]⟩, ⟨some 16, some (14, true), .po (.bin .eql), [.tm 15, .cn (.n .i64 31622400500)]⟩, ⟨some 17, none, .pick, [.tm 14, .tm 16, .cn (.b false)]⟩, ⟨some 0, none, .mv, [.tm 17]⟩] [0]) .ret))), [.tm 0]⟩
theorem of16 : Fn1.of Tryd.prog 16 ⟨false, [], false⟩ [[], [1], [2, 3], [0]] = some F16 := by kernel_rfl
theorem scales_ok : Pure Tryd.prog 16 [] (.b true) := by
  have h := toUniform_ok 2000 12 31 23 59 60 500 [(365, 1, ())] (by simp)
  have e1 : uniErr 2000 12 31 23 59 60 500 [(365, 1, ())] = 0 := by decide
  have e2 : uniT 2000 12 31 23 59 60 500 [(365, 1, ())] = 31622400500 := by decide
  rw [e1, e2] at h
  refine pure_of_wp of16 (Nat.le_of_ble_eq_true rfl) ?_
  refine OptK.mk _ rfl ?_
  refine CallK.mk _ (.of (.cons (.refl _) (.cons .loose .nil)) h) rfl ?_
  repeat' first | refine DecK.tt ?_ | refine DecK.ff ?_ | refine DecK.beq (fun _ => ?_) (fun _ => ?_) | refine DecK.bne (fun _ => ?_) (fun _ => ?_) | refine DecK.dec (fun _ => ?_) (fun _ => ?_) | refine OptK.mk _ rfl ?_ | refine endV (by rfl) ?_
  all_goals first | rfl | contradiction
end Go.Proofs.YtljcbmnkjiogmaaDoor.Sv
