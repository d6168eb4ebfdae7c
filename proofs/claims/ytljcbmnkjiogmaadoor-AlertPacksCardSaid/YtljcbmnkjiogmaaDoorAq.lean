/- Alerts: the facts that the laws of alerts begin with. No condition. -/
import Derived.Test.YtljcbmnkjiogmaaDoorAo
namespace Go.Proofs.YtljcbmnkjiogmaaDoor.Sv
open Go Go.RowKit
set_option linter.unusedVariables false
set_option linter.unusedSimpArgs false
set_option maxRecDepth 100000
/-- spyglass/spylaw1.alerts -/
def F6 : Fn1 := ⟨24, .seq (.reg [⟨some 0, none, .mv, [.cn (.b false)]⟩] []) (.seq (.reg [⟨some 4, none, .call 22, [.cn (.n .i64 7), .cn (.n .i64 0), .cn (.n .i64 0)]⟩, ⟨some 1, none, .alloc [.n .i64 0, .n .i64 0, .n .i64 0, .n .i64 0, .n .i64 0, .b false, .n .i64 0, .n .i64 0, .b false, .n .i64 0, .n .i64 0, .b false, .n .i64 0, .n .i64 0, .b false, .n .i64 0], []⟩, ⟨none, none, .st 16, [.tm 1, .tm 4]⟩] [1]) (.seq (.reg [⟨some 5, none, .fa 12, [.tm 1]⟩, ⟨some 6, none, .fa 2, [.tm 5]⟩, ⟨none, none, .st 1, [.tm 6, .cn (.b true)]⟩] [1]) (.seq (.reg [⟨some 8, none, .ld true 16 false, [.tm 1]⟩, ⟨some 9, none, .call 23, [.tm 8]⟩, ⟨some 7, none, .mv, [.tm 9]⟩, ⟨some 10, none, .po (.ext 0), [.tm 7]⟩, ⟨some 11, none, .po (.ext 1), [.tm 7]⟩, ⟨some 2, none, .mv, [.tm 10]⟩, ⟨some 3, none, .mv, [.tm 11]⟩] [2, 3]) (.seq (.reg [⟨some 12, none, .mv, [.tm 3]⟩, ⟨some 13, none, .po (.bin .eql), [.tm 12, .cn (.n .i64 0)]⟩, ⟨some 14, none, .mv, [.tm 13]⟩, ⟨some 15, some (14, true), .mv, [.tm 2]⟩, ⟨some 16, some (14, true), .po (.bin .eql), [.tm 15, .cn (.s (⟨⟨[97, 108, 101, 114, 116, 32, 55, 32, 102, 97, 100, 101, 100, 32, 97, 116, 32, 53, 46, 46, 54, 32, 111, 98, 106, 101, 99, 116, 32, 52, 32, 114, 97, 32, 49, 46, 46, 50, 32, 100, 101, 99, 32, 45, 49, 46, 46, 48, 32, 102, 108, 117, 120, 32, 63]⟩⟩ : ByteArray))]⟩, ⟨some 17, none, .pick, [.tm 14, .tm 16, .cn (.b false)]⟩, ⟨some 18, none, .mv, [.tm 17]⟩, ⟨some 19, some (18, true), .bslO 9 [.n .u8 0] [(0, 1), (1, 1), (2, 1), (3, 1), (4, 1), (5, 1), (6, 1), (7, 1), (8, 1)], [.cn (.n .u8 49), .cn (.n .u8 50), .cn (.n .u8 51), .cn (.n .u8 52), .cn (.n .u8 53), .cn (.n .u8 54), .cn (.n .u8 55), .cn (.n .u8 56), .cn (.n .u8 57)]⟩, ⟨some 20, some (18, true), .cv, [.tm 19]⟩, ⟨some 21, some (18, true), .call 7, [.tm 20]⟩, ⟨some 22, some (18, true), .po (.bin .eql), [.tm 21, .cn (.n .u32 3421780262)]⟩, ⟨some 23, none, .pick, [.tm 18, .tm 22, .cn (.b false)]⟩, ⟨some 0, none, .mv, [.tm 23]⟩] [0]) .ret)))), [.tm 0]⟩
theorem of6 : Fn1.of Tryd.prog 6 ⟨false, [], false⟩ [[], [1], [1], [2, 3], [0]] = some F6 := by kernel_rfl
set_option maxHeartbeats 4000000 in
theorem alerts_ok : Pure Tryd.prog 6 [] (.b true) := by
  refine pure_of_wp of6 (Nat.le_of_ble_eq_true rfl) ?_
  refine CallK.mk _ (faded_ok 7 0 0) rfl ?_
  refine OptK.mk _ rfl ?_
  refine OptK.mk _ rfl ?_
  refine CallK.mk _ (alText_ok 7 3 4 5 6 false 1 2 false (-1) 0 false 0 0 true 0) rfl ?_
  rw [if_pos faded_err, faded_text]
  refine DecK.tt ?_
  refine DecK.yes (by rw [beqS]; exact decide_eq_true rfl) ?_
  refine OptK.mk _ rfl ?_
  refine CallK.mk _ (crcSum_ok [49, 50, 51, 52, 53, 54, 55, 56, 57] false (by decide)) rfl ?_
  refine endV rfl ?_
  rw [crc_nine]
  rfl
end Go.Proofs.YtljcbmnkjiogmaaDoor.Sv
