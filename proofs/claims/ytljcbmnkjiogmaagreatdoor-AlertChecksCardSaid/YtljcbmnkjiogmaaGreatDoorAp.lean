/- Alerts: the facts that the laws of alerts begin with, and the law of checks. No condition. -/
import Derived.Test.YtljcbmnkjiogmaaGreatDoorAm
import Derived.Test.YtljcbmnkjiogmaaGreatDoorAn
import Derived.Test.YtljcbmnkjiogmaaGreatDoorAo
namespace Go.Proofs.YtljcbmnkjiogmaaGreatDoor.Sv
open Go Go.RowKit
set_option linter.unusedVariables false
set_option linter.unusedSimpArgs false
set_option maxRecDepth 100000
/-- spyglass/spylaw1.alerts -/
def F4 : Fn1 := ⟨24, .seq (.reg [⟨some 0, none, .mv, [.cn (.b false)]⟩] []) (.seq (.reg [⟨some 4, none, .call 15, [.cn (.n .i64 7), .cn (.n .i64 0), .cn (.n .i64 0)]⟩, ⟨some 1, none, .alloc [.n .i64 0, .n .i64 0, .n .i64 0, .n .i64 0, .n .i64 0, .b false, .n .i64 0, .n .i64 0, .b false, .n .i64 0, .n .i64 0, .b false, .n .i64 0, .n .i64 0, .b false, .n .i64 0], []⟩, ⟨none, none, .st 16, [.tm 1, .tm 4]⟩] [1]) (.seq (.reg [⟨some 5, none, .fa 12, [.tm 1]⟩, ⟨some 6, none, .fa 2, [.tm 5]⟩, ⟨none, none, .st 1, [.tm 6, .cn (.b true)]⟩] [1]) (.seq (.reg [⟨some 8, none, .ld true 16 false, [.tm 1]⟩, ⟨some 9, none, .call 16, [.tm 8]⟩, ⟨some 7, none, .mv, [.tm 9]⟩, ⟨some 10, none, .po (.ext 0), [.tm 7]⟩, ⟨some 11, none, .po (.ext 1), [.tm 7]⟩, ⟨some 2, none, .mv, [.tm 10]⟩, ⟨some 3, none, .mv, [.tm 11]⟩] [2, 3]) (.seq (.reg [⟨some 12, none, .mv, [.tm 3]⟩, ⟨some 13, none, .po (.bin .eql), [.tm 12, .cn (.n .i64 0)]⟩, ⟨some 14, none, .mv, [.tm 13]⟩, ⟨some 15, some (14, true), .mv, [.tm 2]⟩, ⟨some 16, some (14, true), .po (.bin .eql), [.tm 15, .cn (.s (⟨⟨[97, 108, 101, 114, 116, 32, 55, 32, 102, 97, 100, 101, 100, 32, 97, 116, 32, 53, 46, 46, 54, 32, 111, 98, 106, 101, 99, 116, 32, 52, 32, 114, 97, 32, 49, 46, 46, 50, 32, 100, 101, 99, 32, 45, 49, 46, 46, 48, 32, 102, 108, 117, 120, 32, 63]⟩⟩ : ByteArray))]⟩, ⟨some 17, none, .pick, [.tm 14, .tm 16, .cn (.b false)]⟩, ⟨some 18, none, .mv, [.tm 17]⟩, ⟨some 19, some (18, true), .bslO 9 [.n .u8 0] [(0, 1), (1, 1), (2, 1), (3, 1), (4, 1), (5, 1), (6, 1), (7, 1), (8, 1)], [.cn (.n .u8 49), .cn (.n .u8 50), .cn (.n .u8 51), .cn (.n .u8 52), .cn (.n .u8 53), .cn (.n .u8 54), .cn (.n .u8 55), .cn (.n .u8 56), .cn (.n .u8 57)]⟩, ⟨some 20, some (18, true), .cv, [.tm 19]⟩, ⟨some 21, some (18, true), .call 17, [.tm 20]⟩, ⟨some 22, some (18, true), .po (.bin .eql), [.tm 21, .cn (.n .u32 3421780262)]⟩, ⟨some 23, none, .pick, [.tm 18, .tm 22, .cn (.b false)]⟩, ⟨some 0, none, .mv, [.tm 23]⟩] [0]) .ret)))), [.tm 0]⟩
theorem of4 : Fn1.of Tryz.prog 4 ⟨false, [], false⟩ [[], [1], [1], [2, 3], [0]] = some F4 := by kernel_rfl
set_option maxHeartbeats 4000000 in
theorem alerts_ok : Pure Tryz.prog 4 [] (.b true) := by
  refine pure_of_wp of4 (Nat.le_of_ble_eq_true rfl) ?_
  refine CallK.mk _ (faded_ok 7 0 0) rfl ?_
  refine OptK.mk _ rfl ?_
  refine OptK.mk _ rfl ?_
  refine CallK.mk _ (alText_ok 7 3 4 5 6 false 1 2 false (-1) 0 false 0 0 true 0) rfl ?_
  rw [if_pos faded_err, faded_text]
  refine DecK.tt ?_
  refine DecK.yes (by rw [beqS]; exact decide_eq_true rfl) ?_
  refine OptK.mk _ rfl ?_
  refine CallK.mk _ (crcSum_ok [49, 50, 51, 52, 53, 54, 55, 56, 57] false (by decide)) rfl ?_
  refine endV rfl ?_
  rw [crc_nine]
  rfl
/-- spyglass/spylaw1.AlertChecks -/
def F3 : Fn1 := ⟨38, .seq (.reg [⟨some 2, none, .box, [.tm 0]⟩, ⟨some 3, none, .box, [.tm 1]⟩, ⟨some 4, none, .mv, [.cn (.b false)]⟩] [2, 3]) (.seq (.dreg [⟨some 5, none, .call 4, []⟩, ⟨some 6, none, .mv, [.tm 5]⟩, ⟨some 7, some (6, true), .call 6, []⟩, ⟨some 8, some (6, true), .call 7, []⟩, ⟨some 9, some (6, true), .call 5, [.tm 7, .tm 8]⟩, ⟨some 10, none, .pick, [.tm 6, .tm 9, .cn (.b false)]⟩, ⟨some 11, none, .mv, [.tm 10]⟩, ⟨some 12, some (11, true), .ld true 16 false, [.tm 2]⟩, ⟨some 13, some (11, true), .call 8, [.tm 12]⟩, ⟨some 14, some (11, true), .ld true 16 false, [.tm 2]⟩, ⟨some 15, some (11, true), .call 9, [.tm 14]⟩, ⟨some 16, some (11, true), .po (.bin .eql), [.tm 13, .tm 15]⟩, ⟨some 17, none, .pick, [.tm 11, .tm 16, .cn (.b false)]⟩, ⟨some 18, none, .mv, [.tm 17]⟩, ⟨some 19, some (18, true), .ld true 16 false, [.tm 2]⟩, ⟨some 20, some (18, true), .ld true 16 false, [.tm 3]⟩, ⟨some 21, some (18, true), .call 10, [.tm 19, .tm 20]⟩, ⟨some 22, some (18, true), .ld true 16 false, [.tm 2]⟩, ⟨some 23, some (18, true), .call 12, [.tm 22]⟩, ⟨some 24, some (18, true), .ld true 16 false, [.tm 3]⟩, ⟨some 25, some (18, true), .call 12, [.tm 24]⟩, ⟨some 26, some (18, true), .call 11, [.tm 23, .tm 25]⟩, ⟨some 27, some (18, true), .po (.bin .eql), [.tm 21, .tm 26]⟩, ⟨some 28, none, .pick, [.tm 18, .tm 27, .cn (.b false)]⟩, ⟨some 29, none, .mv, [.tm 28]⟩, ⟨some 30, some (29, true), .ld true 16 false, [.tm 2]⟩, ⟨some 31, some (29, true), .ld true 16 false, [.tm 3]⟩, ⟨some 32, some (29, true), .call 13, [.tm 30, .tm 31]⟩, ⟨some 33, some (29, true), .ld true 16 false, [.tm 2]⟩, ⟨some 34, some (29, true), .ld true 16 false, [.tm 3]⟩, ⟨some 35, some (29, true), .call 14, [.tm 33, .tm 34]⟩, ⟨some 36, some (29, true), .po (.beq false), [.tm 32, .tm 35]⟩, ⟨some 37, none, .pick, [.tm 29, .tm 36, .cn (.b false)]⟩, ⟨some 4, none, .mv, [.tm 37]⟩] [] [4]) .ret), [.tm 4]⟩
theorem of3 : Fn1.of Tryz.prog 3 ⟨false, [], false⟩ [[2, 3], [4]] = some F3 := by kernel_rfl
theorem alertChecks_pure (i k o t0 t1 : Int) (tu : Bool) (r0 r1 : Int) (ru : Bool) (d0 d1 : Int) (du : Bool) (q0 q1 : Int) (qu : Bool) (f : Int)
    (i' k' o' t0' t1' : Int) (tu' : Bool) (r0' r1' : Int) (ru' : Bool) (d0' d1' : Int) (du' : Bool) (q0' q1' : Int) (qu' : Bool) (f' : Int) :
    Pure Tryz.prog 3 [.agg (alC i k o t0 t1 tu r0 r1 ru d0 d1 du q0 q1 qu f), .agg (alC i' k' o' t0' t1' tu' r0' r1' ru' d0' d1' du' q0' q1' qu' f')] (.b true) := by
  refine pure_of_wp of3 (Nat.le_of_ble_eq_true rfl) ?_
  refine CallK.mk _ alerts_ok rfl ?_
  refine DecK.tt ?_
  refine CallK.mk _ names_ok rfl ?_
  refine CallK.mk _ kindNames_ok rfl ?_
  refine CallK.mk _ (eqS_ok namesL namesL true true (by decide)) rfl ?_
  rw [decide_eq_true (rfl : namesL = namesL)]
  refine DecK.tt ?_
  refine CallK.mk _ (check_ok i k o t0 t1 tu r0 r1 ru d0 d1 du q0 q1 qu f) rfl ?_
  refine CallK.mk _ (alertErr_ok i k o t0 t1 tu r0 r1 ru d0 d1 du q0 q1 qu f) rfl ?_
  refine DecK.yes (beq_self_eq_true _) ?_
  refine CallK.mk _ (alertCmp_ok i k o t0 t1 tu r0 r1 ru d0 d1 du q0 q1 qu f i' k' o' t0' t1' tu' r0' r1' ru' d0' d1' du' q0' q1' qu' f') rfl ?_
  refine CallK.mk _ (key_ok i k o t0 t1 tu r0 r1 ru d0 d1 du q0 q1 qu f) rfl ?_
  refine CallK.mk _ (key_ok i' k' o' t0' t1' tu' r0' r1' ru' d0' d1' du' q0' q1' qu' f') rfl ?_
  refine CallK.mk _ (lex_ok (alKey i k o t0 t1 tu r0 r1 ru d0 d1 du q0 q1 qu f) (alKey i' k' o' t0' t1' tu' r0' r1' ru' d0' d1' du' q0' q1' qu' f') true true (by simp [alKey]) (by simp [alKey])) rfl ?_
  refine DecK.yes (beq_iff_eq.2 (cmp_key i k o t0 t1 tu r0 r1 ru d0 d1 du q0 q1 qu f i' k' o' t0' t1' tu' r0' r1' ru' d0' d1' du' q0' q1' qu' f').symm) ?_
  refine CallK.mk _ (alertInside_ok i k o t0 t1 tu r0 r1 ru d0 d1 du q0 q1 qu f i' k' o' t0' t1' tu' r0' r1' ru' d0' d1' du' q0' q1' qu' f') rfl ?_
  refine CallK.mk _ (insideRef_ok i k o t0 t1 tu r0 r1 ru d0 d1 du q0 q1 qu f i' k' o' t0' t1' tu' r0' r1' ru' d0' d1' du' q0' q1' qu' f') rfl ?_
  refine endV rfl ?_
  generalize alIn i k o t0 t1 tu r0 r1 ru d0 d1 du q0 q1 qu f i' k' o' t0' t1' tu' r0' r1' ru' d0' d1' du' q0' q1' qu' f' = x
  cases x <;> rfl
end Go.Proofs.YtljcbmnkjiogmaaGreatDoor.Sv
