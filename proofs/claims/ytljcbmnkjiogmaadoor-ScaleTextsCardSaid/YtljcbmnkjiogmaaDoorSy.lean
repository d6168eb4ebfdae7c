/- Texts of civil times. No condition. -/
import Derived.Test.YtljcbmnkjiogmaaDoorSx
namespace Go.Proofs.YtljcbmnkjiogmaaDoor.Sv
open Go Go.RowKit
set_option linter.unusedVariables false
set_option linter.unusedSimpArgs false
set_option maxRecDepth 100000
/-- spyglass/spylaw1.ScaleTexts -/
def F4 : Fn1 := ⟨54, .seq (.reg [⟨some 2, none, .box, [.tm 0]⟩, ⟨some 4, none, .mv, [.cn (.b false)]⟩] [1, 2]) (.seq (.reg [⟨some 14, none, .ld true 7 false, [.tm 2]⟩, ⟨some 15, none, .call 12, [.tm 14]⟩, ⟨some 13, none, .mv, [.tm 15]⟩, ⟨some 16, none, .po (.ext 0), [.tm 13]⟩, ⟨some 17, none, .po (.ext 1), [.tm 13]⟩, ⟨some 5, none, .mv, [.tm 16]⟩, ⟨some 6, none, .mv, [.tm 17]⟩] [1, 2, 5, 6]) (.seq (.reg [⟨some 19, none, .ld true 7 false, [.tm 2]⟩, ⟨some 20, none, .call 13, [.tm 19]⟩, ⟨some 18, none, .mv, [.tm 20]⟩, ⟨some 21, none, .po (.ext 0), [.tm 18]⟩, ⟨some 22, none, .po (.ext 1), [.tm 18]⟩, ⟨some 7, none, .mv, [.tm 21]⟩, ⟨some 8, none, .mv, [.tm 22]⟩] [1, 5, 6, 7, 8]) (.seq (.reg [⟨some 24, none, .mv, [.tm 1]⟩, ⟨some 25, none, .call 14, [.tm 24]⟩, ⟨some 23, none, .mv, [.tm 25]⟩, ⟨some 26, none, .po (.ext 0), [.tm 23]⟩, ⟨some 27, none, .po (.ext 1), [.tm 23]⟩, ⟨some 9, none, .alloc [.n .i64 0, .n .i64 0, .n .i64 0, .n .i64 0, .n .i64 0, .n .i64 0, .n .i64 0], []⟩, ⟨none, none, .st 7, [.tm 9, .tm 26]⟩, ⟨some 10, none, .mv, [.tm 27]⟩] [1, 5, 6, 7, 8, 9, 10]) (.seq (.reg [⟨some 29, none, .mv, [.tm 1]⟩, ⟨some 30, none, .call 15, [.tm 29]⟩, ⟨some 28, none, .mv, [.tm 30]⟩, ⟨some 31, none, .po (.ext 0), [.tm 28]⟩, ⟨some 32, none, .po (.ext 1), [.tm 28]⟩, ⟨some 11, none, .alloc [.n .i64 0, .n .i64 0, .n .i64 0, .n .i64 0, .n .i64 0, .n .i64 0, .n .i64 0], []⟩, ⟨none, none, .st 7, [.tm 11, .tm 31]⟩, ⟨some 12, none, .mv, [.tm 32]⟩] [5, 6, 7, 8, 9, 10, 11, 12]) (.seq (.reg [⟨some 33, none, .call 16, []⟩, ⟨some 34, none, .mv, [.tm 33]⟩, ⟨some 35, some (34, true), .mv, [.tm 5]⟩, ⟨some 36, some (34, true), .mv, [.tm 7]⟩, ⟨some 37, some (34, true), .po (.bin .eql), [.tm 35, .tm 36]⟩, ⟨some 38, none, .pick, [.tm 34, .tm 37, .cn (.b false)]⟩, ⟨some 39, none, .mv, [.tm 38]⟩, ⟨some 40, some (39, true), .mv, [.tm 6]⟩, ⟨some 41, some (39, true), .mv, [.tm 8]⟩, ⟨some 42, some (39, true), .po (.bin .eql), [.tm 40, .tm 41]⟩, ⟨some 43, none, .pick, [.tm 39, .tm 42, .cn (.b false)]⟩, ⟨some 44, none, .mv, [.tm 43]⟩, ⟨some 45, some (44, true), .ld true 7 false, [.tm 9]⟩, ⟨some 46, some (44, true), .ld true 7 false, [.tm 11]⟩, ⟨some 47, some (44, true), .po (.veq false [(0, .n), (1, .n), (2, .n), (3, .n), (4, .n), (5, .n), (6, .n)]), [.tm 45, .tm 46]⟩, ⟨some 48, none, .pick, [.tm 44, .tm 47, .cn (.b false)]⟩, ⟨some 49, none, .mv, [.tm 48]⟩, ⟨some 50, some (49, true), .mv, [.tm 10]⟩, ⟨some 51, some (49, true), .mv, [.tm 12]⟩, ⟨some 52, some (49, true), .po (.bin .eql), [.tm 50, .tm 51]⟩, ⟨some 53, none, .pick, [.tm 49, .tm 52, .cn (.b false)]⟩, ⟨some 4, none, .mv, [.tm 53]⟩] [4]) .ret))))), [.tm 4]⟩
theorem of4 : Fn1.of Tryd.prog 4 ⟨false, [], false⟩ [[1, 2], [1, 2, 5, 6], [1, 5, 6, 7, 8], [1, 5, 6, 7, 8, 9, 10], [5, 6, 7, 8, 9, 10, 11, 12], [4]] = some F4 := by kernel_rfl
theorem eq7' {objs : List (Nat × List V)} (a b c d e f g : Int) : (SO.po (.veq false [(0, .n), (1, .n), (2, .n), (3, .n), (4, .n), (5, .n), (6, .n)])).rdx objs [.v (civilV a b c d e f g), .v (civilV a b c d e f g)] = some (.v (.b true)) := by
  simp [SO.rdx, SO.rd, allV, PO.run, veqV, eqLv, eqk]
theorem readV_ex (s : List UInt8) : ∃ a b c d e f g n, readV s = .tup [civilV a b c d e f g, .n .i64 n] := by
  unfold readV
  split
  · split
    · exact ⟨_, _, _, _, _, _, _, _, rfl⟩
    · exact ⟨_, _, _, _, _, _, _, _, rfl⟩
  · exact ⟨_, _, _, _, _, _, _, _, rfl⟩
theorem textV_ex (y mo d h mi s ms : Int) : ∃ t n, (if civErr y mo d h mi s ms = 0 then V.tup [strB (civT y.toNat mo.toNat d.toNat h.toNat mi.toNat s.toNat ms.toNat), .n .i64 0] else .tup [strB [], .n .i64 (civErr y mo d h mi s ms)]) = .tup [strB t, .n .i64 n] := by
  split
  · exact ⟨_, _, rfl⟩
  · exact ⟨_, _, rfl⟩
theorem scaleTexts_pure (y mo d h mi s ms : Int) (x : ByteArray) : Pure Tryd.prog 4 [civilV y mo d h mi s ms, .s x] (.b true) := by
  obtain ⟨⟨l⟩⟩ := x
  have c1 := text_ok y mo d h mi s ms
  have c2 := civilText_ok y mo d h mi s ms
  have c3 := read_ok l
  have c4 := civilRead_ok l
  obtain ⟨t, n, e1⟩ := textV_ex y mo d h mi s ms
  obtain ⟨a1, a2, a3, a4, a5, a6, a7, m, e2⟩ := readV_ex l
  rw [e1] at c1 c2
  rw [e2] at c3 c4
  refine pure_of_wp of4 (Nat.le_of_ble_eq_true rfl) ?_
  refine CallK.mk _ c1 rfl ?_
  refine CallK.mk _ c2 rfl ?_
  refine CallK.mk _ c3 rfl ?_
  refine OptK.mk _ rfl ?_
  refine CallK.mk _ c4 rfl ?_
  refine OptK.mk _ rfl ?_
  refine CallK.mk _ scales_ok rfl ?_
  refine DecK.tt ?_
  refine DecK.yes (by rw [sEq]; exact decide_eq_true rfl) ?_
  refine DecK.yes (beq_self_eq_true _) ?_
  refine OptK.mk _ (eq7' a1 a2 a3 a4 a5 a6 a7) ?_
  refine DecK.tt ?_
  refine endV rfl ?_
  rw [beq_self_eq_true]
end Go.Proofs.YtljcbmnkjiogmaaDoor.Sv
