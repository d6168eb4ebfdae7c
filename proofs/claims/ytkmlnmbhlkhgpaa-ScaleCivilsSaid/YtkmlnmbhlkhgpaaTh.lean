/- The statement on civil times holds at each input. No condition. -/
import Derived.Test.YtkmlnmbhlkhgpaaTg
namespace Go.Proofs.Ytkmlnmbhlkhgpaa.Sv
open Go Go.RowKit
set_option linter.unusedVariables false
set_option linter.unusedSimpArgs false
set_option maxRecDepth 100000
/-- spyglass/spylaw1.ScaleCivils -/
def F5 : Fn1 := ⟨32, .seq (.reg [⟨some 4, none, .mv, [.cn (.b false)]⟩] [0, 1]) (.seq (.reg [⟨some 10, none, .mv, [.tm 0]⟩, ⟨some 11, none, .mv, [.tm 1]⟩, ⟨some 12, none, .call 26, [.tm 10, .tm 11]⟩, ⟨some 9, none, .mv, [.tm 12]⟩, ⟨some 13, none, .po (.ext 0), [.tm 9]⟩, ⟨some 14, none, .po (.ext 1), [.tm 9]⟩, ⟨some 5, none, .alloc [.n .i64 0, .n .i64 0, .n .i64 0, .n .i64 0, .n .i64 0, .n .i64 0, .n .i64 0], []⟩, ⟨none, none, .st 7, [.tm 5, .tm 13]⟩, ⟨some 6, none, .mv, [.tm 14]⟩] [0, 1, 5, 6]) (.seq (.reg [⟨some 16, none, .mv, [.tm 0]⟩, ⟨some 17, none, .mv, [.tm 1]⟩, ⟨some 18, none, .call 27, [.tm 16, .tm 17]⟩, ⟨some 15, none, .mv, [.tm 18]⟩, ⟨some 19, none, .po (.ext 0), [.tm 15]⟩, ⟨some 20, none, .po (.ext 1), [.tm 15]⟩, ⟨some 7, none, .alloc [.n .i64 0, .n .i64 0, .n .i64 0, .n .i64 0, .n .i64 0, .n .i64 0, .n .i64 0], []⟩, ⟨none, none, .st 7, [.tm 7, .tm 19]⟩, ⟨some 8, none, .mv, [.tm 20]⟩] [5, 6, 7, 8]) (.seq (.reg [⟨some 21, none, .call 17, []⟩, ⟨some 22, none, .mv, [.tm 21]⟩, ⟨some 23, some (22, true), .ld true 7, [.tm 5]⟩, ⟨some 24, some (22, true), .ld true 7, [.tm 7]⟩, ⟨some 25, some (22, true), .po (.veq false [(0, .n), (1, .n), (2, .n), (3, .n), (4, .n), (5, .n), (6, .n)]), [.tm 23, .tm 24]⟩, ⟨some 26, none, .pick, [.tm 22, .tm 25, .cn (.b false)]⟩, ⟨some 27, none, .mv, [.tm 26]⟩, ⟨some 28, some (27, true), .mv, [.tm 6]⟩, ⟨some 29, some (27, true), .mv, [.tm 8]⟩, ⟨some 30, some (27, true), .po (.bin .eql), [.tm 28, .tm 29]⟩, ⟨some 31, none, .pick, [.tm 27, .tm 30, .cn (.b false)]⟩, ⟨some 4, none, .mv, [.tm 31]⟩] [4]) .ret))), [.tm 4]⟩
theorem of5 : Fn1.of Try.prog 5 false [[0, 1], [0, 1, 5, 6], [5, 6, 7, 8], [4]] = some F5 := by kernel_rfl

theorem eq7 {objs : List (Nat × List V)} (a b c d e f g : Int) : (SO.po (.veq false [(0, .n), (1, .n), (2, .n), (3, .n), (4, .n), (5, .n), (6, .n)])).rdx objs [.v (civilV a b c d e f g), .v (civilV a b c d e f g)] = some (.v (.b true)) := by
  simp [SO.rdx, SO.rd, allV, PO.run, veqV, eqLv, eqk]
theorem law_civils (t : Int) (l : List LeapT) (hl : l.length ≤ 9000000000000000000) : Pure Try.prog 5 [.n .i64 t, leapsV l] (.b true) := by
  by_cases h : t < -17592186044416 ∨ 17592186044416 < t ∨ leapsErr l ≠ 0
  · refine pure_of_wp of5 (Nat.le_of_ble_eq_true rfl) ?_
    refine CallK.mk _ (toCivil_no hl h) rfl ?_
    refine OptK.mk _ rfl ?_
    refine CallK.mk _ (civilOf_no hl h) rfl ?_
    refine OptK.mk _ rfl ?_
    refine CallK.mk _ scales_ok rfl ?_
    refine DecK.tt ?_
    refine OptK.mk _ (eq7 _ _ _ _ _ _ _) ?_
    refine DecK.tt ?_
    refine endV (by rfl) ?_
    simp
  · obtain ⟨h1, h2, h3⟩ : -17592186044416 ≤ t ∧ t ≤ 17592186044416 ∧ leapsErr l = 0 := by omega
    obtain ⟨D, g1, g2, g3, g4⟩ := start_ex h3 ⟨h1, h2⟩
    have e1 := first_val
    have e2 := last_val
    obtain ⟨y, mo, d, ok, hD⟩ := date_ex (n := D) (by omega)
    refine pure_of_wp of5 (Nat.le_of_ble_eq_true rfl) ?_
    refine CallK.mk _ (toCivil_ok h3 hl ⟨h1, h2⟩ ⟨g1, g2⟩ ok hD) rfl ?_
    refine OptK.mk _ rfl ?_
    refine CallK.mk _ (civilOf_ok h3 hl ⟨h1, h2⟩ ⟨g1, g2⟩ ok hD) rfl ?_
    refine OptK.mk _ rfl ?_
    refine CallK.mk _ scales_ok rfl ?_
    refine DecK.tt ?_
    refine OptK.mk _ (eq7 _ _ _ _ _ _ _) ?_
    refine DecK.tt ?_
    refine endV (by rfl) ?_
    simp
end Go.Proofs.Ytkmlnmbhlkhgpaa.Sv
