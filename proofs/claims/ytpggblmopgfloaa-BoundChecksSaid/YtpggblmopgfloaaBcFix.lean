/- Bounds of numbers of a type: further functions. No condition. -/
import Derived.Test.YtpggblmopgfloaaBbFix
import Derived.Test.YtpggblmopgfloaaBe
namespace Go.Proofs.Ytpggblmopgfloaa.Sv
open Go Go.RowKit
set_option linter.unusedVariables false
set_option linter.unusedSimpArgs false
set_option maxRecDepth 100000
/-- spyglass/spyref1.Sides(spyglass/api.Fix) -/
def F13 : Fn1 := ⟨20, .seq (.reg [⟨some 1, none, .box, [.tm 0]⟩, ⟨some 2, none, .alloc [.b false, .sl 0 [] true], []⟩, ⟨some 3, none, .alloc [.b false, .sl 0 [] true], []⟩, ⟨some 4, none, .mv, [.cn (.b false)]⟩] [1, 2, 3]) (.seq (.seq (.reg [⟨some 5, none, .ld true 3 false, [.tm 1]⟩, ⟨some 6, none, .call 19, [.tm 5]⟩, ⟨some 7, none, .po (.bin .neq), [.tm 6, .cn (.n .i64 0)]⟩, ⟨some 8, none, .mv, [.tm 7]⟩, ⟨some 9, some (8, false), .fa 2, [.tm 1]⟩, ⟨some 10, some (8, false), .ld false 1 false, [.tm 9]⟩, ⟨some 11, none, .pick, [.tm 8, .cn (.b true), .tm 10]⟩] [1, 2, 3, 11]) (.cond (.tm 11) (.seq (.reg [⟨some 12, none, .po (.build [.b false, .sl 0 [] true] []), []⟩, ⟨some 13, none, .po (.build [.b false, .sl 0 [] true] []), []⟩, ⟨none, none, .st 2, [.tm 2, .tm 12]⟩, ⟨none, none, .st 2, [.tm 3, .tm 13]⟩, ⟨some 4, none, .mv, [.cn (.b false)]⟩] [2, 3, 4]) .ret) .skip)) (.seq (.dreg [⟨some 14, none, .fa 0, [.tm 1]⟩, ⟨some 15, none, .ld false 1 false, [.tm 14]⟩, ⟨some 16, none, .call 16, [.tm 15]⟩, ⟨some 17, none, .fa 1, [.tm 1]⟩, ⟨some 18, none, .ld false 1 false, [.tm 17]⟩, ⟨some 19, none, .call 16, [.tm 18]⟩, ⟨none, none, .st 2, [.tm 2, .tm 16]⟩, ⟨none, none, .st 2, [.tm 3, .tm 19]⟩, ⟨some 4, none, .mv, [.cn (.b true)]⟩] [] [2, 3, 4]) .ret)), [.cell 2 true 2, .cell 3 true 2, .tm 4]⟩
theorem of13 : Fn1.of Try.prog 13 ⟨false, [], false⟩ [[1, 2, 3], [1, 2, 3, 11], [2, 3, 4], [2, 3, 4]] = some F13 := by kernel_rfl
/-- spyglass/bound.Meet(spyglass/api.Fix) -/
def F41 : Fn1 := ⟨42, .seq (.reg [⟨some 2, none, .box, [.tm 0]⟩, ⟨some 3, none, .box, [.tm 1]⟩, ⟨some 4, none, .alloc [.n .i64 0, .n .i64 0, .b false], []⟩, ⟨some 5, none, .mv, [.cn (.b false)]⟩] [2, 3, 4]) (.seq (.dreg [⟨some 6, none, .ld true 3 false, [.tm 2]⟩, ⟨some 7, none, .call 21, [.tm 6]⟩, ⟨some 8, none, .ld true 3 false, [.tm 3]⟩, ⟨some 9, none, .call 21, [.tm 8]⟩, ⟨none, none, .st 3, [.tm 2, .tm 7]⟩, ⟨none, none, .st 3, [.tm 3, .tm 9]⟩] [] [2, 3, 4]) (.seq (.block 0 (.seq (.reg [⟨some 11, none, .fa 2, [.tm 2]⟩, ⟨some 12, none, .ld false 1 false, [.tm 11]⟩, ⟨some 10, none, .mv, [.tm 12]⟩] [2, 3, 4, 10]) (.cond (.tm 10) (.seq (.reg [⟨some 13, none, .ld true 3 false, [.tm 3]⟩, ⟨none, none, .st 3, [.tm 4, .tm 13]⟩, ⟨some 5, none, .mv, [.cn (.b true)]⟩] [4, 5]) .ret) (.seq (.reg [⟨some 15, none, .fa 2, [.tm 3]⟩, ⟨some 16, none, .ld false 1 false, [.tm 15]⟩, ⟨some 14, none, .mv, [.tm 16]⟩] [2, 3, 4, 14]) (.cond (.tm 14) (.seq (.reg [⟨some 17, none, .ld true 3 false, [.tm 2]⟩, ⟨none, none, .st 3, [.tm 4, .tm 17]⟩, ⟨some 5, none, .mv, [.cn (.b true)]⟩] [4, 5]) .ret) (.seq (.reg [⟨some 19, none, .fa 0, [.tm 2]⟩, ⟨some 20, none, .ld false 1 false, [.tm 19]⟩, ⟨some 21, none, .fa 0, [.tm 3]⟩, ⟨some 22, none, .ld false 1 false, [.tm 21]⟩, ⟨some 23, none, .po .mx, [.tm 20, .tm 22]⟩, ⟨some 24, none, .fa 1, [.tm 2]⟩, ⟨some 25, none, .ld false 1 false, [.tm 24]⟩, ⟨some 26, none, .fa 1, [.tm 3]⟩, ⟨some 27, none, .ld false 1 false, [.tm 26]⟩, ⟨some 28, none, .po .mn, [.tm 25, .tm 27]⟩, ⟨some 29, none, .po (.bin .gtr), [.tm 23, .tm 28]⟩, ⟨some 18, none, .mv, [.tm 29]⟩] [2, 3, 4, 18]) (.cond (.tm 18) (.seq (.reg [⟨some 30, none, .po (.build [.n .i64 0, .n .i64 0, .b false] []), []⟩, ⟨none, none, .st 3, [.tm 4, .tm 30]⟩, ⟨some 5, none, .mv, [.cn (.b false)]⟩] [4, 5]) .ret) .skip))))))) (.seq (.reg [⟨some 31, none, .fa 0, [.tm 2]⟩, ⟨some 32, none, .ld false 1 false, [.tm 31]⟩, ⟨some 33, none, .fa 0, [.tm 3]⟩, ⟨some 34, none, .ld false 1 false, [.tm 33]⟩, ⟨some 35, none, .po .mx, [.tm 32, .tm 34]⟩, ⟨some 36, none, .fa 1, [.tm 2]⟩, ⟨some 37, none, .ld false 1 false, [.tm 36]⟩, ⟨some 38, none, .fa 1, [.tm 3]⟩, ⟨some 39, none, .ld false 1 false, [.tm 38]⟩, ⟨some 40, none, .po .mn, [.tm 37, .tm 39]⟩, ⟨some 41, none, .call 22, [.tm 35, .tm 40]⟩, ⟨none, none, .st 3, [.tm 4, .tm 41]⟩, ⟨some 5, none, .mv, [.cn (.b true)]⟩] [4, 5]) .ret))), [.cell 4 true 3, .tm 5]⟩
theorem of41 : Fn1.of Try.prog 41 ⟨false, [], false⟩ [[2, 3, 4], [2, 3, 4], [2, 3, 4, 10], [4, 5], [2, 3, 4, 14], [4, 5], [2, 3, 4, 18], [4, 5], [4, 5]] = some F41 := by kernel_rfl
/-- spyglass/bound.Neg(spyglass/api.Fix) -/
def F36 : Fn1 := ⟨14, .seq (.reg [⟨some 1, none, .box, [.tm 0]⟩, ⟨some 2, none, .alloc [.n .i64 0, .n .i64 0, .b false], []⟩] [1, 2]) (.seq (.reg [⟨some 3, none, .ld true 3 false, [.tm 1]⟩, ⟨some 4, none, .call 21, [.tm 3]⟩, ⟨none, none, .st 3, [.tm 1, .tm 4]⟩] [1, 2]) (.seq (.reg [⟨some 5, none, .fa 1, [.tm 1]⟩, ⟨some 6, none, .ld false 1 false, [.tm 5]⟩, ⟨some 7, none, .po (.un .neg), [.tm 6]⟩, ⟨some 8, none, .fa 0, [.tm 1]⟩, ⟨some 9, none, .ld false 1 false, [.tm 8]⟩, ⟨some 10, none, .po (.un .neg), [.tm 9]⟩, ⟨some 11, none, .fa 0, [.tm 1]⟩, ⟨none, none, .st 1, [.tm 11, .tm 7]⟩, ⟨some 12, none, .fa 1, [.tm 1]⟩, ⟨none, none, .st 1, [.tm 12, .tm 10]⟩] [1, 2]) (.seq (.reg [⟨some 13, none, .ld true 3 false, [.tm 1]⟩, ⟨none, none, .st 3, [.tm 2, .tm 13]⟩] [2]) .ret))), [.cell 2 true 3]⟩
theorem of36 : Fn1.of Try.prog 36 ⟨false, [], false⟩ [[1, 2], [1, 2], [1, 2], [2]] = some F36 := by kernel_rfl
/-- spyglass/bound.Exact(spyglass/api.Fix) -/
def F24 : Fn1 := ⟨6, .seq (.reg [⟨some 2, none, .alloc [.n .i64 0, .n .i64 0, .b false], []⟩] [0, 2]) (.seq (.reg [⟨some 3, none, .mv, [.tm 0]⟩, ⟨some 4, none, .mv, [.tm 0]⟩, ⟨some 5, none, .call 22, [.tm 3, .tm 4]⟩, ⟨none, none, .st 3, [.tm 2, .tm 5]⟩] [2]) .ret), [.cell 2 true 3]⟩
theorem of24 : Fn1.of Try.prog 24 ⟨false, [], false⟩ [[0, 2], [2]] = some F24 := by kernel_rfl
/-- spyglass/bound.Sub(spyglass/api.Fix) -/
def F35 : Fn1 := ⟨9, .seq (.reg [⟨some 2, none, .box, [.tm 0]⟩, ⟨some 3, none, .box, [.tm 1]⟩, ⟨some 4, none, .alloc [.n .i64 0, .n .i64 0, .b false], []⟩] [2, 3, 4]) (.seq (.dreg [⟨some 5, none, .ld true 3 false, [.tm 2]⟩, ⟨some 6, none, .ld true 3 false, [.tm 3]⟩, ⟨some 7, none, .call 36, [.tm 6]⟩, ⟨some 8, none, .call 34, [.tm 5, .tm 7]⟩, ⟨none, none, .st 3, [.tm 4, .tm 8]⟩] [] [4]) .ret), [.cell 4 true 3]⟩
theorem of35 : Fn1.of Try.prog 35 ⟨false, [], false⟩ [[2, 3, 4], [4]] = some F35 := by kernel_rfl
/-- spyglass/bound.Hull(spyglass/api.Fix) -/
def F44 : Fn1 := ⟨20, .seq (.reg [⟨some 2, none, .box, [.tm 0]⟩, ⟨some 3, none, .box, [.tm 1]⟩, ⟨some 4, none, .alloc [.n .i64 0, .n .i64 0, .b false], []⟩] [2, 3, 4]) (.seq (.seq (.reg [⟨some 5, none, .ld true 3 false, [.tm 2]⟩, ⟨some 6, none, .ld true 3 false, [.tm 3]⟩, ⟨some 7, none, .call 87, [.tm 5, .tm 6]⟩] [2, 3, 4, 7]) (.cond (.tm 7) (.seq (.reg [⟨some 8, none, .call 20, []⟩, ⟨none, none, .st 3, [.tm 4, .tm 8]⟩] [4]) .ret) .skip)) (.seq (.reg [⟨some 9, none, .fa 0, [.tm 2]⟩, ⟨some 10, none, .ld false 1 false, [.tm 9]⟩, ⟨some 11, none, .fa 0, [.tm 3]⟩, ⟨some 12, none, .ld false 1 false, [.tm 11]⟩, ⟨some 13, none, .po .mn, [.tm 10, .tm 12]⟩, ⟨some 14, none, .fa 1, [.tm 2]⟩, ⟨some 15, none, .ld false 1 false, [.tm 14]⟩, ⟨some 16, none, .fa 1, [.tm 3]⟩, ⟨some 17, none, .ld false 1 false, [.tm 16]⟩, ⟨some 18, none, .po .mx, [.tm 15, .tm 17]⟩, ⟨some 19, none, .call 22, [.tm 13, .tm 18]⟩, ⟨none, none, .st 3, [.tm 4, .tm 19]⟩] [4]) .ret)), [.cell 4 true 3]⟩
theorem of44 : Fn1.of Try.prog 44 ⟨false, [], false⟩ [[2, 3, 4], [2, 3, 4, 7], [4], [4]] = some F44 := by kernel_rfl
/-- spyglass/bound.Min(spyglass/api.Fix) -/
def F42 : Fn1 := ⟨20, .seq (.reg [⟨some 2, none, .box, [.tm 0]⟩, ⟨some 3, none, .box, [.tm 1]⟩, ⟨some 4, none, .alloc [.n .i64 0, .n .i64 0, .b false], []⟩] [2, 3, 4]) (.seq (.seq (.reg [⟨some 5, none, .ld true 3 false, [.tm 2]⟩, ⟨some 6, none, .ld true 3 false, [.tm 3]⟩, ⟨some 7, none, .call 87, [.tm 5, .tm 6]⟩] [2, 3, 4, 7]) (.cond (.tm 7) (.seq (.reg [⟨some 8, none, .call 20, []⟩, ⟨none, none, .st 3, [.tm 4, .tm 8]⟩] [4]) .ret) .skip)) (.seq (.reg [⟨some 9, none, .fa 0, [.tm 2]⟩, ⟨some 10, none, .ld false 1 false, [.tm 9]⟩, ⟨some 11, none, .fa 0, [.tm 3]⟩, ⟨some 12, none, .ld false 1 false, [.tm 11]⟩, ⟨some 13, none, .po .mn, [.tm 10, .tm 12]⟩, ⟨some 14, none, .fa 1, [.tm 2]⟩, ⟨some 15, none, .ld false 1 false, [.tm 14]⟩, ⟨some 16, none, .fa 1, [.tm 3]⟩, ⟨some 17, none, .ld false 1 false, [.tm 16]⟩, ⟨some 18, none, .po .mn, [.tm 15, .tm 17]⟩, ⟨some 19, none, .call 22, [.tm 13, .tm 18]⟩, ⟨none, none, .st 3, [.tm 4, .tm 19]⟩] [4]) .ret)), [.cell 4 true 3]⟩
theorem of42 : Fn1.of Try.prog 42 ⟨false, [], false⟩ [[2, 3, 4], [2, 3, 4, 7], [4], [4]] = some F42 := by kernel_rfl
/-- spyglass/bound.Max(spyglass/api.Fix) -/
def F43 : Fn1 := ⟨11, .seq (.reg [⟨some 2, none, .box, [.tm 0]⟩, ⟨some 3, none, .box, [.tm 1]⟩, ⟨some 4, none, .alloc [.n .i64 0, .n .i64 0, .b false], []⟩] [2, 3, 4]) (.seq (.dreg [⟨some 5, none, .ld true 3 false, [.tm 2]⟩, ⟨some 6, none, .call 36, [.tm 5]⟩, ⟨some 7, none, .ld true 3 false, [.tm 3]⟩, ⟨some 8, none, .call 36, [.tm 7]⟩, ⟨some 9, none, .call 42, [.tm 6, .tm 8]⟩, ⟨some 10, none, .call 36, [.tm 9]⟩, ⟨none, none, .st 3, [.tm 4, .tm 10]⟩] [] [4]) .ret), [.cell 4 true 3]⟩
theorem of43 : Fn1.of Try.prog 43 ⟨false, [], false⟩ [[2, 3, 4], [4]] = some F43 := by kernel_rfl
/-- spyglass/bound.Abs(spyglass/api.Fix) -/
def F45 : Fn1 := ⟨28, .seq (.reg [⟨some 1, none, .box, [.tm 0]⟩, ⟨some 2, none, .alloc [.n .i64 0, .n .i64 0, .b false], []⟩] [1, 2]) (.seq (.block 0 (.seq (.reg [⟨some 4, none, .ld true 3 false, [.tm 1]⟩, ⟨some 5, none, .ld true 3 false, [.tm 1]⟩, ⟨some 6, none, .call 87, [.tm 4, .tm 5]⟩, ⟨some 3, none, .mv, [.tm 6]⟩] [1, 2, 3]) (.cond (.tm 3) (.seq (.reg [⟨some 7, none, .call 20, []⟩, ⟨none, none, .st 3, [.tm 2, .tm 7]⟩] [2]) .ret) (.seq (.reg [⟨some 9, none, .fa 0, [.tm 1]⟩, ⟨some 10, none, .ld false 1 false, [.tm 9]⟩, ⟨some 11, none, .po (.bin .lss), [.tm 10, .cn (.n .i64 0)]⟩, ⟨some 12, none, .mv, [.tm 11]⟩, ⟨some 13, some (12, true), .fa 1, [.tm 1]⟩, ⟨some 14, some (12, true), .ld false 1 false, [.tm 13]⟩, ⟨some 15, some (12, true), .po (.bin .gtr), [.tm 14, .cn (.n .i64 0)]⟩, ⟨some 16, none, .pick, [.tm 12, .tm 15, .cn (.b false)]⟩, ⟨some 8, none, .mv, [.tm 16]⟩] [1, 2, 8]) (.cond (.tm 8) (.seq (.reg [⟨some 17, none, .fa 0, [.tm 1]⟩, ⟨some 18, none, .ld false 1 false, [.tm 17]⟩, ⟨some 19, none, .po (.un .neg), [.tm 18]⟩, ⟨some 20, none, .fa 1, [.tm 1]⟩, ⟨some 21, none, .ld false 1 false, [.tm 20]⟩, ⟨some 22, none, .po .mx, [.tm 19, .tm 21]⟩, ⟨some 23, none, .call 22, [.cn (.n .i64 0), .tm 22]⟩, ⟨none, none, .st 3, [.tm 2, .tm 23]⟩] [2]) .ret) .skip))))) (.seq (.dreg [⟨some 24, none, .ld true 3 false, [.tm 1]⟩, ⟨some 25, none, .ld true 3 false, [.tm 1]⟩, ⟨some 26, none, .call 36, [.tm 25]⟩, ⟨some 27, none, .call 43, [.tm 24, .tm 26]⟩, ⟨none, none, .st 3, [.tm 2, .tm 27]⟩] [] [2]) .ret)), [.cell 2 true 3]⟩
theorem of45 : Fn1.of Try.prog 45 ⟨false, [], false⟩ [[1, 2], [1, 2, 3], [2], [1, 2, 8], [2], [2]] = some F45 := by kernel_rfl
theorem sidesFix (lo hi : Int) (u : Bool) : Pure Try.prog 13 [bdV lo hi u] (.tup [zV (bLo (normB lo hi u)), zV (bHi (normB lo hi u)), .b (!bUn (normB lo hi u))]) := by
  have t1 := boundErrFix lo hi u
  rcases bd_cases lo hi u with ⟨h1, h2⟩ | ⟨h1, rfl, h3, h2⟩
  · rw [h1]
    refine Pure.le (r := .tup [.agg [.b false, .sl 0 [] true], .agg [.b false, .sl 0 [] true], .b false]) ?_ (VLes.tup (.cons zNone (.cons zNone (.cons (.refl _) .nil))))
    refine pure_of_wp of13 (Nat.le_of_ble_eq_true rfl) ?_
    refine CallK.mk _ t1 rfl ?_
    rcases h2 with ⟨h2, rfl, rfl, rfl⟩ | h2
    · refine DecK.bne (fun h => absurd h2 h) (fun _ => ?_)
      ((repeat' first | refine DecK.tt ?_ | refine DecK.ff ?_ | refine DecK.beq (fun _ => ?_) (fun _ => ?_) | refine DecK.bne (fun _ => ?_) (fun _ => ?_) | refine DecK.dec (fun _ => ?_) (fun _ => ?_) | refine OptK.mk _ rfl ?_ | refine endV (by rfl) ?_) <;> (try with_reducible rfl))
      rfl
    · refine DecK.bne (fun _ => ?_) (fun h => absurd h h2)
      ((repeat' first | refine DecK.tt ?_ | refine DecK.ff ?_ | refine DecK.beq (fun _ => ?_) (fun _ => ?_) | refine DecK.bne (fun _ => ?_) (fun _ => ?_) | refine DecK.dec (fun _ => ?_) (fun _ => ?_) | refine OptK.mk _ rfl ?_ | refine endV (by rfl) ?_) <;> (try with_reducible rfl))
      rfl
  · rw [h1]
    refine pure_of_wp of13 (Nat.le_of_ble_eq_true rfl) ?_
    refine CallK.mk _ t1 rfl ?_
    refine DecK.bne (fun h => absurd h2 h) (fun _ => ?_)
    unfold bval at h3
    repeat' first | (refine CallK.mk _ (I_ok lo (by omega)) rfl ?_) | (refine CallK.mk _ (I_ok hi (by omega)) rfl ?_) | refine DecK.tt ?_ | refine DecK.ff ?_ | refine DecK.beq (fun _ => ?_) (fun _ => ?_) | refine DecK.bne (fun _ => ?_) (fun _ => ?_) | refine DecK.dec (fun _ => ?_) (fun _ => ?_) | refine OptK.mk _ rfl ?_ | refine endV (by rfl) ?_
    rfl
theorem meetFix (lo hi : Int) (u : Bool) (lo' hi' : Int) (u' : Bool) : Pure Try.prog 41 [bdV lo hi u, bdV lo' hi' u'] (.tup [encB (meetB (normB lo hi u) (normB lo' hi' u')).1, .b (meetB (normB lo hi u) (normB lo' hi' u')).2]) := by
  refine pure_of_wp of41 (Nat.le_of_ble_eq_true rfl) ?_
  refine CallK.mk _ (normFix lo hi u) rfl ?_
  refine CallK.mk _ (normFix lo' hi' u') rfl ?_
  have hx := norm_ok lo hi u
  have hy := norm_ok lo' hi' u'
  generalize normB lo hi u = x at *
  generalize normB lo' hi' u' = y at *
  refine OptK.mk _ rfl ?_
  refine OptK.mk _ rfl ?_
  rcases x with _ | ⟨a, b⟩
  · refine DecK.tt ?_
    ((repeat' first | refine DecK.tt ?_ | refine DecK.ff ?_ | refine DecK.beq (fun _ => ?_) (fun _ => ?_) | refine DecK.bne (fun _ => ?_) (fun _ => ?_) | refine DecK.dec (fun _ => ?_) (fun _ => ?_) | refine OptK.mk _ rfl ?_ | refine endV (by rfl) ?_) <;> (try with_reducible rfl))
    cases y <;> rfl
  refine DecK.ff ?_
  rcases y with _ | ⟨c, d⟩
  · refine DecK.tt ?_
    ((repeat' first | refine DecK.tt ?_ | refine DecK.ff ?_ | refine DecK.beq (fun _ => ?_) (fun _ => ?_) | refine DecK.bne (fun _ => ?_) (fun _ => ?_) | refine DecK.dec (fun _ => ?_) (fun _ => ?_) | refine OptK.mk _ rfl ?_ | refine endV (by rfl) ?_) <;> (try with_reducible rfl))
    rfl
  refine DecK.ff ?_
  have e1 : (if c > a then c else a) = max a c := by omega
  have e2 : (if d < b then d else b) = min b d := by omega
  refine DecK.dec (fun h => ?_) (fun h => ?_)
  · ((repeat' first | refine DecK.tt ?_ | refine DecK.ff ?_ | refine DecK.beq (fun _ => ?_) (fun _ => ?_) | refine DecK.bne (fun _ => ?_) (fun _ => ?_) | refine DecK.dec (fun _ => ?_) (fun _ => ?_) | refine OptK.mk _ rfl ?_ | refine endV (by rfl) ?_) <;> (try with_reducible rfl))
    have h : max a c > min b d := by rw [← e1, ← e2]; exact h
    simp only [meetB]
    rw [if_pos h]; rfl
  · have h : ¬ max a c > min b d := by rw [← e1, ← e2]; exact h
    unfold bdOk bval at hx hy
    simp only at hx hy
    have ho := ofFix (max a c) (min b d)
    rw [mkB_some (by unfold bval; omega)] at ho
    refine CallK.mk _ (ho.args (by rw [← e1, ← e2]; rfl)) rfl ?_
    ((repeat' first | refine DecK.tt ?_ | refine DecK.ff ?_ | refine DecK.beq (fun _ => ?_) (fun _ => ?_) | refine DecK.bne (fun _ => ?_) (fun _ => ?_) | refine DecK.dec (fun _ => ?_) (fun _ => ?_) | refine OptK.mk _ rfl ?_ | refine endV (by rfl) ?_) <;> (try with_reducible rfl))
    simp only [meetB]
    rw [if_neg h]
    rfl
theorem negFix (lo hi : Int) (u : Bool) : Pure Try.prog 36 [bdV lo hi u] (encB (negB (normB lo hi u))) := by
  refine pure_of_wp of36 (Nat.le_of_ble_eq_true rfl) ?_
  refine CallK.mk _ (normFix lo hi u) rfl ?_
  have hx := norm_ok lo hi u
  generalize normB lo hi u = x at *
  rcases x with _ | ⟨a, b⟩
  · ((repeat' first | refine DecK.tt ?_ | refine DecK.ff ?_ | refine DecK.beq (fun _ => ?_) (fun _ => ?_) | refine DecK.bne (fun _ => ?_) (fun _ => ?_) | refine DecK.dec (fun _ => ?_) (fun _ => ?_) | refine OptK.mk _ rfl ?_ | refine endV (by rfl) ?_) <;> (try with_reducible rfl))
    rfl
  · unfold bdOk bval at hx
    simp only at hx
    have w1 : IntKind.i64.wrap (0 - a) = -a := by rw [w64 (by omega)]; omega
    have w2 : IntKind.i64.wrap (0 - b) = -b := by rw [w64 (by omega)]; omega
    ((repeat' first | refine DecK.tt ?_ | refine DecK.ff ?_ | refine DecK.beq (fun _ => ?_) (fun _ => ?_) | refine DecK.bne (fun _ => ?_) (fun _ => ?_) | refine DecK.dec (fun _ => ?_) (fun _ => ?_) | refine OptK.mk _ rfl ?_ | refine endV (by rfl) ?_) <;> (try with_reducible rfl))
    simp only [bLo, bHi, negB, encB, encC, w1, w2]
    rfl
theorem exactFix (v : Int) : Pure Try.prog 24 [.n .i64 v] (encB (mkB v v)) := by
  refine pure_of_wp of24 (Nat.le_of_ble_eq_true rfl) ?_
  refine CallK.mk _ (ofFix v v) rfl ?_
  ((repeat' first | refine DecK.tt ?_ | refine DecK.ff ?_ | refine DecK.beq (fun _ => ?_) (fun _ => ?_) | refine DecK.bne (fun _ => ?_) (fun _ => ?_) | refine DecK.dec (fun _ => ?_) (fun _ => ?_) | refine OptK.mk _ rfl ?_ | refine endV (by rfl) ?_) <;> (try with_reducible rfl))
  rfl
theorem subFix (lo hi : Int) (u : Bool) (lo' hi' : Int) (u' : Bool) : Pure Try.prog 35 [bdV lo hi u, bdV lo' hi' u'] (encB (addB (normB lo hi u) (negB (normB lo' hi' u')))) := by
  refine pure_of_wp of35 (Nat.le_of_ble_eq_true rfl) ?_
  refine CallK.mk _ (negFix lo' hi' u') rfl ?_
  have ha := addFix lo hi u (bLo (negB (normB lo' hi' u'))) (bHi (negB (normB lo' hi' u'))) (bUn (negB (normB lo' hi' u')))
  rw [norm_enc (neg_ok (norm_ok lo' hi' u'))] at ha
  refine CallK.mk _ ha rfl ?_
  ((repeat' first | refine DecK.tt ?_ | refine DecK.ff ?_ | refine DecK.beq (fun _ => ?_) (fun _ => ?_) | refine DecK.bne (fun _ => ?_) (fun _ => ?_) | refine DecK.dec (fun _ => ?_) (fun _ => ?_) | refine OptK.mk _ rfl ?_ | refine endV (by rfl) ?_) <;> (try with_reducible rfl))
  rfl
theorem hullFix (lo hi : Int) (u : Bool) (lo' hi' : Int) (u' : Bool) : Pure Try.prog 44 [bdV lo hi u, bdV lo' hi' u'] (encB (hullB (normB lo hi u) (normB lo' hi' u'))) := by
  refine pure_of_wp of44 (Nat.le_of_ble_eq_true rfl) ?_
  refine CallK.mk _ (vagueFix lo hi u lo' hi' u') rfl ?_
  rcases bd_cases lo hi u with ⟨h1, h2⟩ | ⟨h1, rfl, h3, h2⟩
  · rw [h1]
    refine DecK.tt ?_
    refine CallK.mk _ noneFix rfl ?_
    ((repeat' first | refine DecK.tt ?_ | refine DecK.ff ?_ | refine DecK.beq (fun _ => ?_) (fun _ => ?_) | refine DecK.bne (fun _ => ?_) (fun _ => ?_) | refine DecK.dec (fun _ => ?_) (fun _ => ?_) | refine OptK.mk _ rfl ?_ | refine endV (by rfl) ?_) <;> (try with_reducible rfl))
    rfl
  · rcases bd_cases lo' hi' u' with ⟨g1, g2⟩ | ⟨g1, rfl, g3, g2⟩
    · rw [h1, g1]
      refine DecK.tt ?_
      refine CallK.mk _ noneFix rfl ?_
      ((repeat' first | refine DecK.tt ?_ | refine DecK.ff ?_ | refine DecK.beq (fun _ => ?_) (fun _ => ?_) | refine DecK.bne (fun _ => ?_) (fun _ => ?_) | refine DecK.dec (fun _ => ?_) (fun _ => ?_) | refine OptK.mk _ rfl ?_ | refine endV (by rfl) ?_) <;> (try with_reducible rfl))
      rfl
    · rw [h1, g1]
      refine DecK.ff ?_
      unfold bval at h3 g3
      have e1 : (if lo' < lo then lo' else lo) = min lo lo' := by omega
      have e2 : (if hi' > hi then hi' else hi) = max hi hi' := by omega
      have ho := ofFix (min lo lo') (max hi hi')
      rw [mkB_some (by unfold bval; omega)] at ho
      refine CallK.mk _ (ho.args (by rw [← e1, ← e2])) rfl ?_
      ((repeat' first | refine DecK.tt ?_ | refine DecK.ff ?_ | refine DecK.beq (fun _ => ?_) (fun _ => ?_) | refine DecK.bne (fun _ => ?_) (fun _ => ?_) | refine DecK.dec (fun _ => ?_) (fun _ => ?_) | refine OptK.mk _ rfl ?_ | refine endV (by rfl) ?_) <;> (try with_reducible rfl))
      rfl
theorem minFix (lo hi : Int) (u : Bool) (lo' hi' : Int) (u' : Bool) : Pure Try.prog 42 [bdV lo hi u, bdV lo' hi' u'] (encB (minB (normB lo hi u) (normB lo' hi' u'))) := by
  refine pure_of_wp of42 (Nat.le_of_ble_eq_true rfl) ?_
  refine CallK.mk _ (vagueFix lo hi u lo' hi' u') rfl ?_
  rcases bd_cases lo hi u with ⟨h1, h2⟩ | ⟨h1, rfl, h3, h2⟩
  · rw [h1]
    refine DecK.tt ?_
    refine CallK.mk _ noneFix rfl ?_
    ((repeat' first | refine DecK.tt ?_ | refine DecK.ff ?_ | refine DecK.beq (fun _ => ?_) (fun _ => ?_) | refine DecK.bne (fun _ => ?_) (fun _ => ?_) | refine DecK.dec (fun _ => ?_) (fun _ => ?_) | refine OptK.mk _ rfl ?_ | refine endV (by rfl) ?_) <;> (try with_reducible rfl))
    rfl
  · rcases bd_cases lo' hi' u' with ⟨g1, g2⟩ | ⟨g1, rfl, g3, g2⟩
    · rw [h1, g1]
      refine DecK.tt ?_
      refine CallK.mk _ noneFix rfl ?_
      ((repeat' first | refine DecK.tt ?_ | refine DecK.ff ?_ | refine DecK.beq (fun _ => ?_) (fun _ => ?_) | refine DecK.bne (fun _ => ?_) (fun _ => ?_) | refine DecK.dec (fun _ => ?_) (fun _ => ?_) | refine OptK.mk _ rfl ?_ | refine endV (by rfl) ?_) <;> (try with_reducible rfl))
      rfl
    · rw [h1, g1]
      refine DecK.ff ?_
      unfold bval at h3 g3
      have e1 : (if lo' < lo then lo' else lo) = min lo lo' := by omega
      have e2 : (if hi' < hi then hi' else hi) = min hi hi' := by omega
      have ho := ofFix (min lo lo') (min hi hi')
      rw [mkB_some (by unfold bval; omega)] at ho
      refine CallK.mk _ (ho.args (by rw [← e1, ← e2])) rfl ?_
      ((repeat' first | refine DecK.tt ?_ | refine DecK.ff ?_ | refine DecK.beq (fun _ => ?_) (fun _ => ?_) | refine DecK.bne (fun _ => ?_) (fun _ => ?_) | refine DecK.dec (fun _ => ?_) (fun _ => ?_) | refine OptK.mk _ rfl ?_ | refine endV (by rfl) ?_) <;> (try with_reducible rfl))
      rfl
theorem maxFix (lo hi : Int) (u : Bool) (lo' hi' : Int) (u' : Bool) : Pure Try.prog 43 [bdV lo hi u, bdV lo' hi' u'] (encB (maxB (normB lo hi u) (normB lo' hi' u'))) := by
  refine pure_of_wp of43 (Nat.le_of_ble_eq_true rfl) ?_
  have hx := norm_ok lo hi u
  have hy := norm_ok lo' hi' u'
  have ha := negFix lo hi u
  have hb := negFix lo' hi' u'
  generalize normB lo hi u = x at *
  generalize normB lo' hi' u' = y at *
  refine CallK.mk _ ha rfl ?_
  refine CallK.mk _ hb rfl ?_
  have hm := minFix (bLo (negB x)) (bHi (negB x)) (bUn (negB x)) (bLo (negB y)) (bHi (negB y)) (bUn (negB y))
  rw [norm_enc (neg_ok hx), norm_enc (neg_ok hy)] at hm
  refine CallK.mk _ hm rfl ?_
  have hn := negFix (bLo (minB (negB x) (negB y))) (bHi (minB (negB x) (negB y))) (bUn (minB (negB x) (negB y)))
  rw [norm_enc (min_ok (neg_ok hx) (neg_ok hy)), neg_min] at hn
  refine CallK.mk _ hn rfl ?_
  ((repeat' first | refine DecK.tt ?_ | refine DecK.ff ?_ | refine DecK.beq (fun _ => ?_) (fun _ => ?_) | refine DecK.bne (fun _ => ?_) (fun _ => ?_) | refine DecK.dec (fun _ => ?_) (fun _ => ?_) | refine OptK.mk _ rfl ?_ | refine endV (by rfl) ?_) <;> (try with_reducible rfl))
  rfl
end Go.Proofs.Ytpggblmopgfloaa.Sv
