/- Continued fractions: the walks of Terms and From. No condition. -/
import Derived.Test.YtjeafcngljbdlaaWd
import Derived.Test.YtjeafcngljbdlaaFp
import Derived.Test.YtjeafcngljbdlaaNd
namespace Go.Proofs.Ytjeafcngljbdlaa.Sv
open Go Go.RowKit
set_option linter.unusedVariables false
set_option linter.unusedSimpArgs false
set_option maxRecDepth 100000
/-- live: [0, 1, 12, 13] -/
def L24_0 : SC := .seq (.reg [⟨some 14, none, .po (.bin .lss), [.tm 13, .tm 12]⟩] [0, 1, 12, 13, 14]) (.seq (.cond (.tm 14) .skip (.exit 0)) (.seq (.block 1 (.seq (.reg [⟨some 15, none, .mv, [.tm 13]⟩, ⟨some 5, none, .mv, [.tm 15]⟩] [0, 1, 5, 12, 13]) (.seq (.dreg [⟨some 16, none, .mv, [.tm 0]⟩, ⟨some 17, none, .mv, [.tm 5]⟩, ⟨some 18, none, .ia none 1, [.tm 16, .tm 17]⟩, ⟨some 19, none, .ld false 1 true, [.tm 18]⟩, ⟨some 20, none, .mv, [.tm 1]⟩, ⟨some 21, none, .mv, [.tm 5]⟩, ⟨some 22, none, .ia none 1, [.tm 20, .tm 21]⟩, ⟨some 23, none, .ld false 1 true, [.tm 22]⟩, ⟨some 24, none, .po (.bin .neq), [.tm 19, .tm 23]⟩] [] [0, 1, 12, 13, 24]) (.cond (.tm 24) (.seq (.reg [⟨some 4, none, .mv, [.cn (.b false)]⟩] [4]) .ret) .skip)))) (.reg [⟨some 25, none, .po (.bin .add), [.tm 13, .cn (.n .i64 1)]⟩, ⟨some 13, none, .mv, [.tm 25]⟩] [0, 1, 12, 13])))
/-- slices.Equal(()int64,int64) -/
def F24 : Fn1 := ⟨26, .seq (.reg [⟨some 4, none, .mv, [.cn (.b false)]⟩] [0, 1]) (.seq (.seq (.reg [⟨some 6, none, .mv, [.tm 0]⟩, ⟨some 7, none, .len false, [.tm 6]⟩, ⟨some 8, none, .mv, [.tm 1]⟩, ⟨some 9, none, .len false, [.tm 8]⟩, ⟨some 10, none, .po (.bin .neq), [.tm 7, .tm 9]⟩] [0, 1, 10]) (.cond (.tm 10) (.seq (.reg [⟨some 4, none, .mv, [.cn (.b false)]⟩] [4]) .ret) .skip)) (.seq (.seq (.reg [⟨some 11, none, .mv, [.tm 0]⟩, ⟨some 12, none, .len false, [.tm 11]⟩, ⟨some 13, none, .mv, [.cn (.n .i64 0)]⟩] [0, 1, 12, 13]) (.block 0 (.loop [0, 1, 12, 13] L24_0))) (.seq (.reg [⟨some 4, none, .mv, [.cn (.b true)]⟩] [4]) .ret))), [.tm 4]⟩
theorem of24 : Fn1.of Try.prog 24 ⟨false, [], false⟩ [[0, 1], [0, 1, 10], [4], [0, 1, 12, 13], [0, 1, 12, 13], [0, 1, 12, 13, 14], [0, 1, 5, 12, 13], [0, 1, 12, 13, 24], [4], [0, 1, 12, 13], [4]] = some F24 := by kernel_rfl
/-- live: [5, 6, 7] -/
def L22_0 : SC := .seq (.seq (.reg [⟨some 18, none, .mv, [.tm 7]⟩, ⟨some 19, none, .po (.bin .gtr), [.tm 18, .cn (.n .i64 0)]⟩] [5, 6, 7, 19]) (.cond (.tm 19) .skip (.exit 0))) (.block 1 (.seq (.reg [⟨some 20, none, .mv, [.tm 6]⟩, ⟨some 21, none, .mv, [.tm 7]⟩, ⟨some 22, none, .call 45, [.tm 20, .tm 21]⟩, ⟨some 8, none, .mv, [.tm 22]⟩] [5, 6, 7, 8]) (.seq (.reg [⟨some 23, none, .mv, [.tm 5]⟩, ⟨some 24, none, .mv, [.tm 8]⟩, ⟨some 25, none, .po (.bsl 1 [.n .i64 0] [(0, 1)]), [.tm 24]⟩, ⟨some 26, none, .app 1 8, [.tm 23, .tm 25]⟩, ⟨some 5, none, .mv, [.tm 26]⟩] [5, 6, 7, 8]) (.reg [⟨some 27, none, .mv, [.tm 7]⟩, ⟨some 28, none, .mv, [.tm 6]⟩, ⟨some 29, none, .mv, [.tm 8]⟩, ⟨some 30, none, .mv, [.tm 7]⟩, ⟨some 31, none, .po (.bin .mul), [.tm 29, .tm 30]⟩, ⟨some 32, none, .po (.bin .sub), [.tm 28, .tm 31]⟩, ⟨some 6, none, .mv, [.tm 27]⟩, ⟨some 7, none, .mv, [.tm 32]⟩] [5, 6, 7]))))
/-- spyglass/frac.Terms -/
def F22 : Fn1 := ⟨34, .seq (.reg [⟨some 1, none, .box, [.tm 0]⟩, ⟨some 2, none, .adopt 1, []⟩, ⟨some 3, none, .mv, [.cn (.n .i64 0)]⟩] [1]) (.seq (.seq (.reg [⟨some 9, none, .ld true 2 false, [.tm 1]⟩, ⟨some 10, none, .call 44, [.tm 9]⟩, ⟨some 4, none, .mv, [.tm 10]⟩] [1, 4]) (.seq (.reg [⟨some 11, none, .mv, [.tm 4]⟩, ⟨some 12, none, .po (.bin .neq), [.tm 11, .cn (.n .i64 0)]⟩] [1, 4, 12]) (.cond (.tm 12) (.seq (.reg [⟨some 13, none, .mv, [.tm 4]⟩, ⟨some 2, none, .adopt 1, []⟩, ⟨some 3, none, .mv, [.tm 13]⟩] [2, 3]) .ret) .skip))) (.seq (.reg [⟨some 5, none, .adopt 1, []⟩] [1, 5]) (.seq (.seq (.dreg [⟨some 14, none, .fa 0, [.tm 1]⟩, ⟨some 15, none, .ld false 1 false, [.tm 14]⟩, ⟨some 16, none, .fa 1, [.tm 1]⟩, ⟨some 17, none, .ld false 1 false, [.tm 16]⟩, ⟨some 6, none, .mv, [.tm 15]⟩, ⟨some 7, none, .mv, [.tm 17]⟩] [] [5, 6, 7]) (.block 0 (.loop [5, 6, 7] L22_0))) (.seq (.reg [⟨some 33, none, .mv, [.tm 5]⟩, ⟨some 2, none, .mv, [.tm 33]⟩, ⟨some 3, none, .mv, [.cn (.n .i64 0)]⟩] [2, 3]) .ret)))), [.tm 2, .tm 3]⟩
theorem of22 : Fn1.of Try.prog 22 ⟨true, [], false⟩ [[1], [1, 4], [1, 4, 12], [2, 3], [1, 5], [5, 6, 7], [5, 6, 7], [5, 6, 7, 19], [5, 6, 7, 8], [5, 6, 7, 8], [5, 6, 7], [2, 3]] = some F22 := by kernel_rfl
/-- slices.Backward(()int64,int64) -/
def F48 : Fn1 := ⟨4, .seq (.reg [⟨some 1, none, .box, [.tm 0]⟩, ⟨some 2, none, .mv, [.cn .nilf]⟩] [1]) (.seq (.reg [⟨some 3, none, .po (.mkF (.func 72) 0), [.tm 1]⟩, ⟨some 2, none, .mv, [.tm 3]⟩] [2]) .ret), [.tm 2]⟩
theorem of48 : Fn1.of Try.prog 48 ⟨false, [], false⟩ [[1], [2]] = some F48 := by kernel_rfl
/-- live: [0, 1, 3] -/
def L72_0 : SY := .seq (.seq (.sc (.reg [⟨some 7, none, .mv, [.tm 3]⟩, ⟨some 8, none, .po (.bin .geq), [.tm 7, .cn (.n .i64 0)]⟩] [0, 1, 3, 8])) (.cond (.tm 8) (.sc .skip) (.sc (.exit 0)))) (.seq (.block 1 (.seq (.seq (.sc (.reg [⟨some 11, none, .mv, [.tm 0]⟩, ⟨some 12, none, .mv, [.tm 3]⟩, ⟨some 13, none, .ld false 1 false, [.tm 1]⟩, ⟨some 14, none, .mv, [.tm 3]⟩, ⟨some 15, none, .ia none 1, [.tm 13, .tm 14]⟩, ⟨some 16, none, .ld false 1 true, [.tm 15]⟩] [0, 1, 3, 11, 12, 16])) (.seq (.yield 17 11 [.tm 12, .tm 16]) (.sc (.reg [⟨some 18, none, .po (.un .not), [.tm 17]⟩] [0, 1, 3, 18])))) (.cond (.tm 18) (.sc .ret) (.sc .skip)))) (.sc (.reg [⟨some 9, none, .mv, [.tm 3]⟩, ⟨some 10, none, .po (.bin .sub), [.tm 9, .cn (.n .i64 1)]⟩, ⟨some 3, none, .mv, [.tm 10]⟩] [0, 1, 3])))
/-- slices.Backward(()int64,int64)$1 -/
def F72 : FnY := ⟨19, .seq (.sc (.reg [⟨some 4, none, .ld false 1 false, [.tm 1]⟩, ⟨some 5, none, .len false, [.tm 4]⟩, ⟨some 6, none, .po (.bin .sub), [.tm 5, .cn (.n .i64 1)]⟩, ⟨some 3, none, .mv, [.tm 6]⟩] [0, 1, 3])) (.block 0 (.loop [0, 1, 3] L72_0))⟩
theorem of72 : FnY.of Try.prog 72 ⟨false, [], false⟩ [[0, 1, 3], [0, 1, 3], [0, 1, 3, 8], [0, 1, 3, 11, 12, 16], [0, 1, 3, 18], [0, 1, 3]] = some F72 := by kernel_rfl
/-- live: [0, 2, 3, 16, 17, 18] -/
def L25_0 : SC := .seq (.reg [⟨some 19, none, .po (.bin .lss), [.tm 18, .tm 17]⟩] [0, 2, 3, 16, 17, 18, 19]) (.seq (.cond (.tm 19) .skip (.exit 0)) (.seq (.block 1 (.seq (.reg [⟨some 20, none, .mv, [.tm 18]⟩, ⟨some 21, none, .ia none 1, [.tm 16, .tm 18]⟩, ⟨some 22, none, .ld false 1 true, [.tm 21]⟩, ⟨some 4, none, .mv, [.tm 20]⟩, ⟨some 5, none, .mv, [.tm 22]⟩] [0, 2, 3, 4, 5, 16, 17, 18]) (.seq (.reg [⟨some 23, none, .mv, [.tm 5]⟩, ⟨some 24, none, .po (.bin .gtr), [.tm 23, .cn (.n .i64 1152921504606846976)]⟩, ⟨some 25, none, .mv, [.tm 24]⟩, ⟨some 26, some (25, false), .mv, [.tm 5]⟩, ⟨some 27, some (25, false), .po (.bin .lss), [.tm 26, .cn (.n .i64 (-1152921504606846976))]⟩, ⟨some 28, none, .pick, [.tm 25, .cn (.b true), .tm 27]⟩, ⟨some 29, none, .mv, [.tm 28]⟩, ⟨some 30, some (29, false), .mv, [.tm 4]⟩, ⟨some 31, some (29, false), .po (.bin .gtr), [.tm 30, .cn (.n .i64 0)]⟩, ⟨some 32, some (29, false), .mv, [.tm 31]⟩, ⟨some 33, some (32, true), .mv, [.tm 5]⟩, ⟨some 34, some (32, true), .po (.bin .lss), [.tm 33, .cn (.n .i64 1)]⟩, ⟨some 35, some (29, false), .pick, [.tm 32, .tm 34, .cn (.b false)]⟩, ⟨some 36, none, .pick, [.tm 29, .cn (.b true), .tm 35]⟩] [0, 2, 3, 16, 17, 18, 36]) (.cond (.tm 36) (.seq (.reg [⟨some 37, none, .po (.build [.n .i64 0, .n .i64 0] []), []⟩, ⟨none, none, .st 2, [.tm 2, .tm 37]⟩, ⟨none, none, .st 1, [.tm 3, .cn (.n .i64 4)]⟩] [2, 3]) .ret) .skip)))) (.reg [⟨some 38, none, .po (.bin .add), [.tm 18, .cn (.n .i64 1)]⟩, ⟨some 18, none, .mv, [.tm 38]⟩] [0, 2, 3, 16, 17, 18])))
/-- live: [2, 3, 7] -/
def I25_0a : SC := .reg [⟨some 9, none, .mv, [.tm 62]⟩] [2, 3, 7, 9]
def I25_0b : SC := .block 3 (.seq (.reg [⟨some 64, none, .mv, [.tm 9]⟩, ⟨some 65, none, .po (.build [.n .i64 0, .n .i64 0] [(0, 1), (1, 1)]), [.tm 64, .cn (.n .i64 1)]⟩, ⟨some 66, none, .fa 1, [.tm 7]⟩, ⟨some 67, none, .ld false 1 false, [.tm 66]⟩, ⟨some 68, none, .fa 0, [.tm 7]⟩, ⟨some 69, none, .ld false 1 false, [.tm 68]⟩, ⟨some 70, none, .po (.build [.n .i64 0, .n .i64 0] [(0, 1), (1, 1)]), [.tm 67, .tm 69]⟩, ⟨some 71, none, .call 46, [.tm 65, .tm 70]⟩, ⟨some 63, none, .mv, [.tm 71]⟩, ⟨some 72, none, .po (.ext 0), [.tm 63]⟩, ⟨some 73, none, .po (.ext 1), [.tm 63]⟩, ⟨some 10, none, .alloc [.n .i64 0, .n .i64 0], []⟩, ⟨none, none, .st 2, [.tm 10, .tm 72]⟩, ⟨some 11, none, .mv, [.tm 73]⟩] [2, 3, 7, 10, 11]) (.seq (.seq (.reg [⟨some 74, none, .mv, [.tm 11]⟩, ⟨some 75, none, .po (.bin .neq), [.tm 74, .cn (.n .i64 0)]⟩] [2, 3, 7, 10, 11, 75]) (.cond (.tm 75) (.seq (.reg [⟨some 76, none, .po (.build [.n .i64 0, .n .i64 0] []), []⟩, ⟨some 77, none, .mv, [.tm 11]⟩, ⟨none, none, .st 2, [.tm 2, .tm 76]⟩, ⟨none, none, .st 1, [.tm 3, .tm 77]⟩] [2, 3, 7]) .ret) .skip)) (.reg [⟨some 78, none, .ld true 2 false, [.tm 10]⟩, ⟨none, none, .st 2, [.tm 7, .tm 78]⟩] [2, 3, 7])))
/-- spyglass/frac.From -/
def F25 : Fn1 := ⟨80, .seq (.reg [⟨some 2, none, .alloc [.n .i64 0, .n .i64 0], []⟩, ⟨some 3, none, .alloc [.n .i64 0], []⟩] [0, 2, 3]) (.seq (.seq (.reg [⟨some 12, none, .mv, [.tm 0]⟩, ⟨some 13, none, .len false, [.tm 12]⟩, ⟨some 14, none, .po (.bin .eql), [.tm 13, .cn (.n .i64 0)]⟩] [0, 2, 3, 14]) (.cond (.tm 14) (.seq (.reg [⟨some 15, none, .po (.build [.n .i64 0, .n .i64 0] []), []⟩, ⟨none, none, .st 2, [.tm 2, .tm 15]⟩, ⟨none, none, .st 1, [.tm 3, .cn (.n .i64 8)]⟩] [2, 3]) .ret) .skip)) (.seq (.seq (.reg [⟨some 16, none, .mv, [.tm 0]⟩, ⟨some 17, none, .len false, [.tm 16]⟩, ⟨some 18, none, .mv, [.cn (.n .i64 0)]⟩] [0, 2, 3, 16, 17, 18]) (.block 0 (.loop [0, 2, 3, 16, 17, 18] L25_0))) (.seq (.reg [⟨some 39, none, .mv, [.tm 0]⟩, ⟨some 40, none, .len false, [.tm 39]⟩, ⟨some 41, none, .po (.bin .sub), [.tm 40, .cn (.n .i64 1)]⟩, ⟨some 6, none, .mv, [.tm 41]⟩] [0, 2, 3, 6]) (.seq (.seq (.reg [⟨some 42, none, .mv, [.tm 6]⟩, ⟨some 43, none, .po (.bin .gtr), [.tm 42, .cn (.n .i64 0)]⟩, ⟨some 44, none, .mv, [.tm 43]⟩, ⟨some 45, some (44, true), .mv, [.tm 0]⟩, ⟨some 46, some (44, true), .mv, [.tm 6]⟩, ⟨some 47, some (44, true), .ia none 1, [.tm 45, .tm 46]⟩, ⟨some 48, some (44, true), .ld false 1 true, [.tm 47]⟩, ⟨some 49, some (44, true), .po (.bin .eql), [.tm 48, .cn (.n .i64 1)]⟩, ⟨some 50, none, .pick, [.tm 44, .tm 49, .cn (.b false)]⟩] [0, 2, 3, 6, 50]) (.cond (.tm 50) (.seq (.reg [⟨some 51, none, .po (.build [.n .i64 0, .n .i64 0] []), []⟩, ⟨none, none, .st 2, [.tm 2, .tm 51]⟩, ⟨none, none, .st 1, [.tm 3, .cn (.n .i64 3)]⟩] [2, 3]) .ret) .skip)) (.seq (.reg [⟨some 52, none, .mv, [.tm 0]⟩, ⟨some 53, none, .mv, [.tm 6]⟩, ⟨some 54, none, .ia none 1, [.tm 52, .tm 53]⟩, ⟨some 55, none, .ld false 1 true, [.tm 54]⟩, ⟨some 56, none, .po (.build [.n .i64 0, .n .i64 0] [(0, 1), (1, 1)]), [.tm 55, .cn (.n .i64 1)]⟩, ⟨some 7, none, .alloc [.n .i64 0, .n .i64 0], []⟩, ⟨none, none, .st 2, [.tm 7, .tm 56]⟩] [0, 2, 3, 6, 7]) (.seq (.seq (.reg [⟨some 57, none, .mv, [.tm 0]⟩, ⟨some 58, none, .mv, [.tm 6]⟩, ⟨some 59, none, .sl false 1 false true false, [.tm 57, .tm 58]⟩, ⟨some 60, none, .call 48, [.tm 59]⟩] [2, 3, 7, 60]) (.block 2 (.iter [2, 3, 7] (.tm 60) [61, 62] I25_0a I25_0b))) (.seq (.reg [⟨some 79, none, .ld true 2 false, [.tm 7]⟩, ⟨none, none, .st 2, [.tm 2, .tm 79]⟩, ⟨none, none, .st 1, [.tm 3, .cn (.n .i64 0)]⟩] [2, 3]) .ret))))))), [.cell 2 true 2, .cell 3 false 1]⟩
theorem of25 : Fn1.ofG Try.prog 25 ⟨false, [], false⟩ [[0, 2, 3], [0, 2, 3, 14], [2, 3], [0, 2, 3, 16, 17, 18], [0, 2, 3, 16, 17, 18], [0, 2, 3, 16, 17, 18, 19], [0, 2, 3, 4, 5, 16, 17, 18], [0, 2, 3, 16, 17, 18, 36], [2, 3], [0, 2, 3, 16, 17, 18], [0, 2, 3, 6], [0, 2, 3, 6, 50], [2, 3], [0, 2, 3, 6, 7], [2, 3, 7, 60], [2, 3, 7], [2, 3, 7, 9], [2, 3, 7, 10, 11], [2, 3, 7, 10, 11, 75], [2, 3, 7], [2, 3, 7], [2, 3]] = some F25 := by kernel_rfl
theorem at_ex'' {l : List Int} {k : Nat} (h : k < l.length) : ∃ x, l[k]? = some x ∧ l.drop k = x :: l.drop (k + 1) ∧ x ∈ l := ⟨l[k], List.getElem?_eq_getElem h, List.drop_eq_getElem_cons h, List.getElem_mem h⟩
theorem eqI_ok (a b : List Int) (ha : a.length ≤ 9000000000000000000) : Pure Try.prog 24 [intsV a, intsV b] (.b (decide (a = b))) := by
  refine pure_of_wp of24 (Nat.le_of_ble_eq_true rfl) ?_
  refine DecK.bne (fun h => ?_) (fun h => ?_)
  · ((repeat' first | refine DecK.tt ?_ | refine DecK.ff ?_ | refine DecK.beq (fun _ => ?_) (fun _ => ?_) | refine DecK.bne (fun _ => ?_) (fun _ => ?_) | refine DecK.dec (fun _ => ?_) (fun _ => ?_) | refine OptK.mk _ rfl ?_ | refine endV (by rfl) ?_) <;> (try with_reducible rfl))
    rw [decide_eq_false (fun e => h (by rw [e]))]
  have hl : a.length = b.length := by omega
  refine loop_ind (fun (i : Int) => ⟨[(0, .v (intsV a)), (1, .v (intsV b)), (12, .v (.n .i64 a.length)), (13, .v (.n .i64 i))], []⟩) (fun i => a.length - i.toNat)
    (fun i => 0 ≤ i ∧ i ≤ a.length ∧ a.take i.toNat = b.take i.toNat) 0 (by simp) ?_
  intro iz ⟨h1, h2, h3⟩ ih
  obtain ⟨i, rfl⟩ : ∃ i : Nat, iz = i := ⟨iz.toNat, by omega⟩
  simp only [Int.toNat_natCast] at h3
  refine DecK.dec (fun h => ?_) (fun h => ?_)
  · obtain ⟨x, hx, _, _⟩ := at_ex'' (l := a) (k := i) (by omega)
    obtain ⟨y, hy, _, _⟩ := at_ex'' (l := b) (k := i) (by omega)
    have wi : IntKind.i64.wrap ((i : Int) + 1) = ((i + 1 : Nat) : Int) := by simp (discharger := omega) only [w64, wu64, wu8, w32, wu32, tdivC, tmodC]; omega
    refine OptK.mk _ (ria i rfl (by omega)) ?_
    refine OptK.mk _ (rld1 (g := fun x => .n .i64 x) hx) ?_
    refine OptK.mk _ (ria i rfl (by omega)) ?_
    refine OptK.mk _ (rld1 (g := fun x => .n .i64 x) hy) ?_
    refine DecK.bne (fun e => ?_) (fun e => ?_)
    · ((repeat' first | refine DecK.tt ?_ | refine DecK.ff ?_ | refine DecK.beq (fun _ => ?_) (fun _ => ?_) | refine DecK.bne (fun _ => ?_) (fun _ => ?_) | refine DecK.dec (fun _ => ?_) (fun _ => ?_) | refine OptK.mk _ rfl ?_ | refine endV (by rfl) ?_) <;> (try with_reducible rfl))
      rw [decide_eq_false]
      rintro rfl
      rw [hx] at hy
      exact e (Option.some.inj hy)
    · refine ih _ ⟨?_, ?_, ?_⟩ ?_
      all_goals try simp only [wi, Int.toNat_natCast]
      · omega
      · omega
      · rw [List.take_add_one, List.take_add_one, h3, hx, hy, e]
      · omega
  · ((repeat' first | refine DecK.tt ?_ | refine DecK.ff ?_ | refine DecK.beq (fun _ => ?_) (fun _ => ?_) | refine DecK.bne (fun _ => ?_) (fun _ => ?_) | refine DecK.dec (fun _ => ?_) (fun _ => ?_) | refine OptK.mk _ rfl ?_ | refine endV (by rfl) ?_) <;> (try with_reducible rfl))
    rw [List.take_of_length_le (by omega), List.take_of_length_le (by omega)] at h3
    rw [decide_eq_true h3]
theorem terms_ok (n d : Int) (hn : fits n) (hd : fits d) : Pure Try.prog 22 [fracV n d] (.tup [intsV (if frErr n d = 0 then cf n d else []), .n .i64 (frErr n d)]) := by
  refine pure_of_wp of22 (Nat.le_of_ble_eq_true rfl) ?_
  refine CallK.mk _ (frCheck_ok n d hn hd) rfl ?_
  refine DecK.bne (fun h => ?_) (fun h => ?_)
  · ((repeat' first | refine DecK.tt ?_ | refine DecK.ff ?_ | refine DecK.beq (fun _ => ?_) (fun _ => ?_) | refine DecK.bne (fun _ => ?_) (fun _ => ?_) | refine DecK.dec (fun _ => ?_) (fun _ => ?_) | refine OptK.mk _ rfl ?_ | refine endV (by rfl) ?_) <;> (try with_reducible rfl))
    rw [if_neg h]
    rfl
  obtain ⟨bn, bd, _⟩ := frErr_0 h
  have hcl := cf_len 61 n d (by omega)
  rw [h, if_pos rfl]
  refine loop_ind3 (fun (o : List Int) (a b : Int) => ⟨[(5, .own 5 1 0 o.length), (6, .v (.n .i64 a)), (7, .v (.n .i64 b))], [(5, o.flatMap ni)]⟩) (fun o a b => b.toNat)
    (fun o a b => o ++ cf a b = cf n d ∧ -1152921504606846976 ≤ a ∧ a ≤ 1152921504606846976 ∧ 0 ≤ b ∧ b ≤ 1152921504606846976) [] n d (by simp; omega) ?_
  intro o a b ⟨h1, h2, h3, h4, h5⟩ ih
  refine DecK.dec (fun g => ?_) (fun g => ?_)
  · have k1 := floorDiv_ok a b (by unfold fits; omega) (by unfold fits; omega)
    rw [if_neg (by omega)] at k1
    refine CallK.mk _ k1 rfl ?_
    rw [cf_pos g] at h1
    have hol : o.length ≤ 122 := by
      have := congrArg List.length h1
      simp only [List.length_append] at this
      omega
    refine OptK.mk _ (own_app (f := ni) hz_ni rfl rfl (by omega)) ?_
    have e1 := Int.emod_add_mul_ediv a b
    have e2 := Int.emod_lt_of_pos a g
    have e3 := Int.emod_nonneg a (show b ≠ 0 by omega)
    have e4 : IntKind.i64.wrap (a - IntKind.i64.wrap (a / b * b)) = a % b := by
      rw [Int.mul_comm] at e1
      simp (discharger := omega) only [w64, wu64, wu8, w32, wu32, tdivC, tmodC]
      omega
    refine ih _ _ _ ⟨?_, ?_, ?_, ?_, ?_⟩ ?_
    all_goals try rw [e4]
    · rw [← h1]; simp
    all_goals omega
  · rw [cf_zero g, List.append_nil] at h1
    subst h1
    ((repeat' first | refine DecK.tt ?_ | refine DecK.ff ?_ | refine DecK.beq (fun _ => ?_) (fun _ => ?_) | refine DecK.bne (fun _ => ?_) (fun _ => ?_) | refine DecK.dec (fun _ => ?_) (fun _ => ?_) | refine OptK.mk _ rfl ?_ | refine endV (by rfl) ?_) <;> (try with_reducible rfl))
    simp only [snapRow hz_ni]
/-- The elements from the last one on, with their places. -/
def bwI (l : List Int) : List (List V) := (List.range l.length).map fun (k : Nat) => [.n .i64 ((l.length : Int) - 1 - (k : Int)), .n .i64 (l.getD (l.length - 1 - k) 0)]
theorem bwI_len (l : List Int) : (bwI l).length = l.length := by simp [bwI]
theorem bwI_at {l : List Int} {k : Nat} (h : k < l.length) : (bwI l)[k]? = some [.n .i64 ((l.length : Int) - 1 - k), .n .i64 (l.getD (l.length - 1 - k) 0)] := by simp [bwI, h]
theorem backI_iter (l : List Int) (t : Bool) (hl : l.length ≤ 9000000000000000000) : IterOk Try.prog 72 [.ip [.sl l.length (l.flatMap ni) t]] (bwI l) := by
  refine iter_of_wp of72 (Nat.le_of_ble_eq_true rfl) fun y => ?_
  rw [bwI_len]
  refine OptK.mk _ rfl ?_
  refine loopY_ind (fun (p : Nat × Int) => some p.1) (fun p => ⟨[(0, .v (.clo (.yield y) [] [])), (1, .v (.ip [.sl l.length (l.flatMap ni) t])), (3, .v (.n .i64 p.2))], []⟩) (fun p => l.length - p.1)
    (fun p => p.1 ≤ l.length ∧ p.2 = (l.length : Int) - 1 - p.1) (0, IntKind.i64.wrap ((l.length : Int) - 1)) ⟨by simp, by show IntKind.i64.wrap ((l.length : Int) - 1) = (l.length : Int) - 1 - ((0 : Nat) : Int); simp (discharger := omega) only [w64, wu64, wu8, w32, wu32, tdivC, tmodC]; omega⟩ ?_
  rintro ⟨k, i⟩ ⟨h1, h2⟩ ih
  simp only at h1 h2 ⊢
  refine DecK.dec (fun g => ?_) (fun g => ?_)
  · have hk : k < l.length := by omega
    have hi : i = ((l.length - 1 - k : Nat) : Int) := by omega
    obtain ⟨x, hx, _, _⟩ := at_ex'' (l := l) (k := l.length - 1 - k) (by omega)
    refine OptK.mk _ rfl ?_
    refine OptK.mk _ (ria (l.length - 1 - k) hi (by omega)) ?_
    refine OptK.mk _ (rld1 (g := fun x => .n .i64 x) hx) ?_
    refine YieldK.mk _ rfl rfl (by rw [bwI_at hk, List.getD_eq_getElem?_getD, hx, h2]; rfl) ?_ ?_
    · refine DecK.ff ?_
      refine ih (k + 1, IntKind.i64.wrap (i - 1)) ⟨?_, ?_⟩ ?_
      · show k + 1 ≤ l.length; omega
      · show IntKind.i64.wrap (i - 1) = (l.length : Int) - 1 - ((k + 1 : Nat) : Int); simp (discharger := omega) only [w64, wu64, wu8, w32, wu32, tdivC, tmodC]; omega
      · show l.length - (k + 1) < l.length - k; omega
    · refine DecK.tt ?_
      exact .inr rfl
  · exact .inl (by congr 1; omega)
theorem backI_ok (l : List Int) (t : Bool) : Pure Try.prog 48 [.sl l.length (l.flatMap ni) t] (.clo (.func 72) [] [.ip [.sl l.length (l.flatMap ni) t]]) := by
  refine pure_of_wp of48 (Nat.le_of_ble_eq_true rfl) ?_
  ((repeat' first | refine DecK.tt ?_ | refine DecK.ff ?_ | refine DecK.beq (fun _ => ?_) (fun _ => ?_) | refine DecK.bne (fun _ => ?_) (fun _ => ?_) | refine DecK.dec (fun _ => ?_) (fun _ => ?_) | refine OptK.mk _ rfl ?_ | refine endV (by rfl) ?_) <;> (try with_reducible rfl))
  rfl
theorem bwI_two (l : List Int) : ∀ x ∈ bwI l, x.length = 2 := fun x hx => by
  unfold bwI at hx
  obtain ⟨k, _, rfl⟩ := List.mem_map.1 hx
  rfl
theorem frErr_1 {t : Int} (h : -1152921504606846976 ≤ t ∧ t ≤ 1152921504606846976) : frErr t 1 = 0 := by
  unfold frErr
  rw [if_neg (by unfold frOut; omega), if_neg (by simp)]
theorem frErr_c {a b : Int} (h : 0 ≤ a ∧ a ≤ b ∧ 1 ≤ b ∧ b ≤ 1152921504606846976) (hg : Int.gcd b a = 1) : frErr a b = 0 := by
  unfold frErr
  rw [if_neg (by unfold frOut; omega), Int.gcd_comm, hg, if_neg (by simp)]
theorem lowT_cont (l : List Int) : lowT (cont l).1 (cont l).2 = fromT l := lowT_made (by rw [cont_gcd]; simp) (by rw [cont_gcd]; simp)
/-- The terms are fine. -/
structure Fine (l : List Int) : Prop where
  ne : 1 ≤ l.length
  all : ∀ t ∈ l, -1152921504606846976 ≤ t ∧ t ≤ 1152921504606846976
  pos : ∀ t ∈ l.drop 1, 1 ≤ t
theorem Fine.bad {l : List Int} (h : Fine l) : termsBad l = if 1 < l.length ∧ l.getLast? = some 1 then 3 else 0 := by
  unfold termsBad
  have h1 := h.ne
  rw [if_neg (by rintro rfl; simp at h1), if_neg ?_]
  rintro (⟨t, h2, h3⟩ | ⟨t, h2, h3⟩)
  · have := h.all t (List.mem_of_getElem? h2); unfold M60 at h3; omega
  · have := h.all t (List.mem_of_mem_drop h2); have := h.pos t h2; unfold M60 at h3; omega
theorem bad_4 {l : List Int} {i : Nat} {x : Int} (h : l[i]? = some x) (hx : x > 1152921504606846976 ∨ x < -1152921504606846976 ∨ 1 ≤ i ∧ x < 1) : termsBad l = 4 := by
  unfold termsBad
  rw [if_neg (by rintro rfl; simp at h), if_pos ?_]
  by_cases hi : i = 0
  · subst hi; exact .inl ⟨x, h, by unfold M60; omega⟩
  · refine .inr ⟨x, ?_, by unfold M60; omega⟩
    have : (l.drop 1)[i - 1]? = some x := by rw [List.getElem?_drop, show 1 + (i - 1) = i by omega]; exact h
    exact List.mem_of_getElem? this
theorem fine_of {l : List Int} (h1 : 1 ≤ l.length) (h : ∀ j x, l[j]? = some x → -1152921504606846976 ≤ x ∧ x ≤ 1152921504606846976 ∧ (1 ≤ j → 1 ≤ x)) : Fine l := by
  refine ⟨h1, fun t ht => ?_, fun t ht => ?_⟩
  · obtain ⟨j, hj⟩ := List.mem_iff_getElem?.1 ht
    have := h j t hj; omega
  · obtain ⟨j, hj⟩ := List.mem_iff_getElem?.1 ht
    rw [List.getElem?_drop] at hj
    have := h _ t hj; omega
theorem last_at {l : List Int} (h : 1 ≤ l.length) : ∃ x, l[l.length - 1]? = some x ∧ l.getLast? = some x ∧ l.drop (l.length - 1) = [x] := by
  have h2 : l[l.length - 1]? = some l[l.length - 1] := List.getElem?_eq_getElem (by omega)
  refine ⟨_, h2, by rw [List.getLast?_eq_getElem?, h2], ?_⟩
  rw [List.drop_eq_getElem_cons (by omega), List.drop_eq_nil_of_le (by omega)]
set_option maxHeartbeats 1000000 in
theorem from_ok (l : List Int) (hl : l.length ≤ 9000000000000000000) : Pure Try.prog 25 [intsV l] (if termsBad l = 0 then fromT l else .tup [fracV 0 0, .n .i64 (termsBad l)]) := by
  refine pure_of_wpG of25 (Nat.le_of_ble_eq_true rfl) ?_
  refine DecK.beq (fun h => ?_) (fun h => ?_)
  · have h0 : l = [] := List.eq_nil_of_length_eq_zero (by omega)
    subst h0
    ((repeat' first | refine DecK.tt ?_ | refine DecK.ff ?_ | refine DecK.beq (fun _ => ?_) (fun _ => ?_) | refine DecK.bne (fun _ => ?_) (fun _ => ?_) | refine DecK.dec (fun _ => ?_) (fun _ => ?_) | refine OptK.mk _ rfl ?_ | refine endV (by rfl) ?_) <;> (try with_reducible rfl))
    rfl
  have hb : ∀ x, termsBad l = x → x ≠ 0 → (if termsBad l = 0 then fromT l else .tup [fracV 0 0, .n .i64 (termsBad l)]) = .tup [fracV 0 0, .n .i64 x] := fun x h1 h2 => by rw [h1, if_neg h2]
  generalize hr : (if termsBad l = 0 then fromT l else .tup [fracV 0 0, .n .i64 (termsBad l)]) = r at hb
  refine loop_ind (fun (i : Int) => ⟨[(0, .v (intsV l)), (2, .ref 2 0), (3, .ref 3 0), (16, .v (intsV l)), (17, .v (.n .i64 l.length)), (18, .v (.n .i64 i))], [(3, [.n .i64 0]), (2, [.n .i64 0, .n .i64 0])]⟩) (fun i => l.length - i.toNat)
    (fun i => 0 ≤ i ∧ i ≤ l.length ∧ ∀ (j : Nat) x, j < i.toNat → l[j]? = some x → -1152921504606846976 ≤ x ∧ x ≤ 1152921504606846976 ∧ (1 ≤ j → 1 ≤ x)) 0 ⟨by omega, by omega, fun j x h => by simp at h⟩ ?_
  intro iz ⟨h1, h2, h3⟩ ih
  obtain ⟨i, rfl⟩ : ∃ i : Nat, iz = i := ⟨iz.toNat, by omega⟩
  simp only [Int.toNat_natCast] at h3
  refine DecK.dec (fun g => ?_) (fun g => ?_)
  · obtain ⟨x, hx, _, _⟩ := at_ex'' (l := l) (k := i) (by omega)
    refine OptK.mk _ (ria i rfl (by omega)) ?_
    refine OptK.mk _ (rld1 (g := fun x => .n .i64 x) hx) ?_
    have bad : x > 1152921504606846976 ∨ x < -1152921504606846976 ∨ 1 ≤ i ∧ x < 1 → r = .tup [fracV 0 0, .n .i64 4] := fun hx' => by
      have := hb 4 (bad_4 hx hx') (by decide)
      exact this
    have nx : (-1152921504606846976 ≤ x ∧ x ≤ 1152921504606846976 ∧ (1 ≤ i → 1 ≤ x)) → ∀ (j : Nat) y, j < i + 1 → l[j]? = some y → -1152921504606846976 ≤ y ∧ y ≤ 1152921504606846976 ∧ (1 ≤ j → 1 ≤ y) := fun hx' j y hj hy => by
      by_cases e : j = i
      · subst e; rw [hx] at hy; cases hy; exact hx'
      · exact h3 j y (by omega) hy
    have wi : IntKind.i64.wrap ((i : Int) + 1) = ((i + 1 : Nat) : Int) := by simp (discharger := omega) only [w64, wu64, wu8, w32, wu32, tdivC, tmodC]; omega
    have fin : r = .tup [fracV 0 0, .n .i64 4] → endQ F25.rs r .ret ⟨[(2, .ref 2 0), (3, .ref 3 0)], [(3, [.n .i64 4]), (2, [.n .i64 0, .n .i64 0])]⟩ := fun e => by rw [e]; rfl
    refine DecK.dec (fun g1 => ?_) (fun g1 => ?_)
    · (repeat' first | refine DecK.tt ?_ | refine DecK.ff ?_ | refine OptK.mk _ rfl ?_)
      exact fin (bad (.inl g1))
    refine DecK.dec (fun g2 => ?_) (fun g2 => ?_)
    · (repeat' first | refine DecK.tt ?_ | refine DecK.ff ?_ | refine OptK.mk _ rfl ?_)
      exact fin (bad (.inr (.inl g2)))
    refine DecK.dec (fun g3 => ?_) (fun g3 => ?_)
    · refine DecK.dec (fun g4 => ?_) (fun g4 => ?_)
      · (repeat' first | refine DecK.tt ?_ | refine DecK.ff ?_ | refine OptK.mk _ rfl ?_)
        exact fin (bad (.inr (.inr ⟨by omega, g4⟩)))
      · refine ih _ ⟨?_, ?_, ?_⟩ ?_
        all_goals try simp only [wi, Int.toNat_natCast]
        · omega
        · omega
        · exact nx ⟨by omega, by omega, fun _ => by omega⟩
        · omega
    · refine DecK.ff ?_
      refine ih _ ⟨?_, ?_, ?_⟩ ?_
      all_goals try simp only [wi, Int.toNat_natCast]
      · omega
      · omega
      · exact nx ⟨by omega, by omega, fun _ => by omega⟩
      · omega
  · have hfine : Fine l := fine_of (by omega) fun j x hj => h3 j x (by have := (List.getElem?_eq_some_iff.1 hj).1; omega) hj
    obtain ⟨z, hz, hz2, hz3⟩ := last_at hfine.ne
    have hbad := hfine.bad
    rw [hz2] at hbad
    have wl : IntKind.i64.wrap ((l.length : Int) - 1) = ((l.length - 1 : Nat) : Int) := by simp (discharger := omega) only [w64, wu64, wu8, w32, wu32, tdivC, tmodC]; omega
    have last : (1 < l.length ∧ z = 1) → endQ F25.rs r .ret ⟨[(2, .ref 2 0), (3, .ref 3 0)], [(3, [.n .i64 3]), (2, [.n .i64 0, .n .i64 0])]⟩ := fun e => by
      rw [hb 3 (by rw [hbad, if_pos ⟨e.1, by rw [e.2]⟩]) (by decide)]; rfl
    have good : ¬ (1 < l.length ∧ z = 1) → r = fromT l := fun e => by
      rw [if_neg (fun h => e ⟨h.1, Option.some.inj h.2⟩)] at hbad
      rw [← hr, if_pos hbad]
    generalize hm : (l.length - 1 : Nat) = m at *
    have hsp : ∀ i, i < m → ∃ t, l.drop i = t :: l.drop (i + 1) ∧ (l.take m).getD i 0 = t ∧ (-1152921504606846976 ≤ t ∧ t ≤ 1152921504606846976) ∧ ∀ x ∈ l.drop (i + 1), 1 ≤ x := fun i hi => by
      have hi' : i < l.length := by omega
      refine ⟨l[i], List.drop_eq_getElem_cons hi', ?_, hfine.all _ (List.getElem_mem hi'), fun x hx => hfine.pos x ?_⟩
      · rw [List.getD_eq_getElem?_getD, List.getElem?_take, if_pos hi, List.getElem?_eq_getElem hi']; rfl
      · rw [show i + 1 = 1 + i by omega, ← List.drop_drop] at hx
        exact List.mem_of_mem_drop hx
    have htl : (l.take m).length = m := by rw [List.length_take]; omega
    refine DecK.dec (fun g1 => ?ga) (fun g1 => ?gb)
    case' ga =>
      refine OptK.mk _ (ria m wl (by omega)) ?_
      refine OptK.mk _ (rld1 (g := fun x => .n .i64 x) hz) ?_
      refine DecK.beq (fun g2 => ?gc) (fun g2 => ?gd)
    case' gc =>
      (repeat' first | refine DecK.tt ?_ | refine DecK.ff ?_ | refine OptK.mk _ rfl ?_)
      exact last ⟨by omega, g2⟩
    case' gd => replace good := good fun h => g2 h.2
    case' gb => 
      rw [wl] at g1
      have hg : ¬ (1 < l.length ∧ z = 1) := by
        rintro ⟨ha, hb⟩
        omega
      replace good := good hg
      refine DecK.ff ?_
    all_goals
      clear last hb
      refine OptK.mk _ (ria m wl (by omega)) ?_
      refine OptK.mk _ (rld1 (g := fun x => .n .i64 x) hz) ?_
      refine OptK.mk _ rfl ?_
      refine OptK.mk _ (row_to (f := ni) hz_ni (by omega) (by omega)) ?_
      rw [wl, Int.toNat_natCast]
      refine CallK.mk _ (backI_ok _ _) rfl ?_
      refine IterK.mk (bwI (l.take m)) (backI_iter _ _ (by rw [htl]; omega)) (bwI_two _) ?_
      refine iter_by (fun (p : Int × Int) => [(7, [.n .i64 p.1, .n .i64 p.2]), (3, [.n .i64 0]), (2, [.n .i64 0, .n .i64 0])])
        (fun k p => k ≤ m ∧ p = cont (l.drop (m - k)) ∧ -1152921504606846976 ≤ p.1 ∧ p.1 ≤ 1152921504606846976 ∧ p.2 ≤ 1152921504606846976) (z, 1) ?_ ?_ ?_
      · have hzb := hfine.all z (List.mem_of_getElem? hz)
        refine ⟨by omega, ?_, by simp only; omega, by simp only; omega, by simp only; omega⟩
        rw [Nat.sub_zero, hz3]
        simp [cont]
      · rintro k v ⟨p, q⟩ hv ⟨h4, h5, h6, h7, h8⟩ N ih
        have hk : k < m := by
          have := (List.getElem?_eq_some_iff.1 hv).1
          rw [bwI_len, htl] at this
          exact this
        rw [bwI_at (by omega), htl] at hv
        cases hv
        obtain ⟨t, k1, k2, k3, k4⟩ := hsp (m - 1 - k) (by omega)
        rw [k2]
        rw [show m - k = m - 1 - k + 1 by omega] at h5
        have k5 := cont_pos k4
        rw [← h5] at k5
        simp only at k5 h6 h7 h8
        have k6 : cont (l.drop (m - (k + 1))) = (t * p + q, p) := by
          rw [show m - (k + 1) = m - 1 - k by omega, k1, cont, ← h5]
        have k7 := add_ok t 1 q p (frErr_1 k3) (frErr_c ⟨by omega, by omega, by omega, by omega⟩ (by have := cont_gcd (l.drop (m - 1 - k + 1)); rw [← h5] at this; exact this))
        rw [show t * p + q * 1 = t * p + q by omega, show 1 * p = p by omega] at k7
        have k8 := lowT_cont (l.drop (m - (k + 1)))
        rw [k6] at k8
        simp only at k8
        rw [k8] at k7
        by_cases ov : t * p + q < -1152921504606846976 ∨ t * p + q > 1152921504606846976 ∨ p > 1152921504606846976
        · have e1 : fromT (l.drop (m - (k + 1))) = .tup [fracV 0 0, .n .i64 2] := by
            unfold fromT madeT
            rw [k6, if_pos (.inr ov)]
          have e2 : r = .tup [fracV 0 0, .n .i64 2] := by
            rw [good]
            by_cases e : m - (k + 1) = 0
            · rw [e, List.drop_zero] at e1
              exact e1
            · have ht : 1 ≤ t := by
                have := hfine.pos t ?_
                · exact this
                · have : (l.drop 1)[m - 1 - k - 1]? = some t := by
                    rw [List.getElem?_drop, show 1 + (m - 1 - k - 1) = m - 1 - k by omega]
                    have := congrArg (fun x => x[0]?) k1
                    simpa using this
                  exact List.mem_of_getElem? this
              have := mul_ge ht (show 0 ≤ p by omega)
              refine from_over (i := m - (k + 1)) hfine.pos (by omega) ?_
              rw [k6]
              simp only [M60]
              omega
          rw [e1] at k7
          refine CallK.mk _ k7 rfl ?_
          (repeat' first | refine DecK.yes rfl ?_ | refine DecK.tt ?_ | refine DecK.ff ?_ | refine OptK.mk _ rfl ?_)
          rw [e2]
          rfl
        · have e1 : fromT (l.drop (m - (k + 1))) = .tup [fracV (t * p + q) p, .n .i64 0] := by
            unfold fromT madeT
            rw [k6, if_neg (fun h => h.elim (fun h => by cases h) ov)]
          rw [e1] at k7
          refine CallK.mk _ k7 rfl ?_
          (repeat' first | refine DecK.no rfl ?_ | refine DecK.tt ?_ | refine DecK.ff ?_ | refine OptK.mk _ rfl ?_)
          exact ih (t * p + q, p) ⟨by omega, k6.symm, by simp only; omega, by simp only; omega, by simp only; omega⟩
      · rintro ⟨p, q⟩ ⟨h4, h5, h6, h7, h8⟩
        rw [bwI_len, htl] at h4 h5
        rw [Nat.sub_self, List.drop_zero] at h5
        simp only at h6 h7 h8
        have e1 : r = .tup [fracV p q, .n .i64 0] := by
          rw [good]
          unfold fromT madeT
          rw [← h5, if_neg (fun h => h.elim (fun h => by cases h) fun h => by simp only at h; omega)]
        (repeat' first | refine OptK.mk _ rfl ?_)
        rw [e1]
        rfl
end Go.Proofs.Ytjeafcngljbdlaa.Sv
