/- Bounds of numbers of a type: further functions. No condition. -/
import Derived.Test.YtciigfeecmnghaaRRRRGreatRRBbFix
import Derived.Test.YtciigfeecmnghaaRRRRGreatRRBe
namespace Go.Proofs.YtciigfeecmnghaaRRRRGreatRR.Sv
open Go Go.RowKit
set_option linter.unusedVariables false
set_option linter.unusedSimpArgs false
set_option maxRecDepth 100000
/-- spyglass/bound.Meet(spyglass/api.Fix) -/
def F45 : Fn1 := ⟨42, .seq (.reg [⟨some 2, none, .box, [.tm 0]⟩, ⟨some 3, none, .box, [.tm 1]⟩, ⟨some 4, none, .alloc [.n .i64 0, .n .i64 0, .b false], []⟩, ⟨some 5, none, .mv, [.cn (.b false)]⟩] [2, 3, 4]) (.seq (.dreg [⟨some 6, none, .ld true 3 false, [.tm 2]⟩, ⟨some 7, none, .call 117, [.tm 6]⟩, ⟨some 8, none, .ld true 3 false, [.tm 3]⟩, ⟨some 9, none, .call 117, [.tm 8]⟩, ⟨none, none, .st 3, [.tm 2, .tm 7]⟩, ⟨none, none, .st 3, [.tm 3, .tm 9]⟩] [] [2, 3, 4]) (.seq (.block 0 (.seq (.reg [⟨some 11, none, .fa 2, [.tm 2]⟩, ⟨some 12, none, .ld false 1 false, [.tm 11]⟩, ⟨some 10, none, .mv, [.tm 12]⟩] [2, 3, 4, 10]) (.cond (.tm 10) (.seq (.reg [⟨some 13, none, .ld true 3 false, [.tm 3]⟩, ⟨none, none, .st 3, [.tm 4, .tm 13]⟩, ⟨some 5, none, .mv, [.cn (.b true)]⟩] [4, 5]) .ret) (.seq (.reg [⟨some 15, none, .fa 2, [.tm 3]⟩, ⟨some 16, none, .ld false 1 false, [.tm 15]⟩, ⟨some 14, none, .mv, [.tm 16]⟩] [2, 3, 4, 14]) (.cond (.tm 14) (.seq (.reg [⟨some 17, none, .ld true 3 false, [.tm 2]⟩, ⟨none, none, .st 3, [.tm 4, .tm 17]⟩, ⟨some 5, none, .mv, [.cn (.b true)]⟩] [4, 5]) .ret) (.seq (.reg [⟨some 19, none, .fa 0, [.tm 2]⟩, ⟨some 20, none, .ld false 1 false, [.tm 19]⟩, ⟨some 21, none, .fa 0, [.tm 3]⟩, ⟨some 22, none, .ld false 1 false, [.tm 21]⟩, ⟨some 23, none, .po .mx, [.tm 20, .tm 22]⟩, ⟨some 24, none, .fa 1, [.tm 2]⟩, ⟨some 25, none, .ld false 1 false, [.tm 24]⟩, ⟨some 26, none, .fa 1, [.tm 3]⟩, ⟨some 27, none, .ld false 1 false, [.tm 26]⟩, ⟨some 28, none, .po .mn, [.tm 25, .tm 27]⟩, ⟨some 29, none, .po (.bin .gtr), [.tm 23, .tm 28]⟩, ⟨some 18, none, .mv, [.tm 29]⟩] [2, 3, 4, 18]) (.cond (.tm 18) (.seq (.reg [⟨some 30, none, .po (.build [.n .i64 0, .n .i64 0, .b false] []), []⟩, ⟨none, none, .st 3, [.tm 4, .tm 30]⟩, ⟨some 5, none, .mv, [.cn (.b false)]⟩] [4, 5]) .ret) .skip))))))) (.seq (.reg [⟨some 31, none, .fa 0, [.tm 2]⟩, ⟨some 32, none, .ld false 1 false, [.tm 31]⟩, ⟨some 33, none, .fa 0, [.tm 3]⟩, ⟨some 34, none, .ld false 1 false, [.tm 33]⟩, ⟨some 35, none, .po .mx, [.tm 32, .tm 34]⟩, ⟨some 36, none, .fa 1, [.tm 2]⟩, ⟨some 37, none, .ld false 1 false, [.tm 36]⟩, ⟨some 38, none, .fa 1, [.tm 3]⟩, ⟨some 39, none, .ld false 1 false, [.tm 38]⟩, ⟨some 40, none, .po .mn, [.tm 37, .tm 39]⟩, ⟨some 41, none, .call 46, [.tm 35, .tm 40]⟩, ⟨none, none, .st 3, [.tm 4, .tm 41]⟩, ⟨some 5, none, .mv, [.cn (.b true)]⟩] [4, 5]) .ret))), [.cell 4 true 3, .tm 5]⟩
theorem of45 : Fn1.of Tryz.prog 45 ⟨false, [], false⟩ [[2, 3, 4], [2, 3, 4], [2, 3, 4, 10], [4, 5], [2, 3, 4, 14], [4, 5], [2, 3, 4, 18], [4, 5], [4, 5]] = some F45 := by kernel_rfl
/-- spyglass/bound.Neg(spyglass/api.Fix) -/
def F114 : Fn1 := ⟨14, .seq (.reg [⟨some 1, none, .box, [.tm 0]⟩, ⟨some 2, none, .alloc [.n .i64 0, .n .i64 0, .b false], []⟩] [1, 2]) (.seq (.reg [⟨some 3, none, .ld true 3 false, [.tm 1]⟩, ⟨some 4, none, .call 117, [.tm 3]⟩, ⟨none, none, .st 3, [.tm 1, .tm 4]⟩] [1, 2]) (.seq (.reg [⟨some 5, none, .fa 1, [.tm 1]⟩, ⟨some 6, none, .ld false 1 false, [.tm 5]⟩, ⟨some 7, none, .po (.un .neg), [.tm 6]⟩, ⟨some 8, none, .fa 0, [.tm 1]⟩, ⟨some 9, none, .ld false 1 false, [.tm 8]⟩, ⟨some 10, none, .po (.un .neg), [.tm 9]⟩, ⟨some 11, none, .fa 0, [.tm 1]⟩, ⟨none, none, .st 1, [.tm 11, .tm 7]⟩, ⟨some 12, none, .fa 1, [.tm 1]⟩, ⟨none, none, .st 1, [.tm 12, .tm 10]⟩] [1, 2]) (.seq (.reg [⟨some 13, none, .ld true 3 false, [.tm 1]⟩, ⟨none, none, .st 3, [.tm 2, .tm 13]⟩] [2]) .ret))), [.cell 2 true 3]⟩
theorem of114 : Fn1.of Tryz.prog 114 ⟨false, [], false⟩ [[1, 2], [1, 2], [1, 2], [2]] = some F114 := by kernel_rfl
/-- spyglass/bound.Exact(spyglass/api.Fix) -/
def F43 : Fn1 := ⟨6, .seq (.reg [⟨some 2, none, .alloc [.n .i64 0, .n .i64 0, .b false], []⟩] [0, 2]) (.seq (.reg [⟨some 3, none, .mv, [.tm 0]⟩, ⟨some 4, none, .mv, [.tm 0]⟩, ⟨some 5, none, .call 46, [.tm 3, .tm 4]⟩, ⟨none, none, .st 3, [.tm 2, .tm 5]⟩] [2]) .ret), [.cell 2 true 3]⟩
theorem of43 : Fn1.of Tryz.prog 43 ⟨false, [], false⟩ [[0, 2], [2]] = some F43 := by kernel_rfl
theorem meetFix (lo hi : Int) (u : Bool) (lo' hi' : Int) (u' : Bool) : Pure Tryz.prog 45 [bdV lo hi u, bdV lo' hi' u'] (.tup [encB (meetB (normB lo hi u) (normB lo' hi' u')).1, .b (meetB (normB lo hi u) (normB lo' hi' u')).2]) := by
  refine pure_of_wp of45 (Nat.le_of_ble_eq_true rfl) ?_
  refine CallK.mk _ (normFix lo hi u) rfl ?_
  refine CallK.mk _ (normFix lo' hi' u') rfl ?_
  have hx := norm_ok lo hi u
  have hy := norm_ok lo' hi' u'
  generalize normB lo hi u = x at *
  generalize normB lo' hi' u' = y at *
  refine OptK.mk _ rfl ?_
  refine OptK.mk _ rfl ?_
  rcases x with _ | ⟨a, b⟩
  · refine DecK.tt ?_
    ((repeat' first | refine DecK.tt ?_ | refine DecK.ff ?_ | refine DecK.beq (fun _ => ?_) (fun _ => ?_) | refine DecK.bne (fun _ => ?_) (fun _ => ?_) | refine DecK.dec (fun _ => ?_) (fun _ => ?_) | refine OptK.mk _ rfl ?_ | refine endV (by rfl) ?_) <;> (try with_reducible rfl))
    cases y <;> rfl
  refine DecK.ff ?_
  rcases y with _ | ⟨c, d⟩
  · refine DecK.tt ?_
    ((repeat' first | refine DecK.tt ?_ | refine DecK.ff ?_ | refine DecK.beq (fun _ => ?_) (fun _ => ?_) | refine DecK.bne (fun _ => ?_) (fun _ => ?_) | refine DecK.dec (fun _ => ?_) (fun _ => ?_) | refine OptK.mk _ rfl ?_ | refine endV (by rfl) ?_) <;> (try with_reducible rfl))
    rfl
  refine DecK.ff ?_
  have e1 : (if c > a then c else a) = max a c := by omega
  have e2 : (if d < b then d else b) = min b d := by omega
  refine DecK.dec (fun h => ?_) (fun h => ?_)
  · ((repeat' first | refine DecK.tt ?_ | refine DecK.ff ?_ | refine DecK.beq (fun _ => ?_) (fun _ => ?_) | refine DecK.bne (fun _ => ?_) (fun _ => ?_) | refine DecK.dec (fun _ => ?_) (fun _ => ?_) | refine OptK.mk _ rfl ?_ | refine endV (by rfl) ?_) <;> (try with_reducible rfl))
    have h : max a c > min b d := by rw [← e1, ← e2]; exact h
    simp only [meetB]
    rw [if_pos h]; rfl
  · have h : ¬ max a c > min b d := by rw [← e1, ← e2]; exact h
    unfold bdOk bval at hx hy
    simp only at hx hy
    have ho := ofFix (max a c) (min b d)
    rw [mkB_some (by unfold bval; omega)] at ho
    refine CallK.mk _ (ho.args (by rw [← e1, ← e2]; rfl)) rfl ?_
    ((repeat' first | refine DecK.tt ?_ | refine DecK.ff ?_ | refine DecK.beq (fun _ => ?_) (fun _ => ?_) | refine DecK.bne (fun _ => ?_) (fun _ => ?_) | refine DecK.dec (fun _ => ?_) (fun _ => ?_) | refine OptK.mk _ rfl ?_ | refine endV (by rfl) ?_) <;> (try with_reducible rfl))
    simp only [meetB]
    rw [if_neg h]
    rfl
theorem negFix (lo hi : Int) (u : Bool) : Pure Tryz.prog 114 [bdV lo hi u] (encB (negB (normB lo hi u))) := by
  refine pure_of_wp of114 (Nat.le_of_ble_eq_true rfl) ?_
  refine CallK.mk _ (normFix lo hi u) rfl ?_
  have hx := norm_ok lo hi u
  generalize normB lo hi u = x at *
  rcases x with _ | ⟨a, b⟩
  · ((repeat' first | refine DecK.tt ?_ | refine DecK.ff ?_ | refine DecK.beq (fun _ => ?_) (fun _ => ?_) | refine DecK.bne (fun _ => ?_) (fun _ => ?_) | refine DecK.dec (fun _ => ?_) (fun _ => ?_) | refine OptK.mk _ rfl ?_ | refine endV (by rfl) ?_) <;> (try with_reducible rfl))
    rfl
  · unfold bdOk bval at hx
    simp only at hx
    have w1 : IntKind.i64.wrap (0 - a) = -a := by rw [w64 (by omega)]; omega
    have w2 : IntKind.i64.wrap (0 - b) = -b := by rw [w64 (by omega)]; omega
    ((repeat' first | refine DecK.tt ?_ | refine DecK.ff ?_ | refine DecK.beq (fun _ => ?_) (fun _ => ?_) | refine DecK.bne (fun _ => ?_) (fun _ => ?_) | refine DecK.dec (fun _ => ?_) (fun _ => ?_) | refine OptK.mk _ rfl ?_ | refine endV (by rfl) ?_) <;> (try with_reducible rfl))
    simp only [bLo, bHi, negB, encB, encC, w1, w2]
    rfl
theorem exactFix (v : Int) : Pure Tryz.prog 43 [.n .i64 v] (encB (mkB v v)) := by
  refine pure_of_wp of43 (Nat.le_of_ble_eq_true rfl) ?_
  refine CallK.mk _ (ofFix v v) rfl ?_
  ((repeat' first | refine DecK.tt ?_ | refine DecK.ff ?_ | refine DecK.beq (fun _ => ?_) (fun _ => ?_) | refine DecK.bne (fun _ => ?_) (fun _ => ?_) | refine DecK.dec (fun _ => ?_) (fun _ => ?_) | refine OptK.mk _ rfl ?_ | refine endV (by rfl) ?_) <;> (try with_reducible rfl))
  rfl
end Go.Proofs.YtciigfeecmnghaaRRRRGreatRR.Sv
