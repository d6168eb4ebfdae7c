/- Bounds of numbers of a type: further functions. No condition. -/
import Derived.Test.YtdceakejbnolpaaBbTick
import Derived.Test.YtdceakejbnolpaaBe
namespace Go.Proofs.Ytdceakejbnolpaa.Sv
open Go Go.RowKit
set_option linter.unusedVariables false
set_option linter.unusedSimpArgs false
set_option maxRecDepth 100000
/-- spyglass/spyref1.Sides(spyglass/api.Tick) -/
def F82 : Fn1 := ⟨20, .seq (.reg [⟨some 1, none, .box, [.tm 0]⟩, ⟨some 2, none, .alloc [.b false, .sl 0 [] true], []⟩, ⟨some 3, none, .alloc [.b false, .sl 0 [] true], []⟩, ⟨some 4, none, .mv, [.cn (.b false)]⟩] [1, 2, 3]) (.seq (.seq (.reg [⟨some 5, none, .ld true 3 false, [.tm 1]⟩, ⟨some 6, none, .call 140, [.tm 5]⟩, ⟨some 7, none, .po (.bin .neq), [.tm 6, .cn (.n .i64 0)]⟩, ⟨some 8, none, .mv, [.tm 7]⟩, ⟨some 9, some (8, false), .fa 2, [.tm 1]⟩, ⟨some 10, some (8, false), .ld false 1 false, [.tm 9]⟩, ⟨some 11, none, .pick, [.tm 8, .cn (.b true), .tm 10]⟩] [1, 2, 3, 11]) (.cond (.tm 11) (.seq (.reg [⟨some 12, none, .po (.build [.b false, .sl 0 [] true] []), []⟩, ⟨some 13, none, .po (.build [.b false, .sl 0 [] true] []), []⟩, ⟨none, none, .st 2, [.tm 2, .tm 12]⟩, ⟨none, none, .st 2, [.tm 3, .tm 13]⟩, ⟨some 4, none, .mv, [.cn (.b false)]⟩] [2, 3, 4]) .ret) .skip)) (.seq (.dreg [⟨some 14, none, .fa 0, [.tm 1]⟩, ⟨some 15, none, .ld false 1 false, [.tm 14]⟩, ⟨some 16, none, .call 15, [.tm 15]⟩, ⟨some 17, none, .fa 1, [.tm 1]⟩, ⟨some 18, none, .ld false 1 false, [.tm 17]⟩, ⟨some 19, none, .call 15, [.tm 18]⟩, ⟨none, none, .st 2, [.tm 2, .tm 16]⟩, ⟨none, none, .st 2, [.tm 3, .tm 19]⟩, ⟨some 4, none, .mv, [.cn (.b true)]⟩] [] [2, 3, 4]) .ret)), [.cell 2 true 2, .cell 3 true 2, .tm 4]⟩
theorem of82 : Fn1.of Try.prog 82 ⟨false, [], false⟩ [[1, 2, 3], [1, 2, 3, 11], [2, 3, 4], [2, 3, 4]] = some F82 := by kernel_rfl
/-- spyglass/bound.Meet(spyglass/api.Tick) -/
def F79 : Fn1 := ⟨42, .seq (.reg [⟨some 2, none, .box, [.tm 0]⟩, ⟨some 3, none, .box, [.tm 1]⟩, ⟨some 4, none, .alloc [.n .i64 0, .n .i64 0, .b false], []⟩, ⟨some 5, none, .mv, [.cn (.b false)]⟩] [2, 3, 4]) (.seq (.dreg [⟨some 6, none, .ld true 3 false, [.tm 2]⟩, ⟨some 7, none, .call 139, [.tm 6]⟩, ⟨some 8, none, .ld true 3 false, [.tm 3]⟩, ⟨some 9, none, .call 139, [.tm 8]⟩, ⟨none, none, .st 3, [.tm 2, .tm 7]⟩, ⟨none, none, .st 3, [.tm 3, .tm 9]⟩] [] [2, 3, 4]) (.seq (.block 0 (.seq (.reg [⟨some 11, none, .fa 2, [.tm 2]⟩, ⟨some 12, none, .ld false 1 false, [.tm 11]⟩, ⟨some 10, none, .mv, [.tm 12]⟩] [2, 3, 4, 10]) (.cond (.tm 10) (.seq (.reg [⟨some 13, none, .ld true 3 false, [.tm 3]⟩, ⟨none, none, .st 3, [.tm 4, .tm 13]⟩, ⟨some 5, none, .mv, [.cn (.b true)]⟩] [4, 5]) .ret) (.seq (.reg [⟨some 15, none, .fa 2, [.tm 3]⟩, ⟨some 16, none, .ld false 1 false, [.tm 15]⟩, ⟨some 14, none, .mv, [.tm 16]⟩] [2, 3, 4, 14]) (.cond (.tm 14) (.seq (.reg [⟨some 17, none, .ld true 3 false, [.tm 2]⟩, ⟨none, none, .st 3, [.tm 4, .tm 17]⟩, ⟨some 5, none, .mv, [.cn (.b true)]⟩] [4, 5]) .ret) (.seq (.reg [⟨some 19, none, .fa 0, [.tm 2]⟩, ⟨some 20, none, .ld false 1 false, [.tm 19]⟩, ⟨some 21, none, .fa 0, [.tm 3]⟩, ⟨some 22, none, .ld false 1 false, [.tm 21]⟩, ⟨some 23, none, .po .mx, [.tm 20, .tm 22]⟩, ⟨some 24, none, .fa 1, [.tm 2]⟩, ⟨some 25, none, .ld false 1 false, [.tm 24]⟩, ⟨some 26, none, .fa 1, [.tm 3]⟩, ⟨some 27, none, .ld false 1 false, [.tm 26]⟩, ⟨some 28, none, .po .mn, [.tm 25, .tm 27]⟩, ⟨some 29, none, .po (.bin .gtr), [.tm 23, .tm 28]⟩, ⟨some 18, none, .mv, [.tm 29]⟩] [2, 3, 4, 18]) (.cond (.tm 18) (.seq (.reg [⟨some 30, none, .po (.build [.n .i64 0, .n .i64 0, .b false] []), []⟩, ⟨none, none, .st 3, [.tm 4, .tm 30]⟩, ⟨some 5, none, .mv, [.cn (.b false)]⟩] [4, 5]) .ret) .skip))))))) (.seq (.reg [⟨some 31, none, .fa 0, [.tm 2]⟩, ⟨some 32, none, .ld false 1 false, [.tm 31]⟩, ⟨some 33, none, .fa 0, [.tm 3]⟩, ⟨some 34, none, .ld false 1 false, [.tm 33]⟩, ⟨some 35, none, .po .mx, [.tm 32, .tm 34]⟩, ⟨some 36, none, .fa 1, [.tm 2]⟩, ⟨some 37, none, .ld false 1 false, [.tm 36]⟩, ⟨some 38, none, .fa 1, [.tm 3]⟩, ⟨some 39, none, .ld false 1 false, [.tm 38]⟩, ⟨some 40, none, .po .mn, [.tm 37, .tm 39]⟩, ⟨some 41, none, .call 78, [.tm 35, .tm 40]⟩, ⟨none, none, .st 3, [.tm 4, .tm 41]⟩, ⟨some 5, none, .mv, [.cn (.b true)]⟩] [4, 5]) .ret))), [.cell 4 true 3, .tm 5]⟩
theorem of79 : Fn1.of Try.prog 79 ⟨false, [], false⟩ [[2, 3, 4], [2, 3, 4], [2, 3, 4, 10], [4, 5], [2, 3, 4, 14], [4, 5], [2, 3, 4, 18], [4, 5], [4, 5]] = some F79 := by kernel_rfl
theorem sidesTick (lo hi : Int) (u : Bool) : Pure Try.prog 82 [bdV lo hi u] (.tup [zV (bLo (normB lo hi u)), zV (bHi (normB lo hi u)), .b (!bUn (normB lo hi u))]) := by
  have t1 := boundErrTick lo hi u
  rcases bd_cases lo hi u with ⟨h1, h2⟩ | ⟨h1, rfl, h3, h2⟩
  · rw [h1]
    refine Pure.le (r := .tup [.agg [.b false, .sl 0 [] true], .agg [.b false, .sl 0 [] true], .b false]) ?_ (VLes.tup (.cons zNone (.cons zNone (.cons (.refl _) .nil))))
    refine pure_of_wp of82 (Nat.le_of_ble_eq_true rfl) ?_
    refine CallK.mk _ t1 rfl ?_
    rcases h2 with ⟨h2, rfl, rfl, rfl⟩ | h2
    · refine DecK.bne (fun h => absurd h2 h) (fun _ => ?_)
      ((repeat' first | refine DecK.tt ?_ | refine DecK.ff ?_ | refine DecK.beq (fun _ => ?_) (fun _ => ?_) | refine DecK.bne (fun _ => ?_) (fun _ => ?_) | refine DecK.dec (fun _ => ?_) (fun _ => ?_) | refine OptK.mk _ rfl ?_ | refine endV (by rfl) ?_) <;> (try with_reducible rfl))
      rfl
    · refine DecK.bne (fun _ => ?_) (fun h => absurd h h2)
      ((repeat' first | refine DecK.tt ?_ | refine DecK.ff ?_ | refine DecK.beq (fun _ => ?_) (fun _ => ?_) | refine DecK.bne (fun _ => ?_) (fun _ => ?_) | refine DecK.dec (fun _ => ?_) (fun _ => ?_) | refine OptK.mk _ rfl ?_ | refine endV (by rfl) ?_) <;> (try with_reducible rfl))
      rfl
  · rw [h1]
    refine pure_of_wp of82 (Nat.le_of_ble_eq_true rfl) ?_
    refine CallK.mk _ t1 rfl ?_
    refine DecK.bne (fun h => absurd h2 h) (fun _ => ?_)
    unfold bval at h3
    repeat' first | (refine CallK.mk _ (I_ok lo (by omega)) rfl ?_) | (refine CallK.mk _ (I_ok hi (by omega)) rfl ?_) | refine DecK.tt ?_ | refine DecK.ff ?_ | refine DecK.beq (fun _ => ?_) (fun _ => ?_) | refine DecK.bne (fun _ => ?_) (fun _ => ?_) | refine DecK.dec (fun _ => ?_) (fun _ => ?_) | refine OptK.mk _ rfl ?_ | refine endV (by rfl) ?_
    rfl
theorem meetTick (lo hi : Int) (u : Bool) (lo' hi' : Int) (u' : Bool) : Pure Try.prog 79 [bdV lo hi u, bdV lo' hi' u'] (.tup [encB (meetB (normB lo hi u) (normB lo' hi' u')).1, .b (meetB (normB lo hi u) (normB lo' hi' u')).2]) := by
  refine pure_of_wp of79 (Nat.le_of_ble_eq_true rfl) ?_
  refine CallK.mk _ (normTick lo hi u) rfl ?_
  refine CallK.mk _ (normTick lo' hi' u') rfl ?_
  have hx := norm_ok lo hi u
  have hy := norm_ok lo' hi' u'
  generalize normB lo hi u = x at *
  generalize normB lo' hi' u' = y at *
  refine OptK.mk _ rfl ?_
  refine OptK.mk _ rfl ?_
  rcases x with _ | ⟨a, b⟩
  · refine DecK.tt ?_
    ((repeat' first | refine DecK.tt ?_ | refine DecK.ff ?_ | refine DecK.beq (fun _ => ?_) (fun _ => ?_) | refine DecK.bne (fun _ => ?_) (fun _ => ?_) | refine DecK.dec (fun _ => ?_) (fun _ => ?_) | refine OptK.mk _ rfl ?_ | refine endV (by rfl) ?_) <;> (try with_reducible rfl))
    cases y <;> rfl
  refine DecK.ff ?_
  rcases y with _ | ⟨c, d⟩
  · refine DecK.tt ?_
    ((repeat' first | refine DecK.tt ?_ | refine DecK.ff ?_ | refine DecK.beq (fun _ => ?_) (fun _ => ?_) | refine DecK.bne (fun _ => ?_) (fun _ => ?_) | refine DecK.dec (fun _ => ?_) (fun _ => ?_) | refine OptK.mk _ rfl ?_ | refine endV (by rfl) ?_) <;> (try with_reducible rfl))
    rfl
  refine DecK.ff ?_
  have e1 : (if c > a then c else a) = max a c := by omega
  have e2 : (if d < b then d else b) = min b d := by omega
  refine DecK.dec (fun h => ?_) (fun h => ?_)
  · ((repeat' first | refine DecK.tt ?_ | refine DecK.ff ?_ | refine DecK.beq (fun _ => ?_) (fun _ => ?_) | refine DecK.bne (fun _ => ?_) (fun _ => ?_) | refine DecK.dec (fun _ => ?_) (fun _ => ?_) | refine OptK.mk _ rfl ?_ | refine endV (by rfl) ?_) <;> (try with_reducible rfl))
    have h : max a c > min b d := by rw [← e1, ← e2]; exact h
    simp only [meetB]
    rw [if_pos h]; rfl
  · have h : ¬ max a c > min b d := by rw [← e1, ← e2]; exact h
    unfold bdOk bval at hx hy
    simp only at hx hy
    have ho := ofTick (max a c) (min b d)
    rw [mkB_some (by unfold bval; omega)] at ho
    refine CallK.mk _ (ho.args (by rw [← e1, ← e2]; rfl)) rfl ?_
    ((repeat' first | refine DecK.tt ?_ | refine DecK.ff ?_ | refine DecK.beq (fun _ => ?_) (fun _ => ?_) | refine DecK.bne (fun _ => ?_) (fun _ => ?_) | refine DecK.dec (fun _ => ?_) (fun _ => ?_) | refine OptK.mk _ rfl ?_ | refine endV (by rfl) ?_) <;> (try with_reducible rfl))
    simp only [meetB]
    rw [if_neg h]
    rfl
end Go.Proofs.Ytdceakejbnolpaa.Sv
