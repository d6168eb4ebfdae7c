/- Bounds of numbers of a type: further functions. No condition. -/
import Derived.Test.YtpggblmopgfloaaBbTick
import Derived.Test.YtpggblmopgfloaaBe
namespace Go.Proofs.Ytpggblmopgfloaa.Sv
open Go Go.RowKit
set_option linter.unusedVariables false
set_option linter.unusedSimpArgs false
set_option maxRecDepth 100000
/-- spyglass/spyref1.Sides(spyglass/api.Tick) -/
def F126 : Fn1 := ⟨20, .seq (.reg [⟨some 1, none, .box, [.tm 0]⟩, ⟨some 2, none, .alloc [.b false, .sl 0 [] true], []⟩, ⟨some 3, none, .alloc [.b false, .sl 0 [] true], []⟩, ⟨some 4, none, .mv, [.cn (.b false)]⟩] [1, 2, 3]) (.seq (.seq (.reg [⟨some 5, none, .ld true 3 false, [.tm 1]⟩, ⟨some 6, none, .call 163, [.tm 5]⟩, ⟨some 7, none, .po (.bin .neq), [.tm 6, .cn (.n .i64 0)]⟩, ⟨some 8, none, .mv, [.tm 7]⟩, ⟨some 9, some (8, false), .fa 2, [.tm 1]⟩, ⟨some 10, some (8, false), .ld false 1 false, [.tm 9]⟩, ⟨some 11, none, .pick, [.tm 8, .cn (.b true), .tm 10]⟩] [1, 2, 3, 11]) (.cond (.tm 11) (.seq (.reg [⟨some 12, none, .po (.build [.b false, .sl 0 [] true] []), []⟩, ⟨some 13, none, .po (.build [.b false, .sl 0 [] true] []), []⟩, ⟨none, none, .st 2, [.tm 2, .tm 12]⟩, ⟨none, none, .st 2, [.tm 3, .tm 13]⟩, ⟨some 4, none, .mv, [.cn (.b false)]⟩] [2, 3, 4]) .ret) .skip)) (.seq (.dreg [⟨some 14, none, .fa 0, [.tm 1]⟩, ⟨some 15, none, .ld false 1 false, [.tm 14]⟩, ⟨some 16, none, .call 16, [.tm 15]⟩, ⟨some 17, none, .fa 1, [.tm 1]⟩, ⟨some 18, none, .ld false 1 false, [.tm 17]⟩, ⟨some 19, none, .call 16, [.tm 18]⟩, ⟨none, none, .st 2, [.tm 2, .tm 16]⟩, ⟨none, none, .st 2, [.tm 3, .tm 19]⟩, ⟨some 4, none, .mv, [.cn (.b true)]⟩] [] [2, 3, 4]) .ret)), [.cell 2 true 2, .cell 3 true 2, .tm 4]⟩
theorem of126 : Fn1.of Try.prog 126 ⟨false, [], false⟩ [[1, 2, 3], [1, 2, 3, 11], [2, 3, 4], [2, 3, 4]] = some F126 := by kernel_rfl
/-- spyglass/bound.Neg(spyglass/api.Tick) -/
def F160 : Fn1 := ⟨14, .seq (.reg [⟨some 1, none, .box, [.tm 0]⟩, ⟨some 2, none, .alloc [.n .i64 0, .n .i64 0, .b false], []⟩] [1, 2]) (.seq (.reg [⟨some 3, none, .ld true 3 false, [.tm 1]⟩, ⟨some 4, none, .call 179, [.tm 3]⟩, ⟨none, none, .st 3, [.tm 1, .tm 4]⟩] [1, 2]) (.seq (.reg [⟨some 5, none, .fa 1, [.tm 1]⟩, ⟨some 6, none, .ld false 1 false, [.tm 5]⟩, ⟨some 7, none, .po (.un .neg), [.tm 6]⟩, ⟨some 8, none, .fa 0, [.tm 1]⟩, ⟨some 9, none, .ld false 1 false, [.tm 8]⟩, ⟨some 10, none, .po (.un .neg), [.tm 9]⟩, ⟨some 11, none, .fa 0, [.tm 1]⟩, ⟨none, none, .st 1, [.tm 11, .tm 7]⟩, ⟨some 12, none, .fa 1, [.tm 1]⟩, ⟨none, none, .st 1, [.tm 12, .tm 10]⟩] [1, 2]) (.seq (.reg [⟨some 13, none, .ld true 3 false, [.tm 1]⟩, ⟨none, none, .st 3, [.tm 2, .tm 13]⟩] [2]) .ret))), [.cell 2 true 3]⟩
theorem of160 : Fn1.of Try.prog 160 ⟨false, [], false⟩ [[1, 2], [1, 2], [1, 2], [2]] = some F160 := by kernel_rfl
/-- spyglass/bound.Exact(spyglass/api.Tick) -/
def F120 : Fn1 := ⟨6, .seq (.reg [⟨some 2, none, .alloc [.n .i64 0, .n .i64 0, .b false], []⟩] [0, 2]) (.seq (.reg [⟨some 3, none, .mv, [.tm 0]⟩, ⟨some 4, none, .mv, [.tm 0]⟩, ⟨some 5, none, .call 161, [.tm 3, .tm 4]⟩, ⟨none, none, .st 3, [.tm 2, .tm 5]⟩] [2]) .ret), [.cell 2 true 3]⟩
theorem of120 : Fn1.of Try.prog 120 ⟨false, [], false⟩ [[0, 2], [2]] = some F120 := by kernel_rfl
/-- spyglass/bound.Sub(spyglass/api.Tick) -/
def F119 : Fn1 := ⟨9, .seq (.reg [⟨some 2, none, .box, [.tm 0]⟩, ⟨some 3, none, .box, [.tm 1]⟩, ⟨some 4, none, .alloc [.n .i64 0, .n .i64 0, .b false], []⟩] [2, 3, 4]) (.seq (.dreg [⟨some 5, none, .ld true 3 false, [.tm 2]⟩, ⟨some 6, none, .ld true 3 false, [.tm 3]⟩, ⟨some 7, none, .call 160, [.tm 6]⟩, ⟨some 8, none, .call 159, [.tm 5, .tm 7]⟩, ⟨none, none, .st 3, [.tm 4, .tm 8]⟩] [] [4]) .ret), [.cell 4 true 3]⟩
theorem of119 : Fn1.of Try.prog 119 ⟨false, [], false⟩ [[2, 3, 4], [4]] = some F119 := by kernel_rfl
theorem sidesTick (lo hi : Int) (u : Bool) : Pure Try.prog 126 [bdV lo hi u] (.tup [zV (bLo (normB lo hi u)), zV (bHi (normB lo hi u)), .b (!bUn (normB lo hi u))]) := by
  have t1 := boundErrTick lo hi u
  rcases bd_cases lo hi u with ⟨h1, h2⟩ | ⟨h1, rfl, h3, h2⟩
  · rw [h1]
    refine Pure.le (r := .tup [.agg [.b false, .sl 0 [] true], .agg [.b false, .sl 0 [] true], .b false]) ?_ (VLes.tup (.cons zNone (.cons zNone (.cons (.refl _) .nil))))
    refine pure_of_wp of126 (Nat.le_of_ble_eq_true rfl) ?_
    refine CallK.mk _ t1 rfl ?_
    rcases h2 with ⟨h2, rfl, rfl, rfl⟩ | h2
    · refine DecK.bne (fun h => absurd h2 h) (fun _ => ?_)
      ((repeat' first | refine DecK.tt ?_ | refine DecK.ff ?_ | refine DecK.beq (fun _ => ?_) (fun _ => ?_) | refine DecK.bne (fun _ => ?_) (fun _ => ?_) | refine DecK.dec (fun _ => ?_) (fun _ => ?_) | refine OptK.mk _ rfl ?_ | refine endV (by rfl) ?_) <;> (try with_reducible rfl))
      rfl
    · refine DecK.bne (fun _ => ?_) (fun h => absurd h h2)
      ((repeat' first | refine DecK.tt ?_ | refine DecK.ff ?_ | refine DecK.beq (fun _ => ?_) (fun _ => ?_) | refine DecK.bne (fun _ => ?_) (fun _ => ?_) | refine DecK.dec (fun _ => ?_) (fun _ => ?_) | refine OptK.mk _ rfl ?_ | refine endV (by rfl) ?_) <;> (try with_reducible rfl))
      rfl
  · rw [h1]
    refine pure_of_wp of126 (Nat.le_of_ble_eq_true rfl) ?_
    refine CallK.mk _ t1 rfl ?_
    refine DecK.bne (fun h => absurd h2 h) (fun _ => ?_)
    unfold bval at h3
    repeat' first | (refine CallK.mk _ (I_ok lo (by omega)) rfl ?_) | (refine CallK.mk _ (I_ok hi (by omega)) rfl ?_) | refine DecK.tt ?_ | refine DecK.ff ?_ | refine DecK.beq (fun _ => ?_) (fun _ => ?_) | refine DecK.bne (fun _ => ?_) (fun _ => ?_) | refine DecK.dec (fun _ => ?_) (fun _ => ?_) | refine OptK.mk _ rfl ?_ | refine endV (by rfl) ?_
    rfl
theorem negTick (lo hi : Int) (u : Bool) : Pure Try.prog 160 [bdV lo hi u] (encB (negB (normB lo hi u))) := by
  refine pure_of_wp of160 (Nat.le_of_ble_eq_true rfl) ?_
  refine CallK.mk _ (normTick lo hi u) rfl ?_
  have hx := norm_ok lo hi u
  generalize normB lo hi u = x at *
  rcases x with _ | ⟨a, b⟩
  · ((repeat' first | refine DecK.tt ?_ | refine DecK.ff ?_ | refine DecK.beq (fun _ => ?_) (fun _ => ?_) | refine DecK.bne (fun _ => ?_) (fun _ => ?_) | refine DecK.dec (fun _ => ?_) (fun _ => ?_) | refine OptK.mk _ rfl ?_ | refine endV (by rfl) ?_) <;> (try with_reducible rfl))
    rfl
  · unfold bdOk bval at hx
    simp only at hx
    have w1 : IntKind.i64.wrap (0 - a) = -a := by rw [w64 (by omega)]; omega
    have w2 : IntKind.i64.wrap (0 - b) = -b := by rw [w64 (by omega)]; omega
    ((repeat' first | refine DecK.tt ?_ | refine DecK.ff ?_ | refine DecK.beq (fun _ => ?_) (fun _ => ?_) | refine DecK.bne (fun _ => ?_) (fun _ => ?_) | refine DecK.dec (fun _ => ?_) (fun _ => ?_) | refine OptK.mk _ rfl ?_ | refine endV (by rfl) ?_) <;> (try with_reducible rfl))
    simp only [bLo, bHi, negB, encB, encC, w1, w2]
    rfl
theorem exactTick (v : Int) : Pure Try.prog 120 [.n .i64 v] (encB (mkB v v)) := by
  refine pure_of_wp of120 (Nat.le_of_ble_eq_true rfl) ?_
  refine CallK.mk _ (ofTick v v) rfl ?_
  ((repeat' first | refine DecK.tt ?_ | refine DecK.ff ?_ | refine DecK.beq (fun _ => ?_) (fun _ => ?_) | refine DecK.bne (fun _ => ?_) (fun _ => ?_) | refine DecK.dec (fun _ => ?_) (fun _ => ?_) | refine OptK.mk _ rfl ?_ | refine endV (by rfl) ?_) <;> (try with_reducible rfl))
  rfl
theorem subTick (lo hi : Int) (u : Bool) (lo' hi' : Int) (u' : Bool) : Pure Try.prog 119 [bdV lo hi u, bdV lo' hi' u'] (encB (addB (normB lo hi u) (negB (normB lo' hi' u')))) := by
  refine pure_of_wp of119 (Nat.le_of_ble_eq_true rfl) ?_
  refine CallK.mk _ (negTick lo' hi' u') rfl ?_
  have ha := addTick lo hi u (bLo (negB (normB lo' hi' u'))) (bHi (negB (normB lo' hi' u'))) (bUn (negB (normB lo' hi' u')))
  rw [norm_enc (neg_ok (norm_ok lo' hi' u'))] at ha
  refine CallK.mk _ ha rfl ?_
  ((repeat' first | refine DecK.tt ?_ | refine DecK.ff ?_ | refine DecK.beq (fun _ => ?_) (fun _ => ?_) | refine DecK.bne (fun _ => ?_) (fun _ => ?_) | refine DecK.dec (fun _ => ?_) (fun _ => ?_) | refine OptK.mk _ rfl ?_ | refine endV (by rfl) ?_) <;> (try with_reducible rfl))
  rfl
end Go.Proofs.Ytpggblmopgfloaa.Sv
