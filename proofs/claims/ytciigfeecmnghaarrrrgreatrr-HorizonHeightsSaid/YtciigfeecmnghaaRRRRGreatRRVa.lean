/- Vectors: checks and growth, the program's and the reference's. No condition. -/
import Derived.Test.YtciigfeecmnghaaRRRRGreatRRNe
namespace Go.Proofs.YtciigfeecmnghaaRRRRGreatRR.Sv
open Go Go.RowKit
set_option linter.unusedVariables false
set_option linter.unusedSimpArgs false
set_option maxRecDepth 100000
/-- live: [3, 6, 7, 8] -/
def L31_0 : SC := .seq (.reg [⟨some 9, none, .po (.bin .lss), [.tm 8, .tm 7]⟩] [3, 6, 7, 8, 9]) (.seq (.cond (.tm 9) .skip (.exit 0)) (.seq (.block 1 (.seq (.reg [⟨some 10, none, .ia none 1, [.tm 6, .tm 8]⟩, ⟨some 11, none, .ld false 1 true, [.tm 10]⟩, ⟨some 5, none, .mv, [.tm 11]⟩] [3, 5, 6, 7, 8]) (.seq (.reg [⟨some 12, none, .mv, [.tm 5]⟩, ⟨some 13, none, .mv, [.tm 3]⟩, ⟨some 14, none, .po (.bin .neq), [.tm 12, .tm 13]⟩] [3, 5, 6, 7, 8, 14]) (.cond (.tm 14) (.seq (.reg [⟨some 15, none, .mv, [.tm 5]⟩, ⟨some 2, none, .mv, [.tm 15]⟩] [2]) .ret) .skip)))) (.reg [⟨some 16, none, .po (.bin .add), [.tm 8, .cn (.n .i64 1)]⟩, ⟨some 8, none, .mv, [.tm 16]⟩] [3, 6, 7, 8])))
/-- cmp.Or(spyglass/api.Errno) -/
def F31 : Fn1 := ⟨18, .seq (.reg [⟨some 2, none, .mv, [.cn (.n .i64 0)]⟩] [0]) (.seq (.reg [⟨some 3, none, .mv, [.cn (.n .i64 0)]⟩] [0, 3]) (.seq (.seq (.reg [⟨some 6, none, .mv, [.tm 0]⟩, ⟨some 7, none, .len false, [.tm 6]⟩, ⟨some 8, none, .mv, [.cn (.n .i64 0)]⟩] [3, 6, 7, 8]) (.block 0 (.loop [3, 6, 7, 8] L31_0))) (.seq (.reg [⟨some 17, none, .mv, [.tm 3]⟩, ⟨some 2, none, .mv, [.tm 17]⟩] [2]) .ret))), [.tm 2]⟩
theorem of31 : Fn1.of Tryz.prog 31 ⟨false, [], false⟩ [[0], [0, 3], [3, 6, 7, 8], [3, 6, 7, 8], [3, 6, 7, 8, 9], [3, 5, 6, 7, 8], [3, 5, 6, 7, 8, 14], [2], [3, 6, 7, 8], [2]] = some F31 := by kernel_rfl
/-- spyglass/sphere.Check -/
def F32 : Fn1 := ⟨26, .seq (.reg [⟨some 1, none, .box, [.tm 0]⟩, ⟨some 2, none, .mv, [.cn (.n .i64 0)]⟩] [1]) (.seq (.block 0 (.seq (.reg [⟨some 4, none, .fa 0, [.tm 1]⟩, ⟨some 5, none, .ld false 1 false, [.tm 4]⟩, ⟨some 6, none, .fa 1, [.tm 1]⟩, ⟨some 7, none, .ld false 1 false, [.tm 6]⟩, ⟨some 8, none, .fa 2, [.tm 1]⟩, ⟨some 9, none, .ld false 1 false, [.tm 8]⟩, ⟨some 10, none, .po .mx, [.tm 5, .tm 7, .tm 9]⟩, ⟨some 11, none, .po (.bin .gtr), [.tm 10, .cn (.n .i64 1048576)]⟩, ⟨some 12, none, .mv, [.tm 11]⟩, ⟨some 13, some (12, false), .fa 0, [.tm 1]⟩, ⟨some 14, some (12, false), .ld false 1 false, [.tm 13]⟩, ⟨some 15, some (12, false), .fa 1, [.tm 1]⟩, ⟨some 16, some (12, false), .ld false 1 false, [.tm 15]⟩, ⟨some 17, some (12, false), .fa 2, [.tm 1]⟩, ⟨some 18, some (12, false), .ld false 1 false, [.tm 17]⟩, ⟨some 19, some (12, false), .po .mn, [.tm 14, .tm 16, .tm 18]⟩, ⟨some 20, some (12, false), .po (.bin .lss), [.tm 19, .cn (.n .i64 (-1048576))]⟩, ⟨some 21, none, .pick, [.tm 12, .cn (.b true), .tm 20]⟩, ⟨some 3, none, .mv, [.tm 21]⟩] [1, 3]) (.cond (.tm 3) (.seq (.reg [⟨some 2, none, .mv, [.cn (.n .i64 4)]⟩] [2]) .ret) (.seq (.reg [⟨some 23, none, .ld true 3 false, [.tm 1]⟩, ⟨some 24, none, .po (.build [.n .i64 0, .n .i64 0, .n .i64 0] []), []⟩, ⟨some 25, none, .po (.veq false [(0, .n), (1, .n), (2, .n)]), [.tm 23, .tm 24]⟩, ⟨some 22, none, .mv, [.tm 25]⟩] [22]) (.cond (.tm 22) (.seq (.reg [⟨some 2, none, .mv, [.cn (.n .i64 8)]⟩] [2]) .ret) .skip))))) (.seq (.reg [⟨some 2, none, .mv, [.cn (.n .i64 0)]⟩] [2]) .ret)), [.tm 2]⟩
theorem of32 : Fn1.of Tryz.prog 32 ⟨false, [], false⟩ [[1], [1, 3], [2], [22], [2], [2]] = some F32 := by kernel_rfl
/-- live: [1, 2] -/
def L34_0 : SC := .block 1 (.seq (.reg [⟨some 8, none, .fa 0, [.tm 1]⟩, ⟨some 9, none, .ld false 1 false, [.tm 8]⟩, ⟨some 10, none, .po (.bin .mul), [.cn (.n .i64 2), .tm 9]⟩, ⟨some 11, none, .fa 1, [.tm 1]⟩, ⟨some 12, none, .ld false 1 false, [.tm 11]⟩, ⟨some 13, none, .po (.bin .mul), [.cn (.n .i64 2), .tm 12]⟩, ⟨some 14, none, .fa 2, [.tm 1]⟩, ⟨some 15, none, .ld false 1 false, [.tm 14]⟩, ⟨some 16, none, .po (.bin .mul), [.cn (.n .i64 2), .tm 15]⟩, ⟨some 17, none, .po (.build [.n .i64 0, .n .i64 0, .n .i64 0] [(0, 1), (1, 1), (2, 1)]), [.tm 10, .tm 13, .tm 16]⟩, ⟨some 3, none, .alloc [.n .i64 0, .n .i64 0, .n .i64 0], []⟩, ⟨none, none, .st 3, [.tm 3, .tm 17]⟩] [1, 2, 3]) (.seq (.seq (.reg [⟨some 18, none, .ld true 3 false, [.tm 3]⟩, ⟨some 19, none, .call 32, [.tm 18]⟩, ⟨some 20, none, .po (.bin .neq), [.tm 19, .cn (.n .i64 0)]⟩] [1, 2, 3, 20]) (.cond (.tm 20) (.seq (.reg [⟨some 21, none, .ld true 3 false, [.tm 1]⟩, ⟨none, none, .st 3, [.tm 2, .tm 21]⟩] [2]) .ret) .skip)) (.reg [⟨some 22, none, .ld true 3 false, [.tm 3]⟩, ⟨none, none, .st 3, [.tm 1, .tm 22]⟩] [1, 2])))
/-- spyglass/sphere.Grow -/
def F34 : Fn1 := ⟨23, .seq (.reg [⟨some 1, none, .box, [.tm 0]⟩, ⟨some 2, none, .alloc [.n .i64 0, .n .i64 0, .n .i64 0], []⟩] [1, 2]) (.seq (.seq (.reg [⟨some 4, none, .ld true 3 false, [.tm 1]⟩, ⟨some 5, none, .call 32, [.tm 4]⟩, ⟨some 6, none, .po (.bin .neq), [.tm 5, .cn (.n .i64 0)]⟩] [1, 2, 6]) (.cond (.tm 6) (.seq (.reg [⟨some 7, none, .po (.build [.n .i64 0, .n .i64 0, .n .i64 0] []), []⟩, ⟨none, none, .st 3, [.tm 2, .tm 7]⟩] [2]) .ret) .skip)) (.block 0 (.loop [1, 2] L34_0))), [.cell 2 true 3]⟩
theorem of34 : Fn1.of Tryz.prog 34 ⟨false, [], false⟩ [[1, 2], [1, 2, 6], [2], [1, 2], [1, 2, 3], [1, 2, 3, 20], [2], [1, 2]] = some F34 := by kernel_rfl
/-- spyglass/spyref1.Three -/
def F70 : Fn1 := ⟨10, .seq (.reg [⟨some 1, none, .box, [.tm 0]⟩, ⟨some 2, none, .alloc [.n .i64 0, .n .i64 0, .n .i64 0], []⟩] [1, 2]) (.seq (.reg [⟨some 3, none, .fa 0, [.tm 1]⟩, ⟨some 4, none, .ld false 1 false, [.tm 3]⟩, ⟨some 5, none, .fa 1, [.tm 1]⟩, ⟨some 6, none, .ld false 1 false, [.tm 5]⟩, ⟨some 7, none, .fa 2, [.tm 1]⟩, ⟨some 8, none, .ld false 1 false, [.tm 7]⟩, ⟨some 9, none, .po (.build [.n .i64 0, .n .i64 0, .n .i64 0] [(0, 1), (1, 1), (2, 1)]), [.tm 4, .tm 6, .tm 8]⟩, ⟨none, none, .st 3, [.tm 2, .tm 9]⟩] [2]) .ret), [.cell 2 true 3]⟩
theorem of70 : Fn1.of Tryz.prog 70 ⟨false, [], false⟩ [[1, 2], [2]] = some F70 := by kernel_rfl
/-- live: [3, 7, 8] -/
def L13_0 : SC := .seq (.reg [⟨some 9, none, .po (.bin .lss), [.tm 8, .cn (.n .i64 3)]⟩] [3, 7, 8, 9]) (.seq (.cond (.tm 9) .skip (.exit 0)) (.seq (.block 1 (.seq (.reg [⟨some 10, none, .po (.idxA false 3 1), [.tm 7, .tm 8]⟩, ⟨some 5, none, .mv, [.tm 10]⟩] [3, 5, 7, 8]) (.seq (.seq (.reg [⟨some 11, none, .mv, [.tm 5]⟩, ⟨some 12, none, .po (.bin .gtr), [.tm 11, .cn (.n .i64 1048576)]⟩, ⟨some 13, none, .mv, [.tm 12]⟩, ⟨some 14, some (13, false), .mv, [.tm 5]⟩, ⟨some 15, some (13, false), .po (.bin .lss), [.tm 14, .cn (.n .i64 (-1048576))]⟩, ⟨some 16, none, .pick, [.tm 13, .cn (.b true), .tm 15]⟩] [3, 5, 7, 8, 16]) (.cond (.tm 16) (.seq (.reg [⟨some 2, none, .mv, [.cn (.n .i64 4)]⟩] [2]) .ret) .skip)) (.seq (.reg [⟨some 17, none, .mv, [.tm 5]⟩, ⟨some 18, none, .po (.bin .neq), [.tm 17, .cn (.n .i64 0)]⟩] [3, 7, 8, 18]) (.cond (.tm 18) (.reg [⟨some 19, none, .mv, [.tm 3]⟩, ⟨some 20, none, .po (.bin .add), [.tm 19, .cn (.n .i64 1)]⟩, ⟨some 3, none, .mv, [.tm 20]⟩] [3, 7, 8]) .skip))))) (.reg [⟨some 21, none, .po (.bin .add), [.tm 8, .cn (.n .i64 1)]⟩, ⟨some 8, none, .mv, [.tm 21]⟩] [3, 7, 8])))
/-- spyglass/spyref1.VecErr -/
def F13 : Fn1 := ⟨24, .seq (.reg [⟨some 1, none, .box, [.tm 0]⟩, ⟨some 2, none, .mv, [.cn (.n .i64 0)]⟩] [1]) (.seq (.reg [⟨some 3, none, .mv, [.cn (.n .i64 0)]⟩] [1, 3]) (.seq (.seq (.reg [⟨some 6, none, .ld true 3 false, [.tm 1]⟩, ⟨some 7, none, .call 70, [.tm 6]⟩, ⟨some 8, none, .mv, [.cn (.n .i64 0)]⟩] [3, 7, 8]) (.block 0 (.loop [3, 7, 8] L13_0))) (.seq (.seq (.reg [⟨some 22, none, .mv, [.tm 3]⟩, ⟨some 23, none, .po (.bin .eql), [.tm 22, .cn (.n .i64 0)]⟩] [23]) (.cond (.tm 23) (.seq (.reg [⟨some 2, none, .mv, [.cn (.n .i64 8)]⟩] [2]) .ret) .skip)) (.seq (.reg [⟨some 2, none, .mv, [.cn (.n .i64 0)]⟩] [2]) .ret)))), [.tm 2]⟩
theorem of13 : Fn1.of Tryz.prog 13 ⟨false, [], false⟩ [[1], [1, 3], [3, 7, 8], [3, 7, 8], [3, 7, 8, 9], [3, 5, 7, 8], [3, 5, 7, 8, 16], [2], [3, 7, 8, 18], [3, 7, 8], [3, 7, 8], [23], [2], [2]] = some F13 := by kernel_rfl
/-- live: [1, 2, 3] -/
def L51_0 : SC := .seq (.seq (.reg [⟨some 8, none, .fa 0, [.tm 1]⟩, ⟨some 9, none, .ld false 1 false, [.tm 8]⟩, ⟨some 10, none, .mv, [.tm 3]⟩, ⟨some 11, none, .po (.bin .mul), [.tm 9, .tm 10]⟩, ⟨some 12, none, .po (.bin .mul), [.tm 11, .cn (.n .i64 2)]⟩, ⟨some 13, none, .fa 1, [.tm 1]⟩, ⟨some 14, none, .ld false 1 false, [.tm 13]⟩, ⟨some 15, none, .mv, [.tm 3]⟩, ⟨some 16, none, .po (.bin .mul), [.tm 14, .tm 15]⟩, ⟨some 17, none, .po (.bin .mul), [.tm 16, .cn (.n .i64 2)]⟩, ⟨some 18, none, .fa 2, [.tm 1]⟩, ⟨some 19, none, .ld false 1 false, [.tm 18]⟩, ⟨some 20, none, .mv, [.tm 3]⟩, ⟨some 21, none, .po (.bin .mul), [.tm 19, .tm 20]⟩, ⟨some 22, none, .po (.bin .mul), [.tm 21, .cn (.n .i64 2)]⟩, ⟨some 23, none, .po (.build [.n .i64 0, .n .i64 0, .n .i64 0] [(0, 1), (1, 1), (2, 1)]), [.tm 12, .tm 17, .tm 22]⟩, ⟨some 24, none, .call 13, [.tm 23]⟩, ⟨some 25, none, .po (.bin .eql), [.tm 24, .cn (.n .i64 0)]⟩] [1, 2, 3, 25]) (.cond (.tm 25) .skip (.exit 0))) (.block 1 (.reg [⟨some 26, none, .mv, [.tm 3]⟩, ⟨some 27, none, .po (.bin .mul), [.tm 26, .cn (.n .i64 2)]⟩, ⟨some 3, none, .mv, [.tm 27]⟩] [1, 2, 3]))
/-- spyglass/spyref1.Grown -/
def F51 : Fn1 := ⟨41, .seq (.reg [⟨some 1, none, .box, [.tm 0]⟩, ⟨some 2, none, .alloc [.n .i64 0, .n .i64 0, .n .i64 0], []⟩] [1, 2]) (.seq (.seq (.reg [⟨some 4, none, .ld true 3 false, [.tm 1]⟩, ⟨some 5, none, .call 13, [.tm 4]⟩, ⟨some 6, none, .po (.bin .neq), [.tm 5, .cn (.n .i64 0)]⟩] [1, 2, 6]) (.cond (.tm 6) (.seq (.reg [⟨some 7, none, .po (.build [.n .i64 0, .n .i64 0, .n .i64 0] []), []⟩, ⟨none, none, .st 3, [.tm 2, .tm 7]⟩] [2]) .ret) .skip)) (.seq (.reg [⟨some 3, none, .mv, [.cn (.n .i64 1)]⟩] [1, 2, 3]) (.seq (.block 0 (.loop [1, 2, 3] L51_0)) (.seq (.reg [⟨some 28, none, .fa 0, [.tm 1]⟩, ⟨some 29, none, .ld false 1 false, [.tm 28]⟩, ⟨some 30, none, .mv, [.tm 3]⟩, ⟨some 31, none, .po (.bin .mul), [.tm 29, .tm 30]⟩, ⟨some 32, none, .fa 1, [.tm 1]⟩, ⟨some 33, none, .ld false 1 false, [.tm 32]⟩, ⟨some 34, none, .mv, [.tm 3]⟩, ⟨some 35, none, .po (.bin .mul), [.tm 33, .tm 34]⟩, ⟨some 36, none, .fa 2, [.tm 1]⟩, ⟨some 37, none, .ld false 1 false, [.tm 36]⟩, ⟨some 38, none, .mv, [.tm 3]⟩, ⟨some 39, none, .po (.bin .mul), [.tm 37, .tm 38]⟩, ⟨some 40, none, .po (.build [.n .i64 0, .n .i64 0, .n .i64 0] [(0, 1), (1, 1), (2, 1)]), [.tm 31, .tm 35, .tm 39]⟩, ⟨none, none, .st 3, [.tm 2, .tm 40]⟩] [2]) .ret)))), [.cell 2 true 3]⟩
theorem of51 : Fn1.of Tryz.prog 51 ⟨false, [], false⟩ [[1, 2], [1, 2, 6], [2], [1, 2, 3], [1, 2, 3], [1, 2, 3, 25], [1, 2, 3], [2]] = some F51 := by kernel_rfl
theorem orE_ok (l : List Int) (t : Bool) (hl : l.length ≤ 1000000) : Pure Tryz.prog 31 [.sl l.length (l.flatMap ni) t] (.n .i64 (or0 l)) := by
  refine pure_of_wp of31 (Nat.le_of_ble_eq_true rfl) ?_
  refine loop_ind (fun (i : Int) => ⟨[(3, .v (.n .i64 0)), (6, .v (.sl l.length (l.flatMap ni) t)), (7, .v (.n .i64 l.length)), (8, .v (.n .i64 i))], []⟩) (fun i => l.length - i.toNat)
    (fun i => 0 ≤ i ∧ i ≤ l.length ∧ or0 (l.drop i.toNat) = or0 l) 0 (by simp) ?_
  intro iz ⟨h1, h2, h3⟩ ih
  obtain ⟨i, rfl⟩ : ∃ i : Nat, iz = i := ⟨iz.toNat, by omega⟩
  simp only [Int.toNat_natCast] at h3
  refine DecK.dec (fun h => ?_) (fun h => ?_)
  · obtain ⟨x, hx, ex⟩ := drop_at (l := l) (k := i) (by omega)
    refine OptK.mk _ (ria i rfl (by omega)) ?_
    refine OptK.mk _ (rld1 (g := fun x => .n .i64 x) hx) ?_
    rw [ex, or0] at h3
    refine DecK.bne (fun h0 => ?_) (fun h0 => ?_)
    · ((repeat' first | refine DecK.tt ?_ | refine DecK.ff ?_ | refine DecK.beq (fun _ => ?_) (fun _ => ?_) | refine DecK.bne (fun _ => ?_) (fun _ => ?_) | refine DecK.dec (fun _ => ?_) (fun _ => ?_) | refine OptK.mk _ rfl ?_ | refine endV (by rfl) ?_) <;> (try with_reducible rfl))
      rw [if_pos h0] at h3
      rw [h3]
    · have w : IntKind.i64.wrap ((i : Int) + 1) = ((i + 1 : Nat) : Int) := by simp (discharger := omega) only [w64, wu64, wu8, w32, wu32, tdivC, tmodC]; omega
      refine ih _ ⟨?_, ?_, ?_⟩ ?_
      all_goals simp only [w, Int.toNat_natCast]
      · omega
      · omega
      · rw [if_neg (by simpa using h0)] at h3; exact h3
      · omega
  · ((repeat' first | refine DecK.tt ?_ | refine DecK.ff ?_ | refine DecK.beq (fun _ => ?_) (fun _ => ?_) | refine DecK.bne (fun _ => ?_) (fun _ => ?_) | refine DecK.dec (fun _ => ?_) (fun _ => ?_) | refine OptK.mk _ rfl ?_ | refine endV (by rfl) ?_) <;> (try with_reducible rfl))
    rw [List.drop_eq_nil_of_le (by omega), or0] at h3
    rw [← h3]
abbrev vecC (x y z : Int) : List V := [.n .i64 x, .n .i64 y, .n .i64 z]
abbrev vecV (x y z : Int) : V := .agg (vecC x y z)
def vecErr (x y z : Int) : Int :=
  if x > 1048576 ∨ x < -1048576 ∨ y > 1048576 ∨ y < -1048576 ∨ z > 1048576 ∨ z < -1048576 then 4 else if x = 0 ∧ y = 0 ∧ z = 0 then 8 else 0
theorem eqVec {objs : List (Nat × List V)} (x y z a b c : Int) : (SO.po (.veq false [(0, .n), (1, .n), (2, .n)])).rdx objs [.v (vecV x y z), .v (vecV a b c)] = some (.v (.b (decide (x = a ∧ y = b ∧ z = c)))) := by
  simp [SO.rdx, SO.rd, allV, PO.run, veqV, eqLv, eqk]
  by_cases h1 : x = a <;> by_cases h2 : y = b <;> by_cases h3 : z = c <;> simp [h1, h2, h3]
theorem vecCheck (x y z : Int) : Pure Tryz.prog 32 [vecV x y z] (.n .i64 (vecErr x y z)) := by
  refine pure_of_wp of32 (Nat.le_of_ble_eq_true rfl) ?_
  unfold vecErr
  repeat' first | (refine OptK.mk _ (eqVec _ _ _ _ _ _) ?_) | refine DecK.tt ?_ | refine DecK.ff ?_ | refine DecK.beq (fun _ => ?_) (fun _ => ?_) | refine DecK.bne (fun _ => ?_) (fun _ => ?_) | refine DecK.dec (fun _ => ?_) (fun _ => ?_) | refine OptK.mk _ rfl ?_ | refine endV (by rfl) ?_
  all_goals simp only [V.tup.injEq, V.agg.injEq, V.n.injEq, V.b.injEq, V.s.injEq, List.cons.injEq, true_and, and_true]
  all_goals omega
theorem three_ok (x y z : Int) : Pure Tryz.prog 70 [vecV x y z] (vecV x y z) := by
  refine pure_of_wp of70 (Nat.le_of_ble_eq_true rfl) ?_
  ((repeat' first | refine DecK.tt ?_ | refine DecK.ff ?_ | refine DecK.beq (fun _ => ?_) (fun _ => ?_) | refine DecK.bne (fun _ => ?_) (fun _ => ?_) | refine DecK.dec (fun _ => ?_) (fun _ => ?_) | refine OptK.mk _ rfl ?_ | refine endV (by rfl) ?_) <;> (try with_reducible rfl))
  rfl
theorem vecErr2 (x y z : Int) : Pure Tryz.prog 13 [vecV x y z] (.n .i64 (vecErr x y z)) := by
  refine pure_of_wp of13 (Nat.le_of_ble_eq_true rfl) ?_
  unfold vecErr
  refine CallK.mk _ (three_ok x y z) rfl ?_
  iterate 4
    all_goals try refine loop_unroll ?_
    all_goals repeat' first | (refine DecK.yes rfl ?_) | (refine DecK.no rfl ?_) | refine DecK.tt ?_ | refine DecK.ff ?_ | refine DecK.beq (fun _ => ?_) (fun _ => ?_) | refine DecK.bne (fun _ => ?_) (fun _ => ?_) | refine DecK.dec (fun _ => ?_) (fun _ => ?_) | refine OptK.mk _ rfl ?_ | refine endV (by rfl) ?_
  all_goals simp only [V.tup.injEq, V.agg.injEq, V.n.injEq, V.b.injEq, V.s.injEq, List.cons.injEq, true_and, and_true]
  all_goals omega
/-- A vector doubled as long as it stays in its range. -/
def growF : Nat → Int → Int → Int → Int × Int × Int
  | 0, x, y, z => (x, y, z)
  | n + 1, x, y, z => if vecErr (2 * x) (2 * y) (2 * z) = 0 then growF n (2 * x) (2 * y) (2 * z) else (x, y, z)
def growV (x y z : Int) : Int × Int × Int := if vecErr x y z = 0 then growF 21 x y z else (0, 0, 0)
theorem growF_ok : ∀ {n : Nat} {x y z : Int}, vecErr x y z = 0 → vecErr (growF n x y z).1 (growF n x y z).2.1 (growF n x y z).2.2 = 0
  | 0, _, _, _, h => h
  | n + 1, x, y, z, h => by
    unfold growF
    split
    · exact growF_ok (by assumption)
    · exact h
theorem vecErr_in {x y z : Int} (h : vecErr x y z = 0) : -1048576 ≤ x ∧ x ≤ 1048576 ∧ -1048576 ≤ y ∧ y ≤ 1048576 ∧ -1048576 ≤ z ∧ z ≤ 1048576 ∧ ¬ (x = 0 ∧ y = 0 ∧ z = 0) := by
  unfold vecErr at h
  omega
/-- Some component leaves its range after n doublings. -/
def tops : Nat → Int → Int → Int → Prop
  | 0, x, y, z => vecErr x y z ≠ 0
  | n + 1, x, y, z => tops n (2 * x) (2 * y) (2 * z)
theorem tops_top : ∀ (n : Nat) {x y z : Int}, (1048576 < 2 ^ n * x ∨ 2 ^ n * x < -1048576 ∨ 1048576 < 2 ^ n * y ∨ 2 ^ n * y < -1048576 ∨ 1048576 < 2 ^ n * z ∨ 2 ^ n * z < -1048576) → tops n x y z
  | 0, x, y, z, h => by unfold tops vecErr; omega
  | n + 1, x, y, z, h => by
    refine tops_top n ?_
    have e : ∀ u : Int, (2 : Int) ^ n * (2 * u) = 2 ^ (n + 1) * u := fun u => by rw [Int.pow_succ, Int.mul_assoc]
    rw [e, e, e]
    exact h
theorem tops_21 {x y z : Int} (h : vecErr x y z = 0) : tops 21 x y z := by
  have := vecErr_in h
  refine tops_top 21 ?_
  omega
theorem grow_ok (x y z : Int) : Pure Tryz.prog 34 [vecV x y z] (vecV (growV x y z).1 (growV x y z).2.1 (growV x y z).2.2) := by
  refine pure_of_wp of34 (Nat.le_of_ble_eq_true rfl) ?_
  refine CallK.mk _ (vecCheck x y z) rfl ?_
  refine DecK.bne (fun h => ?_) (fun h => ?_)
  · ((repeat' first | refine DecK.tt ?_ | refine DecK.ff ?_ | refine DecK.beq (fun _ => ?_) (fun _ => ?_) | refine DecK.bne (fun _ => ?_) (fun _ => ?_) | refine DecK.dec (fun _ => ?_) (fun _ => ?_) | refine OptK.mk _ rfl ?_ | refine endV (by rfl) ?_) <;> (try with_reducible rfl))
    rw [growV, if_neg h]; rfl
  have e : growV x y z = growF 21 x y z := by rw [growV, if_pos h]
  rw [e]
  have ht := tops_21 h
  refine loop_ind4 (fun (n : Nat) (a b c : Int) => ⟨[(1, .ref 1 0), (2, .ref 2 0)], [(2, [.n .i64 0, .n .i64 0, .n .i64 0]), (1, vecC a b c)]⟩) (fun n a b c => n) (fun n a b c => vecErr a b c = 0 ∧ tops n a b c ∧ growF n a b c = growF 21 x y z) 21 x y z ⟨h, ht, rfl⟩ ?_
  intro n a b c ⟨h1, h2, h3⟩ ih
  cases n with
  | zero => exact absurd h1 h2
  | succ n =>
    have hb := vecErr_in h1
    have w1 : IntKind.i64.wrap (2 * a) = 2 * a := w64 (by omega)
    have w2 : IntKind.i64.wrap (2 * b) = 2 * b := w64 (by omega)
    have w3 : IntKind.i64.wrap (2 * c) = 2 * c := w64 (by omega)
    refine OptK.mk _ rfl ?_
    refine CallK.mk _ ((vecCheck (2 * a) (2 * b) (2 * c)).args (by simp only [w1, w2, w3]; rfl)) rfl ?_
    refine DecK.bne (fun g => ?_) (fun g => ?_)
    · rw [growF, if_neg g] at h3
      ((repeat' first | refine DecK.tt ?_ | refine DecK.ff ?_ | refine DecK.beq (fun _ => ?_) (fun _ => ?_) | refine DecK.bne (fun _ => ?_) (fun _ => ?_) | refine DecK.dec (fun _ => ?_) (fun _ => ?_) | refine OptK.mk _ rfl ?_ | refine endV (by rfl) ?_) <;> (try with_reducible rfl))
      rw [← h3]; rfl
    · rw [growF, if_pos g] at h3
      refine OptK.mk _ rfl ?_
      refine loop_eq ?_ (ih n (2 * a) (2 * b) (2 * c) ⟨g, h2, h3⟩ (by omega))
      simp only [w1, w2, w3]; rfl
theorem grown_ok (x y z : Int) : Pure Tryz.prog 51 [vecV x y z] (vecV (growV x y z).1 (growV x y z).2.1 (growV x y z).2.2) := by
  refine pure_of_wp of51 (Nat.le_of_ble_eq_true rfl) ?_
  refine CallK.mk _ (vecErr2 x y z) rfl ?_
  refine DecK.bne (fun h => ?_) (fun h => ?_)
  · ((repeat' first | refine DecK.tt ?_ | refine DecK.ff ?_ | refine DecK.beq (fun _ => ?_) (fun _ => ?_) | refine DecK.bne (fun _ => ?_) (fun _ => ?_) | refine DecK.dec (fun _ => ?_) (fun _ => ?_) | refine OptK.mk _ rfl ?_ | refine endV (by rfl) ?_) <;> (try with_reducible rfl))
    rw [growV, if_neg h]; rfl
  have e : growV x y z = growF 21 x y z := by rw [growV, if_pos h]
  rw [e]
  have ht := tops_21 h
  have hx := vecErr_in h
  refine loop_ind2 (fun (n : Nat) (k : Int) => ⟨[(1, .ref 1 0), (2, .ref 2 0), (3, .v (.n .i64 k))], [(2, [.n .i64 0, .n .i64 0, .n .i64 0]), (1, vecC x y z)]⟩) (fun n k => n)
    (fun n k => 1 ≤ k ∧ k * 2 ^ n = 2097152 ∧ vecErr (x * k) (y * k) (z * k) = 0 ∧ tops n (x * k) (y * k) (z * k) ∧ growF n (x * k) (y * k) (z * k) = growF 21 x y z) 21 1 ⟨by decide, by decide, by simpa using h, by simpa using ht, by simp⟩ ?_
  intro n k ⟨h0, hk, h1, h2, h3⟩ ih
  cases n with
  | zero => exact absurd h1 h2
  | succ n =>
    have hb := vecErr_in h1
    have w1 : IntKind.i64.wrap (x * k) = x * k := w64 (by omega)
    have w2 : IntKind.i64.wrap (y * k) = y * k := w64 (by omega)
    have w3 : IntKind.i64.wrap (z * k) = z * k := w64 (by omega)
    have v1 : IntKind.i64.wrap (x * k * 2) = 2 * (x * k) := by rw [w64 (by omega)]; omega
    have v2 : IntKind.i64.wrap (y * k * 2) = 2 * (y * k) := by rw [w64 (by omega)]; omega
    have v3 : IntKind.i64.wrap (z * k * 2) = 2 * (z * k) := by rw [w64 (by omega)]; omega
    have u1 : 2 * (x * k) = x * (k * 2) := by rw [Int.mul_comm 2, Int.mul_assoc]
    have u2 : 2 * (y * k) = y * (k * 2) := by rw [Int.mul_comm 2, Int.mul_assoc]
    have u3 : 2 * (z * k) = z * (k * 2) := by rw [Int.mul_comm 2, Int.mul_assoc]
    have hk2 : k ≤ 2097152 := by
      have hp : (0 : Int) < 2 ^ (n + 1) := Int.pow_pos (by decide)
      have := Int.mul_le_mul_of_nonneg_left (show (1 : Int) ≤ 2 ^ (n + 1) by omega) (show 0 ≤ k by omega)
      omega
    have wk : IntKind.i64.wrap (k * 2) = k * 2 := w64 (by omega)
    refine CallK.mk _ ((vecErr2 (2 * (x * k)) (2 * (y * k)) (2 * (z * k))).args (by rw [← v1, ← v2, ← v3]; simp only [w1, w2, w3]; rfl)) rfl ?_
    refine DecK.beq (fun g => ?_) (fun g => ?_)
    · rw [growF, if_pos g] at h3
      rw [tops] at h2
      rw [u1, u2, u3] at g h2 h3
      refine loop_eq ?_ (ih n (k * 2) ⟨by omega, by rw [← hk, Int.pow_succ, Int.mul_comm (2 ^ n) 2, Int.mul_assoc], g, h2, h3⟩ (by omega))
      rw [wk]
    · rw [growF, if_neg g] at h3
      ((repeat' first | refine DecK.tt ?_ | refine DecK.ff ?_ | refine DecK.beq (fun _ => ?_) (fun _ => ?_) | refine DecK.bne (fun _ => ?_) (fun _ => ?_) | refine DecK.dec (fun _ => ?_) (fun _ => ?_) | refine OptK.mk _ rfl ?_ | refine endV (by rfl) ?_) <;> (try with_reducible rfl))
      rw [← h3]
      simp only [w1, w2, w3]
      rfl
end Go.Proofs.YtciigfeecmnghaaRRRRGreatRR.Sv
