/- Bounds of numbers of a type that are fused. No condition. -/
import Derived.Test.YtciigfeecmnghaaRRRRGreatRRBp
import Derived.Test.YtciigfeecmnghaaRRRRGreatRRBcFix
import Derived.Test.YtciigfeecmnghaaRRRRGreatRRWc
namespace Go.Proofs.YtciigfeecmnghaaRRRRGreatRR.Sv
open Go Go.RowKit
set_option linter.unusedVariables false
set_option linter.unusedSimpArgs false
set_option maxRecDepth 100000
/-- live: [0, 3, 4] -/
def L150_0 : SC := .seq (.seq (.reg [⟨some 12, none, .mv, [.tm 4]⟩, ⟨some 13, none, .mv, [.tm 0]⟩, ⟨some 14, none, .len false, [.tm 13]⟩, ⟨some 15, none, .po (.bin .lss), [.tm 12, .tm 14]⟩] [0, 3, 4, 15]) (.cond (.tm 15) .skip (.exit 0))) (.seq (.block 1 (.reg [⟨some 18, none, .mv, [.tm 3]⟩, ⟨some 19, none, .mv, [.tm 0]⟩, ⟨some 20, none, .mv, [.tm 4]⟩, ⟨some 21, none, .ia none 1, [.tm 19, .tm 20]⟩, ⟨some 22, none, .ld false 1 true, [.tm 21]⟩, ⟨some 23, none, .po .mn, [.tm 18, .tm 22]⟩, ⟨some 3, none, .mv, [.tm 23]⟩] [0, 3, 4])) (.reg [⟨some 16, none, .mv, [.tm 4]⟩, ⟨some 17, none, .po (.bin .add), [.tm 16, .cn (.n .i64 1)]⟩, ⟨some 4, none, .mv, [.tm 17]⟩] [0, 3, 4]))
/-- slices.Min(()spyglass/api.Fix,spyglass/api.Fix) -/
def F150 : Fn1 := ⟨25, .seq (.reg [⟨some 2, none, .mv, [.cn (.n .i64 0)]⟩] [0]) (.seq (.seq (.reg [⟨some 5, none, .mv, [.tm 0]⟩, ⟨some 6, none, .len false, [.tm 5]⟩, ⟨some 7, none, .po (.bin .lss), [.tm 6, .cn (.n .i64 1)]⟩] [0, 7]) (.cond (.tm 7) (.reg [⟨some 8, none, .po (.mkI 9), [.cn (.s (⟨⟨[115, 108, 105, 99, 101, 115, 46, 77, 105, 110, 58, 32, 101, 109, 112, 116, 121, 32, 108, 105, 115, 116]⟩⟩ : ByteArray))]⟩, ⟨none, none, .bad, []⟩] [0]) .skip)) (.seq (.reg [⟨some 9, none, .mv, [.tm 0]⟩, ⟨some 10, none, .ia none 1, [.tm 9, .cn (.n .i64 0)]⟩, ⟨some 11, none, .ld false 1 true, [.tm 10]⟩, ⟨some 3, none, .mv, [.tm 11]⟩] [0, 3]) (.seq (.seq (.reg [⟨some 4, none, .mv, [.cn (.n .i64 1)]⟩] [0, 3, 4]) (.block 0 (.loop [0, 3, 4] L150_0))) (.seq (.reg [⟨some 24, none, .mv, [.tm 3]⟩, ⟨some 2, none, .mv, [.tm 24]⟩] [2]) .ret)))), [.tm 2]⟩
theorem of150 : Fn1.of Tryz.prog 150 ⟨false, [], false⟩ [[0], [0, 7], [0], [0, 3], [0, 3, 4], [0, 3, 4], [0, 3, 4, 15], [0, 3, 4], [0, 3, 4], [2]] = some F150 := by kernel_rfl
/-- live: [0, 3, 4] -/
def L151_0 : SC := .seq (.seq (.reg [⟨some 12, none, .mv, [.tm 4]⟩, ⟨some 13, none, .mv, [.tm 0]⟩, ⟨some 14, none, .len false, [.tm 13]⟩, ⟨some 15, none, .po (.bin .lss), [.tm 12, .tm 14]⟩] [0, 3, 4, 15]) (.cond (.tm 15) .skip (.exit 0))) (.seq (.block 1 (.reg [⟨some 18, none, .mv, [.tm 3]⟩, ⟨some 19, none, .mv, [.tm 0]⟩, ⟨some 20, none, .mv, [.tm 4]⟩, ⟨some 21, none, .ia none 1, [.tm 19, .tm 20]⟩, ⟨some 22, none, .ld false 1 true, [.tm 21]⟩, ⟨some 23, none, .po .mx, [.tm 18, .tm 22]⟩, ⟨some 3, none, .mv, [.tm 23]⟩] [0, 3, 4])) (.reg [⟨some 16, none, .mv, [.tm 4]⟩, ⟨some 17, none, .po (.bin .add), [.tm 16, .cn (.n .i64 1)]⟩, ⟨some 4, none, .mv, [.tm 17]⟩] [0, 3, 4]))
/-- slices.Max(()spyglass/api.Fix,spyglass/api.Fix) -/
def F151 : Fn1 := ⟨25, .seq (.reg [⟨some 2, none, .mv, [.cn (.n .i64 0)]⟩] [0]) (.seq (.seq (.reg [⟨some 5, none, .mv, [.tm 0]⟩, ⟨some 6, none, .len false, [.tm 5]⟩, ⟨some 7, none, .po (.bin .lss), [.tm 6, .cn (.n .i64 1)]⟩] [0, 7]) (.cond (.tm 7) (.reg [⟨some 8, none, .po (.mkI 9), [.cn (.s (⟨⟨[115, 108, 105, 99, 101, 115, 46, 77, 97, 120, 58, 32, 101, 109, 112, 116, 121, 32, 108, 105, 115, 116]⟩⟩ : ByteArray))]⟩, ⟨none, none, .bad, []⟩] [0]) .skip)) (.seq (.reg [⟨some 9, none, .mv, [.tm 0]⟩, ⟨some 10, none, .ia none 1, [.tm 9, .cn (.n .i64 0)]⟩, ⟨some 11, none, .ld false 1 true, [.tm 10]⟩, ⟨some 3, none, .mv, [.tm 11]⟩] [0, 3]) (.seq (.seq (.reg [⟨some 4, none, .mv, [.cn (.n .i64 1)]⟩] [0, 3, 4]) (.block 0 (.loop [0, 3, 4] L151_0))) (.seq (.reg [⟨some 24, none, .mv, [.tm 3]⟩, ⟨some 2, none, .mv, [.tm 24]⟩] [2]) .ret)))), [.tm 2]⟩
theorem of151 : Fn1.of Tryz.prog 151 ⟨false, [], false⟩ [[0], [0, 7], [0], [0, 3], [0, 3, 4], [0, 3, 4], [0, 3, 4, 15], [0, 3, 4], [0, 3, 4], [2]] = some F151 := by kernel_rfl
theorem minSFix (x : Int) (l : List Int) (t : Bool) (hl : l.length ≤ 4000000) : Pure Tryz.prog 150 [.sl (x :: l).length ((x :: l).flatMap ni) t] (.n .i64 (l.foldl min x)) := by
  refine pure_of_wp of150 (Nat.le_of_ble_eq_true rfl) ?_
  refine DecK.no (decide_eq_false (by simp; omega)) ?_
  refine OptK.mk _ (ria 0 rfl (by simp)) ?_
  refine OptK.mk _ (rld1 (g := fun x => .n .i64 x) (l := x :: l) (m := 0) rfl) ?_
  refine loop_ind2 (fun (m i : Int) => ⟨[(0, .v (.sl (x :: l).length ((x :: l).flatMap ni) t)), (3, .v (.n .i64 m)), (4, .v (.n .i64 i))], []⟩) (fun m i => l.length + 1 - i.toNat)
    (fun m i => 1 ≤ i ∧ i ≤ l.length + 1 ∧ ((x :: l).drop i.toNat).foldl min m = l.foldl min x) x 1 (by simp; omega) ?_
  intro m iz ⟨h1, h2, h3⟩ ih
  obtain ⟨i, rfl⟩ : ∃ i : Nat, iz = i := ⟨iz.toNat, by omega⟩
  simp only [Int.toNat_natCast] at h3
  refine DecK.dec (fun h => ?_) (fun h => ?_)
  · simp only [List.length_cons] at h
    obtain ⟨y, hy, ey, my, _⟩ := at_ex' (l := x :: l) (k := i) (by simp only [List.length_cons]; omega)
    have wi : IntKind.i64.wrap ((i : Int) + 1) = ((i + 1 : Nat) : Int) := by simp (discharger := omega) only [w64, wu64, wu8, w32, wu32, tdivC, tmodC]; omega
    rw [ey, List.foldl_cons] at h3
    refine OptK.mk _ (ria i rfl (by simp only [List.length_cons]; omega)) ?_
    refine OptK.mk _ (rld1 (g := fun x => .n .i64 x) hy) ?_
    have em : (if y < m then y else m) = min m y := by omega
    refine ih _ _ ⟨?_, ?_, ?_⟩ ?_
    all_goals try simp only [wi, em, Int.toNat_natCast]
    · omega
    · omega
    · exact h3
    · omega
  · simp only [List.length_cons] at h
    ((repeat' first | refine DecK.tt ?_ | refine DecK.ff ?_ | refine DecK.beq (fun _ => ?_) (fun _ => ?_) | refine DecK.bne (fun _ => ?_) (fun _ => ?_) | refine DecK.dec (fun _ => ?_) (fun _ => ?_) | refine OptK.mk _ rfl ?_ | refine endV (by rfl) ?_) <;> (try with_reducible rfl))
    rw [List.drop_eq_nil_of_le (by simp only [List.length_cons]; omega), List.foldl_nil] at h3
    rw [h3]
theorem maxSFix (x : Int) (l : List Int) (t : Bool) (hl : l.length ≤ 4000000) : Pure Tryz.prog 151 [.sl (x :: l).length ((x :: l).flatMap ni) t] (.n .i64 (l.foldl max x)) := by
  refine pure_of_wp of151 (Nat.le_of_ble_eq_true rfl) ?_
  refine DecK.no (decide_eq_false (by simp; omega)) ?_
  refine OptK.mk _ (ria 0 rfl (by simp)) ?_
  refine OptK.mk _ (rld1 (g := fun x => .n .i64 x) (l := x :: l) (m := 0) rfl) ?_
  refine loop_ind2 (fun (m i : Int) => ⟨[(0, .v (.sl (x :: l).length ((x :: l).flatMap ni) t)), (3, .v (.n .i64 m)), (4, .v (.n .i64 i))], []⟩) (fun m i => l.length + 1 - i.toNat)
    (fun m i => 1 ≤ i ∧ i ≤ l.length + 1 ∧ ((x :: l).drop i.toNat).foldl max m = l.foldl max x) x 1 (by simp; omega) ?_
  intro m iz ⟨h1, h2, h3⟩ ih
  obtain ⟨i, rfl⟩ : ∃ i : Nat, iz = i := ⟨iz.toNat, by omega⟩
  simp only [Int.toNat_natCast] at h3
  refine DecK.dec (fun h => ?_) (fun h => ?_)
  · simp only [List.length_cons] at h
    obtain ⟨y, hy, ey, my, _⟩ := at_ex' (l := x :: l) (k := i) (by simp only [List.length_cons]; omega)
    have wi : IntKind.i64.wrap ((i : Int) + 1) = ((i + 1 : Nat) : Int) := by simp (discharger := omega) only [w64, wu64, wu8, w32, wu32, tdivC, tmodC]; omega
    rw [ey, List.foldl_cons] at h3
    refine OptK.mk _ (ria i rfl (by simp only [List.length_cons]; omega)) ?_
    refine OptK.mk _ (rld1 (g := fun x => .n .i64 x) hy) ?_
    have em : (if y > m then y else m) = max m y := by omega
    refine ih _ _ ⟨?_, ?_, ?_⟩ ?_
    all_goals try simp only [wi, em, Int.toNat_natCast]
    · omega
    · omega
    · exact h3
    · omega
  · simp only [List.length_cons] at h
    ((repeat' first | refine DecK.tt ?_ | refine DecK.ff ?_ | refine DecK.beq (fun _ => ?_) (fun _ => ?_) | refine DecK.bne (fun _ => ?_) (fun _ => ?_) | refine DecK.dec (fun _ => ?_) (fun _ => ?_) | refine OptK.mk _ rfl ?_ | refine endV (by rfl) ?_) <;> (try with_reducible rfl))
    rw [List.drop_eq_nil_of_le (by simp only [List.length_cons]; omega), List.foldl_nil] at h3
    rw [h3]
end Go.Proofs.YtciigfeecmnghaaRRRRGreatRR.Sv
