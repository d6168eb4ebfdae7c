/- The reference's whole numbers: sums and differences, products. No condition. -/
import Derived.Test.YtljcbmnkjiogmaaGreatDoorZc
namespace Go.Proofs.YtljcbmnkjiogmaaGreatDoor.Sv
open Go Go.RowKit
set_option linter.unusedVariables false
set_option linter.unusedSimpArgs false
set_option maxRecDepth 100000
/-- (spyglass/spyref1.Z).Plus -/
def F44 : Fn1 := ⟨42, .seq (.reg [⟨some 2, none, .box, [.tm 0]⟩, ⟨some 3, none, .box, [.tm 1]⟩, ⟨some 4, none, .alloc [.b false, .sl 0 [] true], []⟩] [2, 3, 4]) (.seq (.block 0 (.seq (.reg [⟨some 6, none, .fa 0, [.tm 2]⟩, ⟨some 7, none, .ld false 1 false, [.tm 6]⟩, ⟨some 8, none, .fa 0, [.tm 3]⟩, ⟨some 9, none, .ld false 1 false, [.tm 8]⟩, ⟨some 10, none, .po (.beq false), [.tm 7, .tm 9]⟩, ⟨some 5, none, .mv, [.tm 10]⟩] [2, 3, 4, 5]) (.cond (.tm 5) (.seq (.dreg [⟨some 11, none, .fa 0, [.tm 2]⟩, ⟨some 12, none, .ld false 1 false, [.tm 11]⟩, ⟨some 13, none, .fa 1, [.tm 2]⟩, ⟨some 14, none, .ld false 1 false, [.tm 13]⟩, ⟨some 15, none, .fa 1, [.tm 3]⟩, ⟨some 16, none, .ld false 1 false, [.tm 15]⟩, ⟨some 17, none, .call 68, [.tm 14, .tm 16, .cn (.n .i64 1)]⟩, ⟨some 18, none, .call 65, [.tm 12, .tm 17]⟩, ⟨none, none, .st 2, [.tm 4, .tm 18]⟩] [] [4]) .ret) (.seq (.reg [⟨some 20, none, .fa 1, [.tm 2]⟩, ⟨some 21, none, .ld false 1 false, [.tm 20]⟩, ⟨some 22, none, .fa 1, [.tm 3]⟩, ⟨some 23, none, .ld false 1 false, [.tm 22]⟩, ⟨some 24, none, .call 69, [.tm 21, .tm 23]⟩, ⟨some 25, none, .po (.bin .geq), [.tm 24, .cn (.n .i64 0)]⟩, ⟨some 19, none, .mv, [.tm 25]⟩] [2, 3, 4, 19]) (.cond (.tm 19) (.seq (.dreg [⟨some 26, none, .fa 0, [.tm 2]⟩, ⟨some 27, none, .ld false 1 false, [.tm 26]⟩, ⟨some 28, none, .fa 1, [.tm 2]⟩, ⟨some 29, none, .ld false 1 false, [.tm 28]⟩, ⟨some 30, none, .fa 1, [.tm 3]⟩, ⟨some 31, none, .ld false 1 false, [.tm 30]⟩, ⟨some 32, none, .call 68, [.tm 29, .tm 31, .cn (.n .i64 (-1))]⟩, ⟨some 33, none, .call 65, [.tm 27, .tm 32]⟩, ⟨none, none, .st 2, [.tm 4, .tm 33]⟩] [] [4]) .ret) .skip))))) (.seq (.dreg [⟨some 34, none, .fa 0, [.tm 3]⟩, ⟨some 35, none, .ld false 1 false, [.tm 34]⟩, ⟨some 36, none, .fa 1, [.tm 3]⟩, ⟨some 37, none, .ld false 1 false, [.tm 36]⟩, ⟨some 38, none, .fa 1, [.tm 2]⟩, ⟨some 39, none, .ld false 1 false, [.tm 38]⟩, ⟨some 40, none, .call 68, [.tm 37, .tm 39, .cn (.n .i64 (-1))]⟩, ⟨some 41, none, .call 65, [.tm 35, .tm 40]⟩, ⟨none, none, .st 2, [.tm 4, .tm 41]⟩] [] [4]) .ret)), [.cell 4 true 2]⟩
theorem of44 : Fn1.of Tryz.prog 44 ⟨false, [], false⟩ [[2, 3, 4], [2, 3, 4, 5], [4], [2, 3, 4, 19], [4], [4]] = some F44 := by kernel_rfl
/-- (spyglass/spyref1.Z).Less -/
def F41 : Fn1 := ⟨9, .seq (.reg [⟨some 2, none, .box, [.tm 0]⟩, ⟨some 3, none, .box, [.tm 1]⟩, ⟨some 4, none, .alloc [.b false, .sl 0 [] true], []⟩] [2, 3, 4]) (.seq (.dreg [⟨some 5, none, .ld true 2 false, [.tm 2]⟩, ⟨some 6, none, .ld true 2 false, [.tm 3]⟩, ⟨some 7, none, .call 63, [.tm 6]⟩, ⟨some 8, none, .call 44, [.tm 5, .tm 7]⟩, ⟨none, none, .st 2, [.tm 4, .tm 8]⟩] [] [4]) .ret), [.cell 4 true 2]⟩
theorem of41 : Fn1.of Tryz.prog 41 ⟨false, [], false⟩ [[2, 3, 4], [4]] = some F41 := by kernel_rfl
/-- live: [2, 3, 4, 5, 6, 7, 8, 21, 22, 23, 29, 30, 31] -/
def L66_0 : SC := .seq (.reg [⟨some 32, none, .po (.bin .lss), [.tm 31, .tm 30]⟩] [2, 3, 4, 5, 6, 7, 8, 21, 22, 23, 29, 30, 31, 32]) (.seq (.cond (.tm 32) .skip (.exit 2)) (.seq (.block 3 (.seq (.reg [⟨some 33, none, .mv, [.tm 31]⟩, ⟨some 34, none, .ia none 1, [.tm 29, .tm 31]⟩, ⟨some 35, none, .ld false 1 true, [.tm 34]⟩, ⟨some 9, none, .mv, [.tm 33]⟩, ⟨some 10, none, .mv, [.tm 35]⟩] [2, 3, 4, 5, 6, 7, 8, 9, 10, 21, 22, 23, 29, 30, 31]) (.seq (.reg [⟨some 36, none, .mv, [.tm 8]⟩, ⟨some 37, none, .mv, [.tm 5]⟩, ⟨some 38, none, .mv, [.tm 6]⟩, ⟨some 39, none, .mv, [.tm 9]⟩, ⟨some 40, none, .po (.bin .add), [.tm 38, .tm 39]⟩, ⟨some 41, none, .ia none 1, [.tm 37, .tm 40]⟩, ⟨some 42, none, .ld false 1 true, [.tm 41]⟩, ⟨some 43, none, .mv, [.tm 7]⟩, ⟨some 44, none, .mv, [.tm 10]⟩, ⟨some 45, none, .po (.bin .mul), [.tm 43, .tm 44]⟩, ⟨some 46, none, .po (.bin .add), [.tm 42, .tm 45]⟩, ⟨some 47, none, .po (.bin .add), [.tm 36, .tm 46]⟩, ⟨some 8, none, .mv, [.tm 47]⟩] [2, 3, 4, 5, 6, 7, 8, 9, 21, 22, 23, 29, 30, 31]) (.seq (.reg [⟨some 48, none, .mv, [.tm 5]⟩, ⟨some 49, none, .mv, [.tm 6]⟩, ⟨some 50, none, .mv, [.tm 9]⟩, ⟨some 51, none, .po (.bin .add), [.tm 49, .tm 50]⟩, ⟨some 52, none, .mv, [.tm 8]⟩, ⟨some 53, none, .po (.bin .rem), [.tm 52, .cn (.n .i64 1000000)]⟩, ⟨some 54, none, .ia none 1, [.tm 48, .tm 51]⟩, ⟨none, none, .st 1, [.tm 54, .tm 53]⟩] [2, 3, 4, 5, 6, 7, 8, 21, 22, 23, 29, 30, 31]) (.reg [⟨some 55, none, .mv, [.tm 8]⟩, ⟨some 56, none, .po (.bin .quo), [.tm 55, .cn (.n .i64 1000000)]⟩, ⟨some 8, none, .mv, [.tm 56]⟩] [2, 3, 4, 5, 6, 7, 8, 21, 22, 23, 29, 30, 31]))))) (.reg [⟨some 57, none, .po (.bin .add), [.tm 31, .cn (.n .i64 1)]⟩, ⟨some 31, none, .mv, [.tm 57]⟩] [2, 3, 4, 5, 6, 7, 8, 21, 22, 23, 29, 30, 31])))
/-- live: [2, 3, 4, 5, 21, 22, 23] -/
def L66_1 : SC := .seq (.reg [⟨some 24, none, .po (.bin .lss), [.tm 23, .tm 22]⟩] [2, 3, 4, 5, 21, 22, 23, 24]) (.seq (.cond (.tm 24) .skip (.exit 0)) (.seq (.block 1 (.seq (.reg [⟨some 25, none, .mv, [.tm 23]⟩, ⟨some 26, none, .ia none 1, [.tm 21, .tm 23]⟩, ⟨some 27, none, .ld false 1 true, [.tm 26]⟩, ⟨some 6, none, .mv, [.tm 25]⟩, ⟨some 7, none, .mv, [.tm 27]⟩] [2, 3, 4, 5, 6, 7, 21, 22, 23]) (.seq (.reg [⟨some 8, none, .mv, [.cn (.n .i64 0)]⟩] [2, 3, 4, 5, 6, 7, 8, 21, 22, 23]) (.seq (.seq (.reg [⟨some 28, none, .fa 1, [.tm 3]⟩, ⟨some 29, none, .ld false 1 false, [.tm 28]⟩, ⟨some 30, none, .len false, [.tm 29]⟩, ⟨some 31, none, .mv, [.cn (.n .i64 0)]⟩] [2, 3, 4, 5, 6, 7, 8, 21, 22, 23, 29, 30, 31]) (.block 2 (.loop [2, 3, 4, 5, 6, 7, 8, 21, 22, 23, 29, 30, 31] L66_0))) (.reg [⟨some 58, none, .mv, [.tm 5]⟩, ⟨some 59, none, .mv, [.tm 6]⟩, ⟨some 60, none, .fa 1, [.tm 3]⟩, ⟨some 61, none, .ld false 1 false, [.tm 60]⟩, ⟨some 62, none, .len false, [.tm 61]⟩, ⟨some 63, none, .po (.bin .add), [.tm 59, .tm 62]⟩, ⟨some 64, none, .ia none 1, [.tm 58, .tm 63]⟩, ⟨some 65, none, .ld false 1 true, [.tm 64]⟩, ⟨some 66, none, .mv, [.tm 8]⟩, ⟨some 67, none, .po (.bin .add), [.tm 65, .tm 66]⟩, ⟨some 68, none, .ia none 1, [.tm 58, .tm 63]⟩, ⟨none, none, .st 1, [.tm 68, .tm 67]⟩] [2, 3, 4, 5, 21, 22, 23]))))) (.reg [⟨some 69, none, .po (.bin .add), [.tm 23, .cn (.n .i64 1)]⟩, ⟨some 23, none, .mv, [.tm 69]⟩] [2, 3, 4, 5, 21, 22, 23])))
/-- (spyglass/spyref1.Z).Times -/
def F66 : Fn1 := ⟨77, .seq (.reg [⟨some 2, none, .box, [.tm 0]⟩, ⟨some 3, none, .box, [.tm 1]⟩, ⟨some 4, none, .alloc [.b false, .sl 0 [] true], []⟩] [2, 3, 4]) (.seq (.reg [⟨some 11, none, .fa 1, [.tm 2]⟩, ⟨some 12, none, .ld false 1 false, [.tm 11]⟩, ⟨some 13, none, .len false, [.tm 12]⟩, ⟨some 14, none, .fa 1, [.tm 3]⟩, ⟨some 15, none, .ld false 1 false, [.tm 14]⟩, ⟨some 16, none, .len false, [.tm 15]⟩, ⟨some 17, none, .po (.bin .add), [.tm 13, .tm 16]⟩, ⟨some 18, none, .po (.bin .add), [.tm 17, .cn (.n .i64 1)]⟩, ⟨some 19, none, .mk 1 8 [.n .i64 0], [.tm 18, .tm 18]⟩, ⟨some 5, none, .mv, [.tm 19]⟩] [2, 3, 4, 5]) (.seq (.seq (.reg [⟨some 20, none, .fa 1, [.tm 2]⟩, ⟨some 21, none, .ld false 1 false, [.tm 20]⟩, ⟨some 22, none, .len false, [.tm 21]⟩, ⟨some 23, none, .mv, [.cn (.n .i64 0)]⟩] [2, 3, 4, 5, 21, 22, 23]) (.block 0 (.loop [2, 3, 4, 5, 21, 22, 23] L66_1))) (.seq (.reg [⟨some 70, none, .fa 0, [.tm 2]⟩, ⟨some 71, none, .ld false 1 false, [.tm 70]⟩, ⟨some 72, none, .fa 0, [.tm 3]⟩, ⟨some 73, none, .ld false 1 false, [.tm 72]⟩, ⟨some 74, none, .po (.beq true), [.tm 71, .tm 73]⟩, ⟨some 75, none, .mv, [.tm 5]⟩, ⟨some 76, none, .call 65, [.tm 74, .tm 75]⟩, ⟨none, none, .st 2, [.tm 4, .tm 76]⟩] [4]) .ret))), [.cell 4 true 2]⟩
theorem of66 : Fn1.of Tryz.prog 66 ⟨false, [], false⟩ [[2, 3, 4], [2, 3, 4, 5], [2, 3, 4, 5, 21, 22, 23], [2, 3, 4, 5, 21, 22, 23], [2, 3, 4, 5, 21, 22, 23, 24], [2, 3, 4, 5, 6, 7, 21, 22, 23], [2, 3, 4, 5, 6, 7, 8, 21, 22, 23], [2, 3, 4, 5, 6, 7, 8, 21, 22, 23, 29, 30, 31], [2, 3, 4, 5, 6, 7, 8, 21, 22, 23, 29, 30, 31], [2, 3, 4, 5, 6, 7, 8, 21, 22, 23, 29, 30, 31, 32], [2, 3, 4, 5, 6, 7, 8, 9, 10, 21, 22, 23, 29, 30, 31], [2, 3, 4, 5, 6, 7, 8, 9, 21, 22, 23, 29, 30, 31], [2, 3, 4, 5, 6, 7, 8, 21, 22, 23, 29, 30, 31], [2, 3, 4, 5, 6, 7, 8, 21, 22, 23, 29, 30, 31], [2, 3, 4, 5, 6, 7, 8, 21, 22, 23, 29, 30, 31], [2, 3, 4, 5, 21, 22, 23], [2, 3, 4, 5, 21, 22, 23], [4]] = some F66 := by kernel_rfl
theorem sum_pos (a b : Nat) : zval (sumL 1 (max (digs a).length (digs b).length) (digs a) (digs b) 0) = a + b := by
  rw [sumL_val (.inl rfl) (digs_dig _) (digs_dig _) (by omega) (by omega) (by omega) (by rw [digs_val, digs_val]; omega), digs_val, digs_val]; omega
theorem sum_neg {a b : Nat} (h : b ≤ a) : zval (sumL (-1) (max (digs a).length (digs b).length) (digs a) (digs b) 0) = a - b := by
  rw [sumL_val (.inr rfl) (digs_dig _) (digs_dig _) (by omega) (by omega) (by omega) (by rw [digs_val, digs_val]; omega), digs_val, digs_val]; omega
theorem sum_trim (s : Int) (hs : s = 1 ∨ s = -1) {a b : Nat} (ha : (digs a).length ≤ 1000000) (hb : (digs b).length ≤ 1000000) (neg : Bool) :
    Pure Tryz.prog 65 [.b neg, intsV (sumL s (max (digs a).length (digs b).length) (digs a) (digs b) 0)] (zV (if neg then -zval (sumL s (max (digs a).length (digs b).length) (digs a) (digs b) 0) else zval (sumL s (max (digs a).length (digs b).length) (digs a) (digs b) 0))) :=
  trim_ok _ (sumL_dig hs (digs_dig _) (digs_dig _) (by omega)) (by have := sumL_len (s := s) (n := max (digs a).length (digs b).length) (a := digs a) (b := digs b) (c := 0); omega)
theorem Plus_ok (a b : Int) (ha : zok a) (hb : zok b) : Pure Tryz.prog 44 [zV a, zV b] (zV (a + b)) := by
  refine pure_of_wp of44 (Nat.le_of_ble_eq_true rfl) ?_
  have ha' : zok (a.natAbs : Int) := by unfold zok zb at *; omega
  have hb' : zok (b.natAbs : Int) := by unfold zok zb at *; omega
  have la := ha.len
  have lb := hb.len
  by_cases h1 : decide (a < 0) = decide (b < 0)
  · refine DecK.yes (by simp [h1]) ?_
    repeat' first | refine DecK.tt ?_ | refine DecK.ff ?_ | refine DecK.beq (fun _ => ?_) (fun _ => ?_) | refine DecK.bne (fun _ => ?_) (fun _ => ?_) | refine DecK.dec (fun _ => ?_) (fun _ => ?_) | refine OptK.mk _ rfl ?_ | refine endV (by rfl) ?_ | (refine CallK.mk _ (sum_ok (.inl rfl) (digs_dig _) (digs_dig _) (by omega) (by omega)) rfl ?_) | (refine CallK.mk _ (sum_trim _ (.inl rfl) la lb _) rfl ?_)
    rw [sum_pos]
    refine congrArg zV ?_
    rw [decide_eq_decide] at h1
    simp only [decide_eq_true_eq]
    omega
  · refine DecK.no (by simp [h1]) ?_
    rw [decide_eq_decide] at h1
    refine CallK.mk _ (cmpDigits_ok _ _ ha' hb') rfl ?_
    refine DecK.dec (fun h => ?_) (fun h => ?_)
    · repeat' first | refine DecK.tt ?_ | refine DecK.ff ?_ | refine DecK.beq (fun _ => ?_) (fun _ => ?_) | refine DecK.bne (fun _ => ?_) (fun _ => ?_) | refine DecK.dec (fun _ => ?_) (fun _ => ?_) | refine OptK.mk _ rfl ?_ | refine endV (by rfl) ?_ | (refine CallK.mk _ (sum_ok (.inr rfl) (digs_dig _) (digs_dig _) (by omega) (by omega)) rfl ?_) | (refine CallK.mk _ (sum_trim _ (.inr rfl) la lb _) rfl ?_)
      unfold icmp at h
      rw [sum_neg (by omega)]
      refine congrArg zV ?_
      simp only [decide_eq_true_eq]
      omega
    · repeat' first | refine DecK.tt ?_ | refine DecK.ff ?_ | refine DecK.beq (fun _ => ?_) (fun _ => ?_) | refine DecK.bne (fun _ => ?_) (fun _ => ?_) | refine DecK.dec (fun _ => ?_) (fun _ => ?_) | refine OptK.mk _ rfl ?_ | refine endV (by rfl) ?_ | (refine CallK.mk _ (sum_ok (.inr rfl) (digs_dig _) (digs_dig _) (by omega) (by omega)) rfl ?_) | (refine CallK.mk _ (sum_trim _ (.inr rfl) lb la _) rfl ?_)
      unfold icmp at h
      rw [sum_neg (by omega)]
      refine congrArg zV ?_
      simp only [decide_eq_true_eq]
      omega
theorem Less_ok (a b : Int) (ha : zok a) (hb : zok b) : Pure Tryz.prog 41 [zV a, zV b] (zV (a - b)) := by
  refine pure_of_wp of41 (Nat.le_of_ble_eq_true rfl) ?_
  repeat' first | refine DecK.tt ?_ | refine DecK.ff ?_ | refine DecK.beq (fun _ => ?_) (fun _ => ?_) | refine DecK.bne (fun _ => ?_) (fun _ => ?_) | refine DecK.dec (fun _ => ?_) (fun _ => ?_) | refine OptK.mk _ rfl ?_ | refine endV (by rfl) ?_ | (refine CallK.mk _ (Minus_ok _ hb) rfl ?_) | (refine CallK.mk _ (Plus_ok _ _ ha (zb.neg hb)) rfl ?_)
  exact congrArg zV (by omega)
/-- Zeros from a place on. -/
def zerosFrom (d : List Int) (k : Nat) : Prop := ∀ m, k ≤ m → m < d.length → d[m]? = some 0
theorem zerosFrom_set {d : List Int} {k m : Nat} {x : Int} (h : zerosFrom d k) (hm : m < k) : zerosFrom (d.set m x) k := fun j h1 h2 => by
  rw [List.getElem?_set_ne (by omega)]; exact h j h1 (by simpa using h2)
theorem Times_ok (a b : Int) (ha : zok a) (hb : zok b) : Pure Tryz.prog 66 [zV a, zV b] (zV (a * b)) := by
  refine pure_of_wp of66 (Nat.le_of_ble_eq_true rfl) ?_
  have la := ha.len
  have lb := hb.len
  have da := digs_dig a.natAbs
  have db := digs_dig b.natAbs
  obtain ⟨A, hA⟩ : ∃ A, A = digs a.natAbs := ⟨_, rfl⟩
  obtain ⟨B, hB⟩ : ∃ B, B = digs b.natAbs := ⟨_, rfl⟩
  have w0 : IntKind.i64.wrap (IntKind.i64.wrap (((digs a.natAbs).length : Int) + (digs b.natAbs).length) + 1) = ((A.length + B.length + 1 : Nat) : Int) := by rw [← hA, ← hB]; rw [← hA] at la; rw [← hB] at lb; simp (discharger := omega) only [w64, wu64, wu8, w32, wu32, tdivC, tmodC]; omega
  refine OptK.mk _ (omk (f := ni) (x := 0) (A.length + B.length + 1) w0 w0 (by rw [hA, hB]; omega) (by rw [hA, hB]; omega)) ?_
  refine loop_ind2 (fun (d : List Int) (iz : Int) => ⟨[(2, .ref 2 0), (3, .ref 3 0), (4, .ref 4 0), (5, .own 19 1 0 (A.length + B.length + 1)), (21, .v (digV a.natAbs)), (22, .v (.n .i64 (digs a.natAbs).length)), (23, .v (.n .i64 iz))],
      [(19, d.flatMap ni), (4, [.b false, .sl 0 [] true]), (3, (zV b).cells), (2, (zV a).cells)]⟩) (fun d i => A.length - i.toNat)
    (fun d i => 0 ≤ i ∧ i.toNat ≤ A.length ∧ zdig d ∧ d.length = A.length + B.length + 1 ∧ zval d = zval (A.take i.toNat) * zval B ∧ zerosFrom d (i.toNat + B.length)) (List.replicate (A.length + B.length + 1) 0) 0 ?_ ?_
  · refine ⟨by omega, by simp, fun x hx => ?_, by simp, ?_, fun m h1 h2 => ?_⟩
    · have := List.eq_of_mem_replicate hx; omega
    · rw [zval_zeros]; simp [zval]
    · simp at h2; simp [List.getElem?_replicate, h2]
  intro d iz ⟨h0, h1, h2, h3, h4, h5⟩ ih
  obtain ⟨i, rfl⟩ : ∃ i : Nat, iz = i := ⟨iz.toNat, by omega⟩
  simp only [Int.toNat_natCast] at h1 h2 h3 h4 h5
  refine DecK.dec (fun hp => ?_) (fun hp => ?_)
  · rw [← hA] at hp
    obtain ⟨x, hx, ex⟩ := drop_at (l := A) (k := i) (by omega)
    have bx := da x (by rw [← hA]; exact List.mem_of_getElem? hx)
    refine OptK.mk _ (ria i rfl (by rw [← hA]; omega)) ?_
    refine OptK.mk _ (rld1 (g := fun x => .n .i64 x) (x := x) (by rw [← hA]; exact hx)) ?_
    refine loop_ind3 (fun (e : List Int) (jz c : Int) => ⟨[(2, .ref 2 0), (3, .ref 3 0), (4, .ref 4 0), (5, .own 19 1 0 (A.length + B.length + 1)), (6, .v (.n .i64 i)), (7, .v (.n .i64 x)), (8, .v (.n .i64 c)), (21, .v (digV a.natAbs)), (22, .v (.n .i64 (digs a.natAbs).length)), (23, .v (.n .i64 i)), (29, .v (digV b.natAbs)), (30, .v (.n .i64 (digs b.natAbs).length)), (31, .v (.n .i64 jz))],
        [(19, e.flatMap ni), (4, [.b false, .sl 0 [] true]), (3, (zV b).cells), (2, (zV a).cells)]⟩) (fun e j c => B.length - j.toNat)
      (fun e j c => 0 ≤ j ∧ j.toNat ≤ B.length ∧ 0 ≤ c ∧ c ≤ 999999 ∧ zdig e ∧ e.length = A.length + B.length + 1 ∧ zval e + 1000000 ^ (i + j.toNat) * c = zval d + x * 1000000 ^ i * zval (B.take j.toNat) ∧ zerosFrom e (i + B.length)) d 0 0 ?_ ?_
    · refine ⟨by omega, by simp, by omega, by omega, h2, h3, by simp [zval], h5⟩
    intro e jz c ⟨k0, k1, k2, k3, k4, k5, k6, k7⟩ ih'
    obtain ⟨j, rfl⟩ : ∃ j : Nat, jz = j := ⟨jz.toNat, by omega⟩
    simp only [Int.toNat_natCast] at k1 k6
    refine DecK.dec (fun hq => ?_) (fun hq => ?_)
    · rw [← hB] at hq
      obtain ⟨y, hy, ey⟩ := drop_at (l := B) (k := j) (by omega)
      have by' := db y (by rw [← hB]; exact List.mem_of_getElem? hy)
      have wij : IntKind.i64.wrap ((i : Int) + j) = ((i + j : Nat) : Int) := by rw [← hA] at la; rw [← hB] at lb; simp (discharger := omega) only [w64, wu64, wu8, w32, wu32, tdivC, tmodC]; omega
      have wj : IntKind.i64.wrap ((j : Int) + 1) = ((j + 1 : Nat) : Int) := by rw [← hB] at lb; simp (discharger := omega) only [w64, wu64, wu8, w32, wu32, tdivC, tmodC]; omega
      obtain ⟨v, hv, ev⟩ := drop_at (l := e) (k := i + j) (by omega)
      have bv := k4 v (List.mem_of_getElem? hv)
      obtain ⟨p, hp'⟩ : ∃ p, p = x * y := ⟨_, rfl⟩
      have bp : 0 ≤ p ∧ p ≤ 999998000001 := by rw [hp']; exact ⟨Int.mul_nonneg bx.1 by'.1, Int.mul_le_mul bx.2 by'.2 by'.1 (by omega)⟩
      refine OptK.mk _ (ria j rfl (by rw [← hB]; omega)) ?_
      refine OptK.mk _ (rld1 (g := fun x => .n .i64 x) (x := y) (by rw [← hB]; exact hy)) ?_
      refine OptK.mk _ (oia (i + j) wij (by omega)) ?_
      refine OptK.mk _ (old1 (g := fun x => .n .i64 x) rfl hv) ?_
      have wt : IntKind.i64.wrap (c + IntKind.i64.wrap (v + IntKind.i64.wrap (x * y))) = c + v + p := by rw [← hp']; simp (discharger := omega) only [w64, wu64, wu8, w32, wu32, tdivC, tmodC]; omega
      have wr : (c + v + p).tmod 1000000 = (c + v + p) % 1000000 := Int.tmod_eq_emod_of_nonneg (by omega)
      have wq : IntKind.i64.wrap ((c + v + p).tdiv 1000000) = (c + v + p) / 1000000 := by rw [Int.tdiv_eq_ediv_of_nonneg (by omega)]; simp (discharger := omega) only [w64, wu64, wu8, w32, wu32, tdivC, tmodC]
      refine OptK.mk _ (oia (i + j) wij (by omega)) ?_
      refine OptK.mk _ (ost (x := (IntKind.i64.wrap (c + IntKind.i64.wrap (v + IntKind.i64.wrap (x * y)))).tmod 1000000) hz_ni rfl rfl rfl (by omega)) ?_
      refine ih' _ _ _ ⟨?_, ?_, ?_, ?_, ?_, ?_, ?_, ?_⟩ ?_
      all_goals simp only [wt, wr, wq, wj, Int.toNat_natCast, List.length_set]
      · omega
      · omega
      · omega
      · omega
      · exact zdig_set k4 (by omega)
      · exact k5
      · rw [zval_set hv, zval_take_succ hy, show i + (j + 1) = i + j + 1 by omega, Int.pow_succ]
        have ee : (1000000 : Int) ^ (i + j) = 1000000 ^ i * 1000000 ^ j := by rw [Int.pow_add]
        have hq : c + v + p = (c + v + p) % 1000000 + 1000000 * ((c + v + p) / 1000000) := by omega
        generalize (c + v + p) % 1000000 = r1 at hq ⊢
        generalize (c + v + p) / 1000000 = q1 at hq ⊢
        generalize (1000000 : Int) ^ i = P at *
        generalize (1000000 : Int) ^ j = R at *
        generalize (1000000 : Int) ^ (i + j) = Q at *
        generalize zval (B.take j) = zB at *
        clear ih ih'
        grind
      · exact zerosFrom_set k7 (by omega)
      · omega
    · rw [← hB] at hq
      have hj : j = B.length := by omega
      subst hj
      have wij : IntKind.i64.wrap ((i : Int) + (digs b.natAbs).length) = ((i + B.length : Nat) : Int) := by rw [← hB]; rw [← hA] at la; rw [← hB] at lb; simp (discharger := omega) only [w64, wu64, wu8, w32, wu32, tdivC, tmodC]; omega
      have wi : IntKind.i64.wrap ((i : Int) + 1) = ((i + 1 : Nat) : Int) := by rw [← hA] at la; simp (discharger := omega) only [w64, wu64, wu8, w32, wu32, tdivC, tmodC]; omega
      have wc : IntKind.i64.wrap (0 + c) = c := by simp (discharger := omega) only [w64, wu64, wu8, w32, wu32, tdivC, tmodC]; omega
      have hv := k7 (i + B.length) (by omega) (by omega)
      refine OptK.mk _ (oia (i + B.length) wij (by omega)) ?_
      refine OptK.mk _ (old1 (g := fun x => .n .i64 x) rfl hv) ?_
      refine OptK.mk _ (oia (i + B.length) wij (by omega)) ?_
      refine OptK.mk _ (ost (x := IntKind.i64.wrap (0 + c)) hz_ni rfl rfl rfl (by omega)) ?_
      refine ih _ _ ⟨?_, ?_, ?_, ?_, ?_, ?_⟩ ?_
      all_goals simp only [wi, wc, Int.toNat_natCast, List.length_set]
      · omega
      · omega
      · exact zdig_set k4 (by omega)
      · exact k5
      · rw [zval_set hv, zval_take_succ hx]
        rw [List.take_length] at k6
        have ee : (1000000 : Int) ^ (i + B.length) = 1000000 ^ i * 1000000 ^ B.length := by rw [Int.pow_add]
        generalize (1000000 : Int) ^ i = P at *
        generalize (1000000 : Int) ^ (i + B.length) = Q at *
        clear ih ih'
        grind
      · intro m m1 m2
        rw [List.getElem?_set_ne (by omega)]
        exact k7 m (by omega) (by simpa using m2)
      · omega
  · rw [← hA] at hp
    have hi : i = A.length := by omega
    subst hi
    rw [List.take_length] at h4
    have hz : zval d = (a.natAbs : Int) * b.natAbs := by rw [h4, hA, hB, digs_val, digs_val]
    have hneg : zV (if (if true = true then !decide (a < 0) == decide (b < 0) else decide (a < 0) == decide (b < 0)) = true then -zval d else zval d) = zV (a * b) := by
      rw [hz]
      refine congrArg zV ?_
      by_cases s1 : a < 0 <;> by_cases s2 : b < 0 <;> simp only [s1, s2, decide_true, decide_false, if_true, BEq.rfl, Bool.not_true, Bool.false_eq_true, if_false, show (true == false) = false from rfl, show (false == true) = false from rfl, Bool.not_false]
      · rw [show (a.natAbs : Int) = -a by omega, show (b.natAbs : Int) = -b by omega]; clear ih; grind
      · rw [show (a.natAbs : Int) = -a by omega, show (b.natAbs : Int) = b by omega]; clear ih; grind
      · rw [show (a.natAbs : Int) = a by omega, show (b.natAbs : Int) = -b by omega]; clear ih; grind
      · rw [show (a.natAbs : Int) = a by omega, show (b.natAbs : Int) = b by omega]
    refine CallK.fz ?_
    refine CallK.mk _ ((trim_ok _ h2 (by rw [← hA] at la; rw [← hB] at lb; omega)).args (congrArg (fun v => [V.b _, v]) (snapRow' hz_ni h3))) rfl ?_
    ((repeat' first | refine DecK.tt ?_ | refine DecK.ff ?_ | refine DecK.beq (fun _ => ?_) (fun _ => ?_) | refine DecK.bne (fun _ => ?_) (fun _ => ?_) | refine DecK.dec (fun _ => ?_) (fun _ => ?_) | refine OptK.mk _ rfl ?_ | refine endV (by rfl) ?_) <;> (try with_reducible rfl))
    exact hneg
end Go.Proofs.YtljcbmnkjiogmaaGreatDoor.Sv
