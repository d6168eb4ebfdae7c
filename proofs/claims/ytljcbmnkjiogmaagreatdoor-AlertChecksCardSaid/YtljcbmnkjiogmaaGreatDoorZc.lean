/- The reference's whole numbers: comparing, sums. No condition. -/
import Derived.Test.YtljcbmnkjiogmaaGreatDoorZb
namespace Go.Proofs.YtljcbmnkjiogmaaGreatDoor.Sv
open Go Go.RowKit
set_option linter.unusedVariables false
set_option linter.unusedSimpArgs false
set_option maxRecDepth 100000
/-- live: [0, 1, 5] -/
def L69_0 : SC := .seq (.seq (.reg [⟨some 19, none, .mv, [.tm 5]⟩, ⟨some 20, none, .po (.bin .geq), [.tm 19, .cn (.n .i64 0)]⟩] [0, 1, 5, 20]) (.cond (.tm 20) .skip (.exit 0))) (.seq (.block 1 (.seq (.seq (.dreg [⟨some 23, none, .mv, [.tm 0]⟩, ⟨some 24, none, .mv, [.tm 5]⟩, ⟨some 25, none, .ia none 1, [.tm 23, .tm 24]⟩, ⟨some 26, none, .ld false 1 true, [.tm 25]⟩, ⟨some 27, none, .mv, [.tm 1]⟩, ⟨some 28, none, .mv, [.tm 5]⟩, ⟨some 29, none, .ia none 1, [.tm 27, .tm 28]⟩, ⟨some 30, none, .ld false 1 true, [.tm 29]⟩, ⟨some 31, none, .po (.bin .lss), [.tm 26, .tm 30]⟩] [] [0, 1, 5, 31]) (.cond (.tm 31) (.seq (.reg [⟨some 4, none, .mv, [.cn (.n .i64 (-1))]⟩] [4]) .ret) .skip)) (.seq (.dreg [⟨some 32, none, .mv, [.tm 0]⟩, ⟨some 33, none, .mv, [.tm 5]⟩, ⟨some 34, none, .ia none 1, [.tm 32, .tm 33]⟩, ⟨some 35, none, .ld false 1 true, [.tm 34]⟩, ⟨some 36, none, .mv, [.tm 1]⟩, ⟨some 37, none, .mv, [.tm 5]⟩, ⟨some 38, none, .ia none 1, [.tm 36, .tm 37]⟩, ⟨some 39, none, .ld false 1 true, [.tm 38]⟩, ⟨some 40, none, .po (.bin .gtr), [.tm 35, .tm 39]⟩] [] [0, 1, 5, 40]) (.cond (.tm 40) (.seq (.reg [⟨some 4, none, .mv, [.cn (.n .i64 1)]⟩] [4]) .ret) .skip)))) (.reg [⟨some 21, none, .mv, [.tm 5]⟩, ⟨some 22, none, .po (.bin .sub), [.tm 21, .cn (.n .i64 1)]⟩, ⟨some 5, none, .mv, [.tm 22]⟩] [0, 1, 5]))
/-- spyglass/spyref1.cmpDigits -/
def F69 : Fn1 := ⟨41, .seq (.reg [⟨some 4, none, .mv, [.cn (.n .i64 0)]⟩] [0, 1]) (.seq (.seq (.reg [⟨some 6, none, .mv, [.tm 0]⟩, ⟨some 7, none, .len false, [.tm 6]⟩, ⟨some 8, none, .mv, [.tm 1]⟩, ⟨some 9, none, .len false, [.tm 8]⟩, ⟨some 10, none, .po (.bin .neq), [.tm 7, .tm 9]⟩] [0, 1, 10]) (.cond (.tm 10) (.seq (.seq (.reg [⟨some 11, none, .mv, [.tm 0]⟩, ⟨some 12, none, .len false, [.tm 11]⟩, ⟨some 13, none, .mv, [.tm 1]⟩, ⟨some 14, none, .len false, [.tm 13]⟩, ⟨some 15, none, .po (.bin .lss), [.tm 12, .tm 14]⟩] [15]) (.cond (.tm 15) (.seq (.reg [⟨some 4, none, .mv, [.cn (.n .i64 (-1))]⟩] [4]) .ret) .skip)) (.seq (.reg [⟨some 4, none, .mv, [.cn (.n .i64 1)]⟩] [4]) .ret)) .skip)) (.seq (.seq (.reg [⟨some 16, none, .mv, [.tm 0]⟩, ⟨some 17, none, .len false, [.tm 16]⟩, ⟨some 18, none, .po (.bin .sub), [.tm 17, .cn (.n .i64 1)]⟩, ⟨some 5, none, .mv, [.tm 18]⟩] [0, 1, 5]) (.block 0 (.loop [0, 1, 5] L69_0))) (.seq (.reg [⟨some 4, none, .mv, [.cn (.n .i64 0)]⟩] [4]) .ret))), [.tm 4]⟩
theorem of69 : Fn1.of Tryz.prog 69 ⟨false, [], false⟩ [[0, 1], [0, 1, 10], [15], [4], [4], [0, 1, 5], [0, 1, 5], [0, 1, 5, 20], [0, 1, 5, 31], [4], [0, 1, 5, 40], [4], [0, 1, 5], [4]] = some F69 := by kernel_rfl
/-- (spyglass/spyref1.Z).Cmp -/
def F45 : Fn1 := ⟨24, .seq (.reg [⟨some 2, none, .box, [.tm 0]⟩, ⟨some 3, none, .box, [.tm 1]⟩, ⟨some 4, none, .mv, [.cn (.n .i64 0)]⟩] [2, 3]) (.seq (.seq (.reg [⟨some 5, none, .fa 0, [.tm 2]⟩, ⟨some 6, none, .ld false 1 false, [.tm 5]⟩, ⟨some 7, none, .fa 0, [.tm 3]⟩, ⟨some 8, none, .ld false 1 false, [.tm 7]⟩, ⟨some 9, none, .po (.beq true), [.tm 6, .tm 8]⟩] [2, 3, 9]) (.cond (.tm 9) (.seq (.seq (.reg [⟨some 10, none, .fa 0, [.tm 2]⟩, ⟨some 11, none, .ld false 1 false, [.tm 10]⟩] [11]) (.cond (.tm 11) (.seq (.reg [⟨some 4, none, .mv, [.cn (.n .i64 (-1))]⟩] [4]) .ret) .skip)) (.seq (.reg [⟨some 4, none, .mv, [.cn (.n .i64 1)]⟩] [4]) .ret)) .skip)) (.seq (.seq (.reg [⟨some 12, none, .fa 0, [.tm 2]⟩, ⟨some 13, none, .ld false 1 false, [.tm 12]⟩] [2, 3, 13]) (.cond (.tm 13) (.seq (.reg [⟨some 14, none, .fa 1, [.tm 3]⟩, ⟨some 15, none, .ld false 1 false, [.tm 14]⟩, ⟨some 16, none, .fa 1, [.tm 2]⟩, ⟨some 17, none, .ld false 1 false, [.tm 16]⟩, ⟨some 18, none, .call 69, [.tm 15, .tm 17]⟩, ⟨some 4, none, .mv, [.tm 18]⟩] [4]) .ret) .skip)) (.seq (.reg [⟨some 19, none, .fa 1, [.tm 2]⟩, ⟨some 20, none, .ld false 1 false, [.tm 19]⟩, ⟨some 21, none, .fa 1, [.tm 3]⟩, ⟨some 22, none, .ld false 1 false, [.tm 21]⟩, ⟨some 23, none, .call 69, [.tm 20, .tm 22]⟩, ⟨some 4, none, .mv, [.tm 23]⟩] [4]) .ret))), [.tm 4]⟩
theorem of45 : Fn1.of Tryz.prog 45 ⟨false, [], false⟩ [[2, 3], [2, 3, 9], [11], [4], [4], [2, 3, 13], [4], [4]] = some F45 := by kernel_rfl
/-- live: [0, 1, 2, 7, 8, 9] -/
def L68_0 : SC := .seq (.seq (.reg [⟨some 11, none, .mv, [.tm 9]⟩, ⟨some 12, none, .mv, [.tm 0]⟩, ⟨some 13, none, .len false, [.tm 12]⟩, ⟨some 14, none, .mv, [.tm 1]⟩, ⟨some 15, none, .len false, [.tm 14]⟩, ⟨some 16, none, .po .mx, [.tm 13, .tm 15]⟩, ⟨some 17, none, .po (.bin .lss), [.tm 11, .tm 16]⟩, ⟨some 18, none, .mv, [.tm 17]⟩, ⟨some 19, some (18, false), .mv, [.tm 8]⟩, ⟨some 20, some (18, false), .po (.bin .gtr), [.tm 19, .cn (.n .i64 0)]⟩, ⟨some 21, none, .pick, [.tm 18, .cn (.b true), .tm 20]⟩] [0, 1, 2, 7, 8, 9, 21]) (.cond (.tm 21) .skip (.exit 0))) (.seq (.block 1 (.seq (.reg [⟨some 24, none, .mv, [.tm 8]⟩, ⟨some 10, none, .mv, [.tm 24]⟩] [0, 1, 2, 7, 9, 10]) (.seq (.seq (.reg [⟨some 25, none, .mv, [.tm 9]⟩, ⟨some 26, none, .mv, [.tm 0]⟩, ⟨some 27, none, .len false, [.tm 26]⟩, ⟨some 28, none, .po (.bin .lss), [.tm 25, .tm 27]⟩] [0, 1, 2, 7, 9, 10, 28]) (.cond (.tm 28) (.reg [⟨some 29, none, .mv, [.tm 10]⟩, ⟨some 30, none, .mv, [.tm 0]⟩, ⟨some 31, none, .mv, [.tm 9]⟩, ⟨some 32, none, .ia none 1, [.tm 30, .tm 31]⟩, ⟨some 33, none, .ld false 1 true, [.tm 32]⟩, ⟨some 34, none, .po (.bin .add), [.tm 29, .tm 33]⟩, ⟨some 10, none, .mv, [.tm 34]⟩] [0, 1, 2, 7, 9, 10]) .skip)) (.seq (.seq (.reg [⟨some 35, none, .mv, [.tm 9]⟩, ⟨some 36, none, .mv, [.tm 1]⟩, ⟨some 37, none, .len false, [.tm 36]⟩, ⟨some 38, none, .po (.bin .lss), [.tm 35, .tm 37]⟩] [0, 1, 2, 7, 9, 10, 38]) (.cond (.tm 38) (.reg [⟨some 39, none, .mv, [.tm 10]⟩, ⟨some 40, none, .mv, [.tm 2]⟩, ⟨some 41, none, .mv, [.tm 1]⟩, ⟨some 42, none, .mv, [.tm 9]⟩, ⟨some 43, none, .ia none 1, [.tm 41, .tm 42]⟩, ⟨some 44, none, .ld false 1 true, [.tm 43]⟩, ⟨some 45, none, .po (.bin .mul), [.tm 40, .tm 44]⟩, ⟨some 46, none, .po (.bin .add), [.tm 39, .tm 45]⟩, ⟨some 10, none, .mv, [.tm 46]⟩] [0, 1, 2, 7, 9, 10]) .skip)) (.seq (.reg [⟨some 8, none, .mv, [.cn (.n .i64 0)]⟩] [0, 1, 2, 7, 8, 9, 10]) (.seq (.seq (.reg [⟨some 47, none, .mv, [.tm 10]⟩, ⟨some 48, none, .po (.bin .geq), [.tm 47, .cn (.n .i64 1000000)]⟩] [0, 1, 2, 7, 8, 9, 10, 48]) (.cond (.tm 48) (.reg [⟨some 49, none, .mv, [.tm 10]⟩, ⟨some 50, none, .po (.bin .sub), [.tm 49, .cn (.n .i64 1000000)]⟩, ⟨some 10, none, .mv, [.tm 50]⟩, ⟨some 8, none, .mv, [.cn (.n .i64 1)]⟩] [0, 1, 2, 7, 8, 9, 10]) .skip)) (.seq (.seq (.reg [⟨some 51, none, .mv, [.tm 10]⟩, ⟨some 52, none, .po (.bin .lss), [.tm 51, .cn (.n .i64 0)]⟩] [0, 1, 2, 7, 8, 9, 10, 52]) (.cond (.tm 52) (.reg [⟨some 53, none, .mv, [.tm 10]⟩, ⟨some 54, none, .po (.bin .add), [.tm 53, .cn (.n .i64 1000000)]⟩, ⟨some 10, none, .mv, [.tm 54]⟩, ⟨some 8, none, .mv, [.cn (.n .i64 (-1))]⟩] [0, 1, 2, 7, 8, 9, 10]) .skip)) (.reg [⟨some 55, none, .mv, [.tm 7]⟩, ⟨some 56, none, .mv, [.tm 10]⟩, ⟨some 57, none, .po (.bsl 1 [.n .i64 0] [(0, 1)]), [.tm 56]⟩, ⟨some 58, none, .app 1 8, [.tm 55, .tm 57]⟩, ⟨some 7, none, .mv, [.tm 58]⟩] [0, 1, 2, 7, 8, 9])))))))) (.reg [⟨some 22, none, .mv, [.tm 9]⟩, ⟨some 23, none, .po (.bin .add), [.tm 22, .cn (.n .i64 1)]⟩, ⟨some 9, none, .mv, [.tm 23]⟩] [0, 1, 2, 7, 8, 9]))
/-- spyglass/spyref1.sum -/
def F68 : Fn1 := ⟨60, .seq (.reg [⟨some 6, none, .adopt 1, []⟩] [0, 1, 2]) (.seq (.reg [⟨some 7, none, .adopt 1, []⟩] [0, 1, 2, 7]) (.seq (.reg [⟨some 8, none, .mv, [.cn (.n .i64 0)]⟩] [0, 1, 2, 7, 8]) (.seq (.seq (.reg [⟨some 9, none, .mv, [.cn (.n .i64 0)]⟩] [0, 1, 2, 7, 8, 9]) (.block 0 (.loop [0, 1, 2, 7, 8, 9] L68_0))) (.seq (.reg [⟨some 59, none, .mv, [.tm 7]⟩, ⟨some 6, none, .mv, [.tm 59]⟩] [6]) .ret)))), [.tm 6]⟩
theorem of68 : Fn1.of Tryz.prog 68 ⟨true, [], false⟩ [[0, 1, 2], [0, 1, 2, 7], [0, 1, 2, 7, 8], [0, 1, 2, 7, 8, 9], [0, 1, 2, 7, 8, 9], [0, 1, 2, 7, 8, 9, 21], [0, 1, 2, 7, 9, 10], [0, 1, 2, 7, 9, 10, 28], [0, 1, 2, 7, 9, 10], [0, 1, 2, 7, 9, 10, 38], [0, 1, 2, 7, 9, 10], [0, 1, 2, 7, 8, 9, 10], [0, 1, 2, 7, 8, 9, 10, 48], [0, 1, 2, 7, 8, 9, 10], [0, 1, 2, 7, 8, 9, 10, 52], [0, 1, 2, 7, 8, 9, 10], [0, 1, 2, 7, 8, 9], [0, 1, 2, 7, 8, 9], [6]] = some F68 := by kernel_rfl
theorem drop_at {l : List Int} {k : Nat} (h : k < l.length) : ∃ x, l[k]? = some x ∧ l.drop k = x :: l.drop (k + 1) := ⟨l[k], by simp [h], List.drop_eq_getElem_cons h⟩
theorem icmp_lt {a b : Int} (h : a < b) : icmp a b = -1 := if_pos h
theorem icmp_gt {a b : Int} (h : b < a) : icmp a b = 1 := by unfold icmp; rw [if_neg (by omega), if_neg (by omega)]
theorem icmp_eq {a b : Int} (h : a = b) : icmp a b = 0 := by unfold icmp; rw [if_neg (by omega), if_pos h]
theorem cmpDigits_ok (a b : Nat) (ha : zok a) (hb : zok b) : Pure Tryz.prog 69 [digV a, digV b] (.n .i64 (icmp a b)) := by
  refine pure_of_wp of69 (Nat.le_of_ble_eq_true rfl) ?_
  have la := ha.len
  have lb := hb.len
  simp only [Int.natAbs_natCast] at la lb
  refine DecK.bne (fun hp => ?_) (fun hp => ?_)
  · refine DecK.dec (fun h => ?_) (fun h => ?_)
    · ((repeat' first | refine DecK.tt ?_ | refine DecK.ff ?_ | refine DecK.beq (fun _ => ?_) (fun _ => ?_) | refine DecK.bne (fun _ => ?_) (fun _ => ?_) | refine DecK.dec (fun _ => ?_) (fun _ => ?_) | refine OptK.mk _ rfl ?_ | refine endV (by rfl) ?_) <;> (try with_reducible rfl))
      rw [icmp_lt]; have := zcmp_len (a := a) (b := b) (by omega); omega
    · ((repeat' first | refine DecK.tt ?_ | refine DecK.ff ?_ | refine DecK.beq (fun _ => ?_) (fun _ => ?_) | refine DecK.bne (fun _ => ?_) (fun _ => ?_) | refine DecK.dec (fun _ => ?_) (fun _ => ?_) | refine OptK.mk _ rfl ?_ | refine endV (by rfl) ?_) <;> (try with_reducible rfl))
      rw [icmp_gt]; have := zcmp_len (a := b) (b := a) (by omega); omega
  · refine loop_ind (fun i : Int => ⟨[(0, .v (digV a)), (1, .v (digV b)), (5, .v (.n .i64 i))], []⟩) (fun i => (i + 1).toNat)
      (fun i => -1 ≤ i ∧ i < (digs a).length ∧ (digs a).drop (i + 1).toNat = (digs b).drop (i + 1).toNat) _ ?_ ?_
    · rw [w64 (by omega)]
      refine ⟨by omega, by omega, ?_⟩
      rw [List.drop_eq_nil_of_le (by omega), List.drop_eq_nil_of_le (by omega)]
    intro i ⟨h1, h2, h3⟩ ih
    refine DecK.dec (fun h => ?_) (fun h => ?_)
    · obtain ⟨x, hx, ex⟩ := drop_at (l := digs a) (k := i.toNat) (by omega)
      obtain ⟨y, hy, ey⟩ := drop_at (l := digs b) (k := i.toNat) (by omega)
      have e : (i + 1).toNat = i.toNat + 1 := by omega
      rw [e] at h3
      have k1 : x < y → icmp a b = -1 := fun hxy => icmp_lt (by have := zcmp_at (digs_dig a) (digs_dig b) h3 hx hy hxy; rwa [digs_val, digs_val] at this)
      have k2 : y < x → icmp a b = 1 := fun hxy => icmp_gt (by have := zcmp_at (digs_dig b) (digs_dig a) h3.symm hy hx hxy; rwa [digs_val, digs_val] at this)
      repeat' first
        | refine DecK.tt ?_ | refine DecK.ff ?_ | refine DecK.beq (fun _ => ?_) (fun _ => ?_) | refine DecK.bne (fun _ => ?_) (fun _ => ?_) | refine DecK.dec (fun _ => ?_) (fun _ => ?_) | refine OptK.mk _ rfl ?_ | refine endV (by rfl) ?_
        | (refine OptK.mk _ (row_ia (by omega) (by omega)) ?_)
        | (refine OptK.mk _ (row_ld1 (f := fun x => .n .i64 x) (k := i.toNat) (by omega) hx) ?_)
        | (refine OptK.mk _ (row_ld1 (f := fun x => .n .i64 x) (k := i.toNat) (by omega) hy) ?_)
        | (refine ih _ ?_ ?_)
      · rw [k1 (by assumption)]
      · rw [k2 (by assumption)]
      · rw [w64 (by omega)]
        refine ⟨by omega, by omega, ?_⟩
        rw [show (i - 1 + 1).toNat = i.toNat by omega, ex, ey, h3, show x = y by omega]
      · rw [w64 (by omega)]; omega
    · ((repeat' first | refine DecK.tt ?_ | refine DecK.ff ?_ | refine DecK.beq (fun _ => ?_) (fun _ => ?_) | refine DecK.bne (fun _ => ?_) (fun _ => ?_) | refine DecK.dec (fun _ => ?_) (fun _ => ?_) | refine OptK.mk _ rfl ?_ | refine endV (by rfl) ?_) <;> (try with_reducible rfl))
      obtain rfl : i = -1 := by omega
      simp at h3
      rw [icmp_eq]
      rw [← digs_val a, ← digs_val b, h3]
theorem Cmp_ok (a b : Int) (ha : zok a) (hb : zok b) : Pure Tryz.prog 45 [zV a, zV b] (.n .i64 (icmp a b)) := by
  refine pure_of_wp of45 (Nat.le_of_ble_eq_true rfl) ?_
  have ha' : zok (a.natAbs : Int) := by unfold zok zb at *; omega
  have hb' : zok (b.natAbs : Int) := by unfold zok zb at *; omega
  by_cases h1 : a < 0 <;> by_cases h2 : b < 0
  · refine DecK.no (by simp [h1, h2]) ?_
    refine DecK.yes (by simp [h1]) ?_
    refine CallK.mk _ (cmpDigits_ok _ _ hb' ha') rfl ?_
    ((repeat' first | refine DecK.tt ?_ | refine DecK.ff ?_ | refine DecK.beq (fun _ => ?_) (fun _ => ?_) | refine DecK.bne (fun _ => ?_) (fun _ => ?_) | refine DecK.dec (fun _ => ?_) (fun _ => ?_) | refine OptK.mk _ rfl ?_ | refine endV (by rfl) ?_) <;> (try with_reducible rfl))
    simp only [V.tup.injEq, V.agg.injEq, V.n.injEq, V.b.injEq, V.s.injEq, List.cons.injEq, true_and, and_true]
    unfold icmp; omega
  · refine DecK.yes (by simp [h1, h2]) ?_
    refine DecK.yes (by simp [h1]) ?_
    ((repeat' first | refine DecK.tt ?_ | refine DecK.ff ?_ | refine DecK.beq (fun _ => ?_) (fun _ => ?_) | refine DecK.bne (fun _ => ?_) (fun _ => ?_) | refine DecK.dec (fun _ => ?_) (fun _ => ?_) | refine OptK.mk _ rfl ?_ | refine endV (by rfl) ?_) <;> (try with_reducible rfl))
    rw [icmp_lt (by omega)]
  · refine DecK.yes (by simp [h1, h2]) ?_
    refine DecK.no (by simp [h1]) ?_
    ((repeat' first | refine DecK.tt ?_ | refine DecK.ff ?_ | refine DecK.beq (fun _ => ?_) (fun _ => ?_) | refine DecK.bne (fun _ => ?_) (fun _ => ?_) | refine DecK.dec (fun _ => ?_) (fun _ => ?_) | refine OptK.mk _ rfl ?_ | refine endV (by rfl) ?_) <;> (try with_reducible rfl))
    rw [icmp_gt (by omega)]
  · refine DecK.no (by simp [h1, h2]) ?_
    refine DecK.no (by simp [h1]) ?_
    refine CallK.mk _ (cmpDigits_ok _ _ ha' hb') rfl ?_
    ((repeat' first | refine DecK.tt ?_ | refine DecK.ff ?_ | refine DecK.beq (fun _ => ?_) (fun _ => ?_) | refine DecK.bne (fun _ => ?_) (fun _ => ?_) | refine DecK.dec (fun _ => ?_) (fun _ => ?_) | refine OptK.mk _ rfl ?_ | refine endV (by rfl) ?_) <;> (try with_reducible rfl))
    simp only [V.tup.injEq, V.agg.injEq, V.n.injEq, V.b.injEq, V.s.injEq, List.cons.injEq, true_and, and_true]
    unfold icmp; omega
set_option maxHeartbeats 4000000 in
theorem sum_ok {s : Int} (hs : s = 1 ∨ s = -1) {a b : List Int} (ha : zdig a) (hb : zdig b) (hla : a.length ≤ 3000000) (hlb : b.length ≤ 3000000) :
    Pure Tryz.prog 68 [intsV a, intsV b, .n .i64 s] (intsV (sumL s (max a.length b.length) a b 0)) := by
  refine pure_of_wp of68 (Nat.le_of_ble_eq_true rfl) ?_
  refine loop_ind3 (fun (l : List Int) (c i : Int) => ⟨[(0, .v (intsV a)), (1, .v (intsV b)), (2, .v (.n .i64 s)), (7, .own 7 1 0 l.length), (8, .v (.n .i64 c)), (9, .v (.n .i64 i))], [(7, l.flatMap ni)]⟩) (fun l c i => (max a.length b.length + 1 - i).toNat)
    (fun l c i => 0 ≤ i ∧ i ≤ max a.length b.length + 1 ∧ -1 ≤ c ∧ c ≤ 1 ∧ (c > 0 → i ≤ max a.length b.length) ∧ l.length ≤ i ∧ l ++ sumL s (max a.length b.length - i.toNat) (a.drop i.toNat) (b.drop i.toNat) c = sumL s (max a.length b.length) a b 0) [] 0 0 ?_ ?_
  · simp; omega
  intro l c i ⟨h1, h2, h3, h4, h5, h6, h7⟩ ih
  obtain ⟨xa, hxa, hya⟩ : ∃ x, x = fstD (a.drop i.toNat) ∧ ∀ h : i < a.length, a[i.toNat]? = some x := by
    refine ⟨_, rfl, fun h => ?_⟩
    obtain ⟨x, hx, ex⟩ := drop_at (l := a) (k := i.toNat) (by omega)
    rw [ex, hx]; rfl
  obtain ⟨xb, hxb, hyb⟩ : ∃ x, x = fstD (b.drop i.toNat) ∧ ∀ h : i < b.length, b[i.toNat]? = some x := by
    refine ⟨_, rfl, fun h => ?_⟩
    obtain ⟨x, hx, ex⟩ := drop_at (l := b) (k := i.toNat) (by omega)
    rw [ex, hx]; rfl
  have ba := fstD_dig (zdig_drop ha i.toNat)
  have bb := fstD_dig (zdig_drop hb i.toNat)
  rw [← hxa] at ba
  rw [← hxb] at bb
  have na : ¬ i < a.length → xa = 0 := fun h => by rw [hxa, List.drop_eq_nil_of_le (by omega)]; rfl
  have nb : ¬ i < b.length → xb = 0 := fun h => by rw [hxb, List.drop_eq_nil_of_le (by omega)]; rfl
  obtain ⟨y, hy⟩ : ∃ y, y = s * xb := ⟨_, rfl⟩
  have by' : -999999 ≤ y ∧ y ≤ 999999 := by rcases hs with rfl | rfl <;> omega
  have ny : ¬ i < b.length → y = 0 := fun h => by rw [hy, nb h, Int.mul_zero]
  have wy : IntKind.i64.wrap (s * xb) = y := by rw [← hy]; exact w64 (by omega)
  have fin : ∀ v c', (i < max a.length b.length ∨ c > 0) → v = (if 1000000 ≤ c + xa + y then c + xa + y - 1000000 else if c + xa + y < 0 then c + xa + y + 1000000 else c + xa + y) →
      c' = (if 1000000 ≤ c + xa + y then 1 else if c + xa + y < 0 then -1 else 0) → -1 ≤ c' ∧ c' ≤ 1 ∧ (c' > 0 → i + 1 ≤ max a.length b.length) ∧ l ++ [v] ++ sumL s (max a.length b.length - (i + 1).toNat) (a.drop (i + 1).toNat) (b.drop (i + 1).toNat) c' = sumL s (max a.length b.length) a b 0 := by
    intro v c' hc hv hc'
    have e : (i + 1).toNat = i.toNat + 1 := by omega
    by_cases h : i < max a.length b.length
    · refine ⟨by omega, by omega, by omega, ?_⟩
      obtain ⟨n, hn⟩ : ∃ n, max a.length b.length - i.toNat = n + 1 := ⟨max a.length b.length - i.toNat - 1, by omega⟩
      rw [hn, sumL] at h7
      simp only [← hxa, ← hxb, ← hy, List.tail_drop] at h7
      rw [← h7, e, show max a.length b.length - (i.toNat + 1) = n by omega, hv, hc', List.append_assoc]
      rfl
    · have hc1 : c = 1 := by omega
      have h8 := na (by omega)
      have h9 := ny (by omega)
      refine ⟨by omega, by omega, by omega, ?_⟩
      rw [show max a.length b.length - i.toNat = 0 by omega, sumL, if_pos (by omega)] at h7
      rw [show max a.length b.length - (i + 1).toNat = 0 by omega, sumL, if_neg (by omega), ← h7, hv, List.append_nil]
      congr 2
      omega
  have w1 : IntKind.i64.wrap (i + 1) = i + 1 := w64 (by omega)
  have next : ∀ v c', (i < max a.length b.length ∨ c > 0) → v = (if 1000000 ≤ c + xa + y then c + xa + y - 1000000 else if c + xa + y < 0 then c + xa + y + 1000000 else c + xa + y) →
      c' = (if 1000000 ≤ c + xa + y then 1 else if c + xa + y < 0 then -1 else 0) → _ := fun v c' hc hv hc' => ih (l ++ [v]) c' (IntKind.i64.wrap (i + 1)) (by
        obtain ⟨k1, k2, k3, k4⟩ := fin v c' hc hv hc'
        rw [w1]
        exact ⟨by omega, by omega, k1, k2, k3, by simp; omega, k4⟩) (by rw [w1]; omega)
  clear ih fin
  repeat' first
    | refine DecK.tt ?_ | refine DecK.ff ?_ | refine DecK.beq (fun _ => ?_) (fun _ => ?_) | refine DecK.bne (fun _ => ?_) (fun _ => ?_) | refine DecK.dec (fun _ => ?_) (fun _ => ?_) | refine OptK.mk _ rfl ?_ | refine endV (by rfl) ?_
    | (refine OptK.mk _ (row_ia (by omega) (by omega)) ?_)
    | (refine OptK.mk _ (row_ld1 (f := fun x => .n .i64 x) (k := i.toNat) (by omega) (hya (by omega))) ?_)
    | (refine OptK.mk _ (row_ld1 (f := fun x => .n .i64 x) (k := i.toNat) (by omega) (hyb (by omega))) ?_)
    | (refine OptK.mk _ (own_app (f := ni) hz_ni rfl rfl (by omega)) ?_)
    | (refine next _ _ ?_ ?_ ?_)
  all_goals try (simp only [wy, wm64] at *; omega)
  all_goals
    rw [show max a.length b.length - i.toNat = 0 by omega, sumL, if_neg (by omega), List.append_nil] at h7
    simp only [snapRow hz_ni, h7]
end Go.Proofs.YtljcbmnkjiogmaaGreatDoor.Sv
