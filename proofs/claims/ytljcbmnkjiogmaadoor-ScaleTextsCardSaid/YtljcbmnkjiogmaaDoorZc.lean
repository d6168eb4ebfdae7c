/- The reference's whole numbers: comparing, sums. No condition. -/
import Derived.Test.YtljcbmnkjiogmaaDoorZb
namespace Go.Proofs.YtljcbmnkjiogmaaDoor.Sv
open Go Go.RowKit
set_option linter.unusedVariables false
set_option linter.unusedSimpArgs false
set_option maxRecDepth 100000
/-- live: [0, 1, 5] -/
def L73_0 : SC := .seq (.seq (.reg [⟨some 19, none, .mv, [.tm 5]⟩, ⟨some 20, none, .po (.bin .geq), [.tm 19, .cn (.n .i64 0)]⟩] [0, 1, 5, 20]) (.cond (.tm 20) .skip (.exit 0))) (.seq (.block 1 (.seq (.seq (.dreg [⟨some 23, none, .mv, [.tm 0]⟩, ⟨some 24, none, .mv, [.tm 5]⟩, ⟨some 25, none, .ia none 1, [.tm 23, .tm 24]⟩, ⟨some 26, none, .ld false 1 true, [.tm 25]⟩, ⟨some 27, none, .mv, [.tm 1]⟩, ⟨some 28, none, .mv, [.tm 5]⟩, ⟨some 29, none, .ia none 1, [.tm 27, .tm 28]⟩, ⟨some 30, none, .ld false 1 true, [.tm 29]⟩, ⟨some 31, none, .po (.bin .lss), [.tm 26, .tm 30]⟩] [] [0, 1, 5, 31]) (.cond (.tm 31) (.seq (.reg [⟨some 4, none, .mv, [.cn (.n .i64 (-1))]⟩] [4]) .ret) .skip)) (.seq (.dreg [⟨some 32, none, .mv, [.tm 0]⟩, ⟨some 33, none, .mv, [.tm 5]⟩, ⟨some 34, none, .ia none 1, [.tm 32, .tm 33]⟩, ⟨some 35, none, .ld false 1 true, [.tm 34]⟩, ⟨some 36, none, .mv, [.tm 1]⟩, ⟨some 37, none, .mv, [.tm 5]⟩, ⟨some 38, none, .ia none 1, [.tm 36, .tm 37]⟩, ⟨some 39, none, .ld false 1 true, [.tm 38]⟩, ⟨some 40, none, .po (.bin .gtr), [.tm 35, .tm 39]⟩] [] [0, 1, 5, 40]) (.cond (.tm 40) (.seq (.reg [⟨some 4, none, .mv, [.cn (.n .i64 1)]⟩] [4]) .ret) .skip)))) (.reg [⟨some 21, none, .mv, [.tm 5]⟩, ⟨some 22, none, .po (.bin .sub), [.tm 21, .cn (.n .i64 1)]⟩, ⟨some 5, none, .mv, [.tm 22]⟩] [0, 1, 5]))
/-- spyglass/spyref1.cmpDigits -/
def F73 : Fn1 := ⟨41, .seq (.reg [⟨some 4, none, .mv, [.cn (.n .i64 0)]⟩] [0, 1]) (.seq (.seq (.reg [⟨some 6, none, .mv, [.tm 0]⟩, ⟨some 7, none, .len false, [.tm 6]⟩, ⟨some 8, none, .mv, [.tm 1]⟩, ⟨some 9, none, .len false, [.tm 8]⟩, ⟨some 10, none, .po (.bin .neq), [.tm 7, .tm 9]⟩] [0, 1, 10]) (.cond (.tm 10) (.seq (.seq (.reg [⟨some 11, none, .mv, [.tm 0]⟩, ⟨some 12, none, .len false, [.tm 11]⟩, ⟨some 13, none, .mv, [.tm 1]⟩, ⟨some 14, none, .len false, [.tm 13]⟩, ⟨some 15, none, .po (.bin .lss), [.tm 12, .tm 14]⟩] [15]) (.cond (.tm 15) (.seq (.reg [⟨some 4, none, .mv, [.cn (.n .i64 (-1))]⟩] [4]) .ret) .skip)) (.seq (.reg [⟨some 4, none, .mv, [.cn (.n .i64 1)]⟩] [4]) .ret)) .skip)) (.seq (.seq (.reg [⟨some 16, none, .mv, [.tm 0]⟩, ⟨some 17, none, .len false, [.tm 16]⟩, ⟨some 18, none, .po (.bin .sub), [.tm 17, .cn (.n .i64 1)]⟩, ⟨some 5, none, .mv, [.tm 18]⟩] [0, 1, 5]) (.block 0 (.loop [0, 1, 5] L73_0))) (.seq (.reg [⟨some 4, none, .mv, [.cn (.n .i64 0)]⟩] [4]) .ret))), [.tm 4]⟩
theorem of73 : Fn1.of Tryd.prog 73 ⟨false, [], false⟩ [[0, 1], [0, 1, 10], [15], [4], [4], [0, 1, 5], [0, 1, 5], [0, 1, 5, 20], [0, 1, 5, 31], [4], [0, 1, 5, 40], [4], [0, 1, 5], [4]] = some F73 := by kernel_rfl
/-- (spyglass/spyref1.Z).Cmp -/
def F57 : Fn1 := ⟨24, .seq (.reg [⟨some 2, none, .box, [.tm 0]⟩, ⟨some 3, none, .box, [.tm 1]⟩, ⟨some 4, none, .mv, [.cn (.n .i64 0)]⟩] [2, 3]) (.seq (.seq (.reg [⟨some 5, none, .fa 0, [.tm 2]⟩, ⟨some 6, none, .ld false 1 false, [.tm 5]⟩, ⟨some 7, none, .fa 0, [.tm 3]⟩, ⟨some 8, none, .ld false 1 false, [.tm 7]⟩, ⟨some 9, none, .po (.beq true), [.tm 6, .tm 8]⟩] [2, 3, 9]) (.cond (.tm 9) (.seq (.seq (.reg [⟨some 10, none, .fa 0, [.tm 2]⟩, ⟨some 11, none, .ld false 1 false, [.tm 10]⟩] [11]) (.cond (.tm 11) (.seq (.reg [⟨some 4, none, .mv, [.cn (.n .i64 (-1))]⟩] [4]) .ret) .skip)) (.seq (.reg [⟨some 4, none, .mv, [.cn (.n .i64 1)]⟩] [4]) .ret)) .skip)) (.seq (.seq (.reg [⟨some 12, none, .fa 0, [.tm 2]⟩, ⟨some 13, none, .ld false 1 false, [.tm 12]⟩] [2, 3, 13]) (.cond (.tm 13) (.seq (.reg [⟨some 14, none, .fa 1, [.tm 3]⟩, ⟨some 15, none, .ld false 1 false, [.tm 14]⟩, ⟨some 16, none, .fa 1, [.tm 2]⟩, ⟨some 17, none, .ld false 1 false, [.tm 16]⟩, ⟨some 18, none, .call 73, [.tm 15, .tm 17]⟩, ⟨some 4, none, .mv, [.tm 18]⟩] [4]) .ret) .skip)) (.seq (.reg [⟨some 19, none, .fa 1, [.tm 2]⟩, ⟨some 20, none, .ld false 1 false, [.tm 19]⟩, ⟨some 21, none, .fa 1, [.tm 3]⟩, ⟨some 22, none, .ld false 1 false, [.tm 21]⟩, ⟨some 23, none, .call 73, [.tm 20, .tm 22]⟩, ⟨some 4, none, .mv, [.tm 23]⟩] [4]) .ret))), [.tm 4]⟩
theorem of57 : Fn1.of Tryd.prog 57 ⟨false, [], false⟩ [[2, 3], [2, 3, 9], [11], [4], [4], [2, 3, 13], [4], [4]] = some F57 := by kernel_rfl
theorem drop_at {l : List Int} {k : Nat} (h : k < l.length) : ∃ x, l[k]? = some x ∧ l.drop k = x :: l.drop (k + 1) := ⟨l[k], by simp [h], List.drop_eq_getElem_cons h⟩
theorem icmp_lt {a b : Int} (h : a < b) : icmp a b = -1 := if_pos h
theorem icmp_gt {a b : Int} (h : b < a) : icmp a b = 1 := by unfold icmp; rw [if_neg (by omega), if_neg (by omega)]
theorem icmp_eq {a b : Int} (h : a = b) : icmp a b = 0 := by unfold icmp; rw [if_neg (by omega), if_pos h]
theorem cmpDigits_ok (a b : Nat) (ha : zok a) (hb : zok b) : Pure Tryd.prog 73 [digV a, digV b] (.n .i64 (icmp a b)) := by
  refine pure_of_wp of73 (Nat.le_of_ble_eq_true rfl) ?_
  have la := ha.len
  have lb := hb.len
  simp only [Int.natAbs_natCast] at la lb
  refine DecK.bne (fun hp => ?_) (fun hp => ?_)
  · refine DecK.dec (fun h => ?_) (fun h => ?_)
    · ((repeat' first | refine DecK.tt ?_ | refine DecK.ff ?_ | refine DecK.beq (fun _ => ?_) (fun _ => ?_) | refine DecK.bne (fun _ => ?_) (fun _ => ?_) | refine DecK.dec (fun _ => ?_) (fun _ => ?_) | refine OptK.mk _ rfl ?_ | refine endV (by rfl) ?_) <;> (try with_reducible rfl))
      rw [icmp_lt]; have := zcmp_len (a := a) (b := b) (by omega); omega
    · ((repeat' first | refine DecK.tt ?_ | refine DecK.ff ?_ | refine DecK.beq (fun _ => ?_) (fun _ => ?_) | refine DecK.bne (fun _ => ?_) (fun _ => ?_) | refine DecK.dec (fun _ => ?_) (fun _ => ?_) | refine OptK.mk _ rfl ?_ | refine endV (by rfl) ?_) <;> (try with_reducible rfl))
      rw [icmp_gt]; have := zcmp_len (a := b) (b := a) (by omega); omega
  · refine loop_ind (fun i : Int => ⟨[(0, .v (digV a)), (1, .v (digV b)), (5, .v (.n .i64 i))], []⟩) (fun i => (i + 1).toNat)
      (fun i => -1 ≤ i ∧ i < (digs a).length ∧ (digs a).drop (i + 1).toNat = (digs b).drop (i + 1).toNat) _ ?_ ?_
    · rw [w64 (by omega)]
      refine ⟨by omega, by omega, ?_⟩
      rw [List.drop_eq_nil_of_le (by omega), List.drop_eq_nil_of_le (by omega)]
    intro i ⟨h1, h2, h3⟩ ih
    refine DecK.dec (fun h => ?_) (fun h => ?_)
    · obtain ⟨x, hx, ex⟩ := drop_at (l := digs a) (k := i.toNat) (by omega)
      obtain ⟨y, hy, ey⟩ := drop_at (l := digs b) (k := i.toNat) (by omega)
      have e : (i + 1).toNat = i.toNat + 1 := by omega
      rw [e] at h3
      have k1 : x < y → icmp a b = -1 := fun hxy => icmp_lt (by have := zcmp_at (digs_dig a) (digs_dig b) h3 hx hy hxy; rwa [digs_val, digs_val] at this)
      have k2 : y < x → icmp a b = 1 := fun hxy => icmp_gt (by have := zcmp_at (digs_dig b) (digs_dig a) h3.symm hy hx hxy; rwa [digs_val, digs_val] at this)
      repeat' first
        | refine DecK.tt ?_ | refine DecK.ff ?_ | refine DecK.beq (fun _ => ?_) (fun _ => ?_) | refine DecK.bne (fun _ => ?_) (fun _ => ?_) | refine DecK.dec (fun _ => ?_) (fun _ => ?_) | refine OptK.mk _ rfl ?_ | refine endV (by rfl) ?_
        | (refine OptK.mk _ (row_ia (by omega) (by omega)) ?_)
        | (refine OptK.mk _ (row_ld1 (f := fun x => .n .i64 x) (k := i.toNat) (by omega) hx) ?_)
        | (refine OptK.mk _ (row_ld1 (f := fun x => .n .i64 x) (k := i.toNat) (by omega) hy) ?_)
        | (refine ih _ ?_ ?_)
      · rw [k1 (by assumption)]
      · rw [k2 (by assumption)]
      · rw [w64 (by omega)]
        refine ⟨by omega, by omega, ?_⟩
        rw [show (i - 1 + 1).toNat = i.toNat by omega, ex, ey, h3, show x = y by omega]
      · rw [w64 (by omega)]; omega
    · ((repeat' first | refine DecK.tt ?_ | refine DecK.ff ?_ | refine DecK.beq (fun _ => ?_) (fun _ => ?_) | refine DecK.bne (fun _ => ?_) (fun _ => ?_) | refine DecK.dec (fun _ => ?_) (fun _ => ?_) | refine OptK.mk _ rfl ?_ | refine endV (by rfl) ?_) <;> (try with_reducible rfl))
      obtain rfl : i = -1 := by omega
      simp at h3
      rw [icmp_eq]
      rw [← digs_val a, ← digs_val b, h3]
theorem Cmp_ok (a b : Int) (ha : zok a) (hb : zok b) : Pure Tryd.prog 57 [zV a, zV b] (.n .i64 (icmp a b)) := by
  refine pure_of_wp of57 (Nat.le_of_ble_eq_true rfl) ?_
  have ha' : zok (a.natAbs : Int) := by unfold zok zb at *; omega
  have hb' : zok (b.natAbs : Int) := by unfold zok zb at *; omega
  by_cases h1 : a < 0 <;> by_cases h2 : b < 0
  · refine DecK.no (by simp [h1, h2]) ?_
    refine DecK.yes (by simp [h1]) ?_
    refine CallK.mk _ (cmpDigits_ok _ _ hb' ha') rfl ?_
    ((repeat' first | refine DecK.tt ?_ | refine DecK.ff ?_ | refine DecK.beq (fun _ => ?_) (fun _ => ?_) | refine DecK.bne (fun _ => ?_) (fun _ => ?_) | refine DecK.dec (fun _ => ?_) (fun _ => ?_) | refine OptK.mk _ rfl ?_ | refine endV (by rfl) ?_) <;> (try with_reducible rfl))
    simp only [V.tup.injEq, V.agg.injEq, V.n.injEq, V.b.injEq, V.s.injEq, List.cons.injEq, true_and, and_true]
    unfold icmp; omega
  · refine DecK.yes (by simp [h1, h2]) ?_
    refine DecK.yes (by simp [h1]) ?_
    ((repeat' first | refine DecK.tt ?_ | refine DecK.ff ?_ | refine DecK.beq (fun _ => ?_) (fun _ => ?_) | refine DecK.bne (fun _ => ?_) (fun _ => ?_) | refine DecK.dec (fun _ => ?_) (fun _ => ?_) | refine OptK.mk _ rfl ?_ | refine endV (by rfl) ?_) <;> (try with_reducible rfl))
    rw [icmp_lt (by omega)]
  · refine DecK.yes (by simp [h1, h2]) ?_
    refine DecK.no (by simp [h1]) ?_
    ((repeat' first | refine DecK.tt ?_ | refine DecK.ff ?_ | refine DecK.beq (fun _ => ?_) (fun _ => ?_) | refine DecK.bne (fun _ => ?_) (fun _ => ?_) | refine DecK.dec (fun _ => ?_) (fun _ => ?_) | refine OptK.mk _ rfl ?_ | refine endV (by rfl) ?_) <;> (try with_reducible rfl))
    rw [icmp_gt (by omega)]
  · refine DecK.no (by simp [h1, h2]) ?_
    refine DecK.no (by simp [h1]) ?_
    refine CallK.mk _ (cmpDigits_ok _ _ ha' hb') rfl ?_
    ((repeat' first | refine DecK.tt ?_ | refine DecK.ff ?_ | refine DecK.beq (fun _ => ?_) (fun _ => ?_) | refine DecK.bne (fun _ => ?_) (fun _ => ?_) | refine DecK.dec (fun _ => ?_) (fun _ => ?_) | refine OptK.mk _ rfl ?_ | refine endV (by rfl) ?_) <;> (try with_reducible rfl))
    simp only [V.tup.injEq, V.agg.injEq, V.n.injEq, V.b.injEq, V.s.injEq, List.cons.injEq, true_and, and_true]
    unfold icmp; omega
end Go.Proofs.YtljcbmnkjiogmaaDoor.Sv
