/- Calendar: the numbers of days. No condition. -/
import Derived.Test.YtpggblmopgfloaaTa
namespace Go.Proofs.Ytpggblmopgfloaa.Sv
open Go Go.RowKit
set_option linter.unusedVariables false
set_option linter.unusedSimpArgs false
set_option maxRecDepth 100000
/-- spyglass/scale.Days -/
def F176 : Fn1 := ⟨37, .seq (.reg [⟨some 6, none, .mv, [.cn (.n .i64 0)]⟩, ⟨some 7, none, .mv, [.cn (.n .i64 0)]⟩] [0, 1, 2]) (.seq (.seq (.reg [⟨some 8, none, .mv, [.tm 0]⟩, ⟨some 9, none, .po (.bin .lss), [.tm 8, .cn (.n .i64 1)]⟩, ⟨some 10, none, .mv, [.tm 9]⟩, ⟨some 11, some (10, false), .mv, [.tm 0]⟩, ⟨some 12, some (10, false), .po (.bin .gtr), [.tm 11, .cn (.n .i64 9999)]⟩, ⟨some 13, none, .pick, [.tm 10, .cn (.b true), .tm 12]⟩, ⟨some 14, none, .mv, [.tm 13]⟩, ⟨some 15, some (14, false), .mv, [.tm 1]⟩, ⟨some 16, some (14, false), .po (.bin .lss), [.tm 15, .cn (.n .i64 1)]⟩, ⟨some 17, none, .pick, [.tm 14, .cn (.b true), .tm 16]⟩, ⟨some 18, none, .mv, [.tm 17]⟩, ⟨some 19, some (18, false), .mv, [.tm 1]⟩, ⟨some 20, some (18, false), .po (.bin .gtr), [.tm 19, .cn (.n .i64 12)]⟩, ⟨some 21, none, .pick, [.tm 18, .cn (.b true), .tm 20]⟩, ⟨some 22, none, .mv, [.tm 21]⟩, ⟨some 23, some (22, false), .mv, [.tm 2]⟩, ⟨some 24, some (22, false), .po (.bin .lss), [.tm 23, .cn (.n .i64 1)]⟩, ⟨some 25, none, .pick, [.tm 22, .cn (.b true), .tm 24]⟩, ⟨some 26, none, .mv, [.tm 25]⟩, ⟨some 27, some (26, false), .mv, [.tm 2]⟩, ⟨some 28, some (26, false), .mv, [.tm 0]⟩, ⟨some 29, some (26, false), .mv, [.tm 1]⟩, ⟨some 30, some (26, false), .call 183, [.tm 28, .tm 29]⟩, ⟨some 31, some (26, false), .po (.bin .gtr), [.tm 27, .tm 30]⟩, ⟨some 32, none, .pick, [.tm 26, .cn (.b true), .tm 31]⟩] [0, 1, 2, 32]) (.cond (.tm 32) (.seq (.reg [⟨some 6, none, .mv, [.cn (.n .i64 0)]⟩, ⟨some 7, none, .mv, [.cn (.n .i64 4)]⟩] [6, 7]) .ret) .skip)) (.seq (.reg [⟨some 33, none, .mv, [.tm 0]⟩, ⟨some 34, none, .mv, [.tm 1]⟩, ⟨some 35, none, .mv, [.tm 2]⟩, ⟨some 36, none, .call 156, [.tm 33, .tm 34, .tm 35]⟩, ⟨some 6, none, .mv, [.tm 36]⟩, ⟨some 7, none, .mv, [.cn (.n .i64 0)]⟩] [6, 7]) .ret)), [.tm 6, .tm 7]⟩
theorem of176 : Fn1.of Try.prog 176 ⟨false, [], false⟩ [[0, 1, 2], [0, 1, 2, 32], [6, 7], [6, 7]] = some F176 := by kernel_rfl
theorem daysV_d (y m d : Int) : daysV y m d = daysV y m 1 + d - 1 := by unfold daysV daysF; split <;> omega
theorem fd_succ (y : Int) (h : 1 ≤ y) : daysV (y + 1) 1 1 = daysV y 1 1 + 365 + if leap y then 1 else 0 := by
  simp only [leap_iff]
  simp (discharger := omega) only [daysV, daysF, tdivC]
  omega
theorem month_succ (y m : Int) (h : 1 ≤ y) (hm : 1 ≤ m ∧ m ≤ 11) : daysV y (m + 1) 1 = daysV y m 1 + mlen y m := by
  have : m = 1 ∨ m = 2 ∨ m = 3 ∨ m = 4 ∨ m = 5 ∨ m = 6 ∨ m = 7 ∨ m = 8 ∨ m = 9 ∨ m = 10 ∨ m = 11 := by omega
  rcases this with rfl | rfl | rfl | rfl | rfl | rfl | rfl | rfl | rfl | rfl | rfl
  all_goals simp [mlen]
  all_goals try simp only [leap_iff]
  all_goals simp (discharger := omega) only [daysV, daysF, tdivC]
  all_goals simp
  all_goals omega
theorem fd_bounds (y : Int) (h : 1 ≤ y ∧ y ≤ 20000) : -1000000 ≤ daysV y 1 1 ∧ daysV y 1 1 ≤ 8000000 := by
  simp (discharger := omega) only [daysV, daysF, tdivC]
  omega
def okDate (y m d : Int) : Prop := 1 ≤ y ∧ y ≤ 9999 ∧ 1 ≤ m ∧ m ≤ 12 ∧ 1 ≤ d ∧ d ≤ mlen y m
instance (y m d : Int) : Decidable (okDate y m d) := by unfold okDate; infer_instance
theorem mlen_bounds (y m : Int) : 28 ≤ mlen y m ∧ mlen y m ≤ 31 := by unfold mlen; omega
theorem month_bounds (y m : Int) (h : 1 ≤ y ∧ y ≤ 20000) (hm : 1 ≤ m ∧ m ≤ 12) : -1000000 ≤ daysV y m 1 ∧ daysV y m 1 ≤ 9000000 := by
  simp (discharger := omega) only [daysV, daysF, tdivC]
  omega
theorem days_okV (y m d : Int) (hy : -20000 ≤ y ∧ y ≤ 20000) (hm : 1 ≤ m ∧ m ≤ 12) (hd : -1000000000 ≤ d ∧ d ≤ 1000000000) : Pure Try.prog 156 [.n .i64 y, .n .i64 m, .n .i64 d] (.n .i64 (daysV y m d)) := days_ok y m d hy hm hd
theorem daysDate_ok (y m d : Int) : Pure Try.prog 176 [.n .i64 y, .n .i64 m, .n .i64 d] (.tup [.n .i64 (if okDate y m d then daysV y m d else 0), .n .i64 (if okDate y m d then 0 else 4)]) := by
  refine pure_of_wp of176 (Nat.le_of_ble_eq_true rfl) ?_
  have hl := mlen_bounds y m
  repeat' first | refine DecK.tt ?_ | refine DecK.ff ?_ | refine DecK.beq (fun _ => ?_) (fun _ => ?_) | refine DecK.bne (fun _ => ?_) (fun _ => ?_) | refine DecK.dec (fun _ => ?_) (fun _ => ?_) | refine OptK.mk _ rfl ?_ | refine endV (by rfl) ?_ | (refine CallK.mk _ (length_ok _ _) rfl ?_) | (refine CallK.mk _ (days_ok _ _ _ (by omega) (by omega) (by omega)) rfl ?_)
  all_goals first
    | (have ok : ¬ okDate y m d := by unfold okDate; omega
       simp only [ok, if_false]
       done)
    | (have ok : okDate y m d := by unfold okDate; omega
       simp only [ok, if_true]
       done)
end Go.Proofs.Ytpggblmopgfloaa.Sv
