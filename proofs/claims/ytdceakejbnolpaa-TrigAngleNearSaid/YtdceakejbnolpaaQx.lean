/- The angle of a direction lies within 2 units of the real one. No condition. -/
import Derived.Test.YtdceakejbnolpaaQw
import Derived.Test.YtdceakejbnolpaaQe
namespace Go.Proofs.Ytdceakejbnolpaa.Sv
open Go Go.RowKit
set_option linter.unusedVariables false
set_option linter.unusedSimpArgs false
set_option maxRecDepth 100000
/-- spyglass/spylaw1.TrigAngleNear$1 -/
def F28 : Fn1 := ⟨18, .seq (.reg [⟨some 4, none, .mv, [.cn (.n .i64 0)]⟩] [0, 1, 2]) (.seq (.dreg [⟨some 5, none, .ld false 1 false, [.tm 1]⟩, ⟨some 6, none, .call 15, [.tm 5]⟩, ⟨some 7, none, .mv, [.tm 0]⟩, ⟨some 8, none, .call 19, [.tm 7]⟩, ⟨some 9, none, .call 16, [.tm 6, .tm 8]⟩, ⟨some 10, none, .ld false 1 false, [.tm 2]⟩, ⟨some 11, none, .call 15, [.tm 10]⟩, ⟨some 12, none, .mv, [.tm 0]⟩, ⟨some 13, none, .po (.bin .add), [.tm 12, .cn (.n .i64 1073741824)]⟩, ⟨some 14, none, .call 19, [.tm 13]⟩, ⟨some 15, none, .call 16, [.tm 11, .tm 14]⟩, ⟨some 16, none, .call 18, [.tm 9, .tm 15]⟩, ⟨some 17, none, .call 29, [.tm 16]⟩, ⟨some 4, none, .mv, [.tm 17]⟩] [] [4]) .ret), [.tm 4]⟩
theorem of28 : Fn1.of Try.prog 28 ⟨false, [], false⟩ [[0, 1, 2], [4]] = some F28 := by kernel_rfl
/-- spyglass/spylaw1.TrigAngleNear -/
def F5 : Fn1 := ⟨58, .seq (.reg [⟨some 2, none, .box, [.tm 0]⟩, ⟨some 3, none, .box, [.tm 1]⟩, ⟨some 4, none, .mv, [.cn (.b false)]⟩] [2, 3]) (.seq (.reg [⟨some 11, none, .ld false 1 false, [.tm 2]⟩, ⟨some 12, none, .ld false 1 false, [.tm 3]⟩, ⟨some 13, none, .call 26, [.tm 11, .tm 12]⟩, ⟨some 10, none, .mv, [.tm 13]⟩, ⟨some 14, none, .po (.ext 0), [.tm 10]⟩, ⟨some 15, none, .po (.ext 1), [.tm 10]⟩, ⟨some 5, none, .mv, [.tm 14]⟩, ⟨some 6, none, .mv, [.tm 15]⟩] [2, 3, 5, 6]) (.seq (.seq (.reg [⟨some 16, none, .call 23, []⟩, ⟨some 17, none, .po (.un .not), [.tm 16]⟩] [2, 3, 5, 6, 17]) (.cond (.tm 17) (.seq (.reg [⟨some 4, none, .mv, [.cn (.b false)]⟩] [4]) .ret) .skip)) (.seq (.seq (.reg [⟨some 18, none, .mv, [.tm 6]⟩, ⟨some 19, none, .po (.bin .neq), [.tm 18, .cn (.n .i64 0)]⟩, ⟨some 20, none, .mv, [.tm 19]⟩, ⟨some 21, some (20, false), .mv, [.tm 5]⟩, ⟨some 22, some (20, false), .po (.bin .lss), [.tm 21, .cn (.n .i64 0)]⟩, ⟨some 23, none, .pick, [.tm 20, .cn (.b true), .tm 22]⟩, ⟨some 24, none, .mv, [.tm 23]⟩, ⟨some 25, some (24, false), .mv, [.tm 5]⟩, ⟨some 26, some (24, false), .po (.bin .geq), [.tm 25, .cn (.n .i64 4294967296)]⟩, ⟨some 27, none, .pick, [.tm 24, .cn (.b true), .tm 26]⟩] [2, 3, 5, 6, 27]) (.cond (.tm 27) (.seq (.reg [⟨some 29, none, .ld false 1 false, [.tm 2]⟩, ⟨some 30, none, .ld false 1 false, [.tm 3]⟩, ⟨some 31, none, .call 27, [.tm 29, .tm 30]⟩, ⟨some 28, none, .mv, [.tm 31]⟩, ⟨some 32, none, .po (.ext 0), [.tm 28]⟩, ⟨some 33, none, .po (.ext 1), [.tm 28]⟩, ⟨some 7, none, .mv, [.tm 32]⟩, ⟨some 8, none, .mv, [.tm 33]⟩] [5, 6, 8]) (.seq (.reg [⟨some 34, none, .mv, [.tm 6]⟩, ⟨some 35, none, .mv, [.tm 8]⟩, ⟨some 36, none, .po (.bin .eql), [.tm 34, .tm 35]⟩, ⟨some 37, none, .mv, [.tm 36]⟩, ⟨some 38, some (37, true), .mv, [.tm 6]⟩, ⟨some 39, some (37, true), .po (.bin .neq), [.tm 38, .cn (.n .i64 0)]⟩, ⟨some 40, none, .pick, [.tm 37, .tm 39, .cn (.b false)]⟩, ⟨some 41, none, .mv, [.tm 40]⟩, ⟨some 42, some (41, true), .mv, [.tm 5]⟩, ⟨some 43, some (41, true), .po (.bin .eql), [.tm 42, .cn (.n .i64 0)]⟩, ⟨some 44, none, .pick, [.tm 41, .tm 43, .cn (.b false)]⟩, ⟨some 4, none, .mv, [.tm 44]⟩] [4]) .ret)) .skip)) (.seq (.reg [⟨some 45, none, .po (.mkF (.func 28) 0), [.tm 3, .tm 2]⟩, ⟨some 9, none, .mv, [.tm 45]⟩] [5, 9]) (.seq (.reg [⟨some 46, none, .mv, [.tm 9]⟩, ⟨some 47, none, .mv, [.tm 5]⟩, ⟨some 48, none, .po (.bin .add), [.tm 47, .cn (.n .i64 2)]⟩, ⟨some 49, none, .callD, [.tm 46, .tm 48]⟩, ⟨some 50, none, .po (.bin .gtr), [.tm 49, .cn (.n .i64 0)]⟩, ⟨some 51, none, .mv, [.tm 50]⟩, ⟨some 52, some (51, true), .mv, [.tm 9]⟩, ⟨some 53, some (51, true), .mv, [.tm 5]⟩, ⟨some 54, some (51, true), .po (.bin .sub), [.tm 53, .cn (.n .i64 2)]⟩, ⟨some 55, some (51, true), .callD, [.tm 52, .tm 54]⟩, ⟨some 56, some (51, true), .po (.bin .lss), [.tm 55, .cn (.n .i64 0)]⟩, ⟨some 57, none, .pick, [.tm 51, .tm 56, .cn (.b false)]⟩, ⟨some 4, none, .mv, [.tm 57]⟩] [4]) .ret))))), [.tm 4]⟩
theorem of5 : Fn1.of Try.prog 5 ⟨false, [], false⟩ [[2, 3], [2, 3, 5, 6], [2, 3, 5, 6, 17], [4], [2, 3, 5, 6, 27], [5, 6, 8], [4], [5, 9], [4]] = some F5 := by kernel_rfl
theorem realF_in' (b : Int) : -(400 * 1427247692705959881058285969449495136382746624) ≤ realF b ∧ realF b ≤ 400 * 1427247692705959881058285969449495136382746624 := by
  have hr : 0 ≤ b % 4294967296 ∧ b % 4294967296 < 4294967296 := by omega
  have hf : ∀ r : Int, 0 ≤ r → r ≤ 2147483648 → 0 ≤ foldR r ∧ foldR r ≤ 1073741824 := fun r h1 h2 => by unfold foldR; split <;> omega
  unfold realF
  split
  · have := realS_in (hf (b % 4294967296 - 2147483648) (by omega) (by omega)); omega
  · exact realS_in (hf (b % 4294967296) (by omega) (by omega))
theorem mul_32 {x f : Int} (hx : -4294967296 ≤ x ∧ x ≤ 4294967296) (hf : -(400 * 1427247692705959881058285969449495136382746624) ≤ f ∧ f ≤ 400 * 1427247692705959881058285969449495136382746624) : -(4294967296 * (400 * 1427247692705959881058285969449495136382746624)) ≤ x * f ∧ x * f ≤ 4294967296 * (400 * 1427247692705959881058285969449495136382746624) := by
  have h1 := Int.mul_nonneg (show 0 ≤ 4294967296 - x by omega) (show 0 ≤ 400 * 1427247692705959881058285969449495136382746624 + f by omega)
  have h2 := Int.mul_nonneg (show 0 ≤ 4294967296 + x by omega) (show 0 ≤ 400 * 1427247692705959881058285969449495136382746624 - f by omega)
  have h3 := Int.mul_nonneg (show 0 ≤ 4294967296 - x by omega) (show 0 ≤ 400 * 1427247692705959881058285969449495136382746624 - f by omega)
  have h4 := Int.mul_nonneg (show 0 ≤ 4294967296 + x by omega) (show 0 ≤ 400 * 1427247692705959881058285969449495136382746624 + f by omega)
  constructor <;> grind
theorem side1_ok (x y b : Int) (hx : -4294967296 ≤ x ∧ x ≤ 4294967296) (hy : -4294967296 ≤ y ∧ y ≤ 4294967296) (hb : -9223372036854775808 ≤ b ∧ b ≤ 9223372035000000000) :
    Pure Try.prog 28 ([] ++ [.n .i64 b] ++ [.ip [.n .i64 x], .ip [.n .i64 y]]) (.n .i64 (sgn (sideF x y b))) := by
  have f1 := realF_in' b
  have f2 := realF_in' (b + 1073741824)
  have p1 := mul_32 hx f1
  have p2 := mul_32 hy f2
  have w : IntKind.i64.wrap (b + 1073741824) = b + 1073741824 := w64 (by omega)
  refine pure_of_wp of28 (Nat.le_of_ble_eq_true rfl) ?_
  refine OptK.mk _ rfl ?_
  refine CallK.mk _ (I_ok x (by omega)) rfl ?_
  refine CallK.mk _ (realSine_ok b (by unfold fits; omega)) rfl ?_
  refine CallK.mk _ (Times_ok x (realF b) ((zb_big (by omega)).mono (by decide)) ((zb_big (by omega)).mono (by decide))) rfl ?_
  refine OptK.mk _ rfl ?_
  refine CallK.mk _ (I_ok y (by omega)) rfl ?_
  refine CallK.mk _ ((realSine_ok (b + 1073741824) (by unfold fits; omega)).args (by rw [w])) rfl ?_
  refine CallK.mk _ (Times_ok y (realF (b + 1073741824)) ((zb_big (by omega)).mono (by decide)) ((zb_big (by omega)).mono (by decide))) rfl ?_
  refine CallK.mk _ (Less_ok (x * realF b) (y * realF (b + 1073741824)) ((zb_big (by omega)).mono (by decide)) ((zb_big (by omega)).mono (by decide))) rfl ?_
  refine CallK.mk _ (Sign_ok _) rfl ?_
  ((repeat' first | refine DecK.tt ?_ | refine DecK.ff ?_ | refine DecK.beq (fun _ => ?_) (fun _ => ?_) | refine DecK.bne (fun _ => ?_) (fun _ => ?_) | refine DecK.dec (fun _ => ?_) (fun _ => ?_) | refine OptK.mk _ rfl ?_ | refine endV (by rfl) ?_) <;> (try with_reducible rfl))
  rfl
theorem trigAngleNear_pure (y x : Int) : Pure Try.prog 5 [.n .i64 y, .n .i64 x] (.b true) := by
  have t := atan2_ok y x
  have r := angle_ok y x
  refine pure_of_wp of5 (Nat.le_of_ble_eq_true rfl) ?_
  by_cases h : atanErr y x = 0
  · rw [if_pos h, h] at t
    have hd : ¬(x < -4294967296 ∨ x > 4294967296 ∨ y < -4294967296 ∨ y > 4294967296) := fun g => by rw [atanErr, if_pos g] at h; omega
    have hz : ¬(x = 0 ∧ y = 0) := fun g => by rw [atanErr, if_neg hd, if_pos g] at h; omega
    have hn := angle_near hz
    have hF : 0 ≤ atanF y x ∧ atanF y x < 4294967296 := by
      have : ∃ z, atanF y x = z % 4294967296 := ⟨_, rfl⟩
      obtain ⟨z, hz⟩ := this
      omega
    generalize atanF y x = a at *
    have w1 : IntKind.i64.wrap (a + 2) = a + 2 := w64 (by omega)
    have w2 : IntKind.i64.wrap (a - 2) = a - 2 := w64 (by omega)
    have k1 := side1_ok x y (a + 2) (by omega) (by omega) (by omega)
    have k2 := side1_ok x y (a - 2) (by omega) (by omega) (by omega)
    have g1 : sgn (sideF x y (a + 2)) > 0 := sgn_pos.2 hn.1
    have g2 : sgn (sideF x y (a - 2)) < 0 := by have := hn.2; unfold sgn; rw [if_pos (by omega)]; decide
    refine CallK.mk _ t rfl ?_
    refine CallK.mk _ trigs_ok rfl ?_
    refine DecK.ff ?_
    refine DecK.no rfl ?_
    refine DecK.no (decide_eq_false (by omega)) ?_
    refine DecK.no (decide_eq_false (by omega)) ?_
    refine CallK.mk _ (k1.args (by rw [w1] <;> rfl)) rfl ?_
    refine DecK.yes (decide_eq_true g1) ?_
    refine CallK.mk _ (k2.args (by rw [w2] <;> rfl)) rfl ?_
    ((repeat' first | refine DecK.tt ?_ | refine DecK.ff ?_ | refine DecK.beq (fun _ => ?_) (fun _ => ?_) | refine DecK.bne (fun _ => ?_) (fun _ => ?_) | refine DecK.dec (fun _ => ?_) (fun _ => ?_) | refine OptK.mk _ rfl ?_ | refine endV (by rfl) ?_) <;> (try with_reducible rfl))
    rw [decide_eq_true g2]
  · rw [if_neg h] at t r
    refine CallK.mk _ t rfl ?_
    refine CallK.mk _ trigs_ok rfl ?_
    refine DecK.ff ?_
    have hb : (atanErr y x != 0) = true := bne_iff_ne.2 h
    refine DecK.yes hb ?_
    repeat' (refine DecK.tt ?_)
    refine CallK.mk _ r rfl ?_
    refine DecK.yes (beq_self_eq_true _) ?_
    refine DecK.yes hb ?_
    ((repeat' first | refine DecK.tt ?_ | refine DecK.ff ?_ | refine DecK.beq (fun _ => ?_) (fun _ => ?_) | refine DecK.bne (fun _ => ?_) (fun _ => ?_) | refine DecK.dec (fun _ => ?_) (fun _ => ?_) | refine OptK.mk _ rfl ?_ | refine endV (by rfl) ?_) <;> (try with_reducible rfl))
    rfl
theorem trigAngleNear_law (x : Ty.T (.pair (.n .i64) (.pair (.n .i64) .nil))) (h : Ty.inn (.pair (.n .i64) (.pair (.n .i64) .nil)) x) : Pure Try.prog 5 (Ty.vals (.pair (.n .i64) (.pair (.n .i64) .nil)) x) (.b true) := trigAngleNear_pure x.1 x.2.1
end Go.Proofs.Ytdceakejbnolpaa.Sv
