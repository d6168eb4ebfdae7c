/- The sine and the cosine lie within 0.51 units of the real ones. No condition. -/
import Derived.Test.YtdceakejbnolpaaQu
import Derived.Test.YtdceakejbnolpaaQe
namespace Go.Proofs.Ytdceakejbnolpaa.Sv
open Go Go.RowKit
set_option linter.unusedVariables false
set_option linter.unusedSimpArgs false
set_option maxRecDepth 100000
/-- spyglass/spylaw1.TrigNear$1 -/
def F14 : Fn1 := ⟨26, .seq (.reg [⟨some 4, none, .mv, [.cn (.b false)]⟩] [0, 1]) (.seq (.reg [⟨some 6, none, .mv, [.tm 0]⟩, ⟨some 7, none, .call 15, [.tm 6]⟩, ⟨some 8, none, .call 17, [.cn (.n .i64 150)]⟩, ⟨some 9, none, .call 16, [.tm 7, .tm 8]⟩, ⟨some 10, none, .mv, [.tm 1]⟩, ⟨some 11, none, .call 19, [.tm 10]⟩, ⟨some 12, none, .call 17, [.cn (.n .i64 30)]⟩, ⟨some 13, none, .call 16, [.tm 11, .tm 12]⟩, ⟨some 14, none, .call 18, [.tm 9, .tm 13]⟩, ⟨some 15, none, .call 20, [.tm 14]⟩, ⟨some 5, none, .alloc [.b false, .sl 0 [] true], []⟩, ⟨none, none, .st 2, [.tm 5, .tm 15]⟩] [5]) (.seq (.dreg [⟨some 16, none, .ld true 2 false, [.tm 5]⟩, ⟨some 17, none, .call 15, [.cn (.n .i64 100)]⟩, ⟨some 18, none, .call 16, [.tm 16, .tm 17]⟩, ⟨some 19, none, .call 15, [.cn (.n .i64 51)]⟩, ⟨some 20, none, .call 17, [.cn (.n .i64 150)]⟩, ⟨some 21, none, .call 16, [.tm 19, .tm 20]⟩, ⟨some 22, none, .call 17, [.cn (.n .i64 60)]⟩, ⟨some 23, none, .call 22, [.tm 21, .tm 22]⟩, ⟨some 24, none, .call 21, [.tm 18, .tm 23]⟩, ⟨some 25, none, .po (.bin .leq), [.tm 24, .cn (.n .i64 0)]⟩, ⟨some 4, none, .mv, [.tm 25]⟩] [] [4]) .ret)), [.tm 4]⟩
theorem of14 : Fn1.of Try.prog 14 ⟨false, [], false⟩ [[0, 1], [5], [4]] = some F14 := by kernel_rfl
/-- spyglass/spylaw1.TrigNear -/
def F3 : Fn1 := ⟨23, .seq (.reg [⟨some 2, none, .mv, [.cn (.b false)]⟩] [0]) (.seq (.reg [⟨some 3, none, .mv, [.cn (.clo (.func 14) [] [])]⟩] [0, 3]) (.seq (.reg [⟨some 5, none, .mv, [.tm 0]⟩, ⟨some 6, none, .po (.bin .and), [.tm 5, .cn (.n .i64 4294967295)]⟩, ⟨some 4, none, .mv, [.tm 6]⟩] [0, 3, 4]) (.seq (.reg [⟨some 7, none, .call 23, []⟩, ⟨some 8, none, .mv, [.tm 7]⟩, ⟨some 9, some (8, true), .mv, [.tm 3]⟩, ⟨some 10, some (8, true), .mv, [.tm 0]⟩, ⟨some 11, some (8, true), .call 24, [.tm 10]⟩, ⟨some 12, some (8, true), .mv, [.tm 4]⟩, ⟨some 13, some (8, true), .callD, [.tm 9, .tm 11, .tm 12]⟩, ⟨some 14, none, .pick, [.tm 8, .tm 13, .cn (.b false)]⟩, ⟨some 15, none, .mv, [.tm 14]⟩, ⟨some 16, some (15, true), .mv, [.tm 3]⟩, ⟨some 17, some (15, true), .mv, [.tm 0]⟩, ⟨some 18, some (15, true), .call 25, [.tm 17]⟩, ⟨some 19, some (15, true), .mv, [.tm 4]⟩, ⟨some 20, some (15, true), .po (.bin .add), [.tm 19, .cn (.n .i64 1073741824)]⟩, ⟨some 21, some (15, true), .callD, [.tm 16, .tm 18, .tm 20]⟩, ⟨some 22, none, .pick, [.tm 15, .tm 21, .cn (.b false)]⟩, ⟨some 2, none, .mv, [.tm 22]⟩] [2]) .ret))), [.tm 2]⟩
theorem of3 : Fn1.of Try.prog 3 ⟨false, [], false⟩ [[0], [0, 3], [0, 3, 4], [2]] = some F3 := by kernel_rfl
theorem near_sin {a b : Int} (h : a % 4294967296 = b % 4294967296) : -(51 * 1427247692705959881058285969449495136382746624) ≤ (sinF a * 1427247692705959881058285969449495136382746624 - realF b * 1073741824) * 100 ∧ (sinF a * 1427247692705959881058285969449495136382746624 - realF b * 1073741824) * 100 ≤ 51 * 1427247692705959881058285969449495136382746624 := by
  unfold sinF realF
  simp only [h]
  have hr : 0 ≤ b % 4294967296 ∧ b % 4294967296 < 4294967296 := by omega
  generalize b % 4294967296 = r at *
  unfold foldR
  by_cases h1 : r ≤ 1073741824
  · rw [if_pos h1, if_neg (show ¬ r > 2147483648 by omega), if_neg (show ¬ r > 1073741824 by omega)]
    exact near_main ⟨hr.1, h1⟩
  rw [if_neg h1]
  by_cases h2 : r ≤ 2147483648
  · rw [if_pos h2, if_neg (show ¬ r > 2147483648 by omega), if_pos (show r > 1073741824 by omega)]
    exact near_main ⟨by omega, by omega⟩
  rw [if_neg h2, if_pos (show r > 2147483648 by omega)]
  by_cases h3 : r ≤ 3221225472
  · rw [if_pos h3, if_neg (show ¬ r - 2147483648 > 1073741824 by omega)]
    have := near_main (t := r - 2147483648) ⟨by omega, by omega⟩
    omega
  · rw [if_neg h3, if_pos (show r - 2147483648 > 1073741824 by omega)]
    have := near_main (t := 4294967296 - r) ⟨by omega, by omega⟩
    rw [show 2147483648 - (r - 2147483648) = 4294967296 - r by omega]
    omega
theorem realF_in (b : Int) : -(400 * 1427247692705959881058285969449495136382746624) ≤ realF b ∧ realF b ≤ 400 * 1427247692705959881058285969449495136382746624 := by
  have hr : 0 ≤ b % 4294967296 ∧ b % 4294967296 < 4294967296 := by omega
  have hf : ∀ r : Int, 0 ≤ r → r ≤ 2147483648 → 0 ≤ foldR r ∧ foldR r ≤ 1073741824 := fun r h1 h2 => by unfold foldR; split <;> omega
  unfold realF
  split
  · have := realS_in (hf (b % 4294967296 - 2147483648) (by omega) (by omega)); omega
  · exact realS_in (hf (b % 4294967296) (by omega) (by omega))
theorem near1_ok (s b : Int) (hs : -1073741824 ≤ s ∧ s ≤ 1073741824) (hb : fits b) : Pure Try.prog 14 ([] ++ [.n .i64 s, .n .i64 b] ++ []) (.b (decide (icmp (((s * 1427247692705959881058285969449495136382746624 - realF b * 1073741824).natAbs : Int) * 100) (51 * 1427247692705959881058285969449495136382746624 + 1152921504606846976) ≤ 0))) := by
  have hf := realF_in b
  refine pure_of_wp of14 (Nat.le_of_ble_eq_true rfl) ?_
  refine CallK.mk _ (I_ok s (by omega)) rfl ?_
  refine CallK.mk _ two150 rfl ?_
  refine CallK.mk _ (Times_ok s 1427247692705959881058285969449495136382746624 ((zb_big (by omega)).mono (by decide)) ((zb_big (by decide)).mono (by decide))) rfl ?_
  refine CallK.mk _ (realSine_ok b hb) rfl ?_
  refine CallK.mk _ two30 rfl ?_
  refine CallK.mk _ (Times_ok (realF b) 1073741824 ((zb_big (by omega)).mono (by decide)) (by first | exact (zb_64 (by omega)).mono (by decide) | exact ((zb_64 (by omega)).mul (zb_64 (by omega))).mono (by decide))) rfl ?_
  refine CallK.mk _ (Less_ok (s * 1427247692705959881058285969449495136382746624) (realF b * 1073741824) ((zb_big (by omega)).mono (by decide)) ((zb_big (by omega)).mono (by decide))) rfl ?_
  obtain ⟨d, hd⟩ : ∃ d, d = s * 1427247692705959881058285969449495136382746624 - realF b * 1073741824 := ⟨_, rfl⟩
  rw [← hd]
  refine CallK.mk _ (Abs_ok d) rfl ?_
  refine OptK.mk _ rfl ?_
  refine CallK.mk _ (I_ok 100 (by decide)) rfl ?_
  refine CallK.mk _ (Times_ok d.natAbs 100 ((zb_big (by omega)).mono (by decide)) (by first | exact (zb_64 (by omega)).mono (by decide) | exact ((zb_64 (by omega)).mul (zb_64 (by omega))).mono (by decide))) rfl ?_
  refine CallK.mk _ (I_ok 51 (by decide)) rfl ?_
  refine CallK.mk _ two150 rfl ?_
  refine CallK.mk _ (Times_ok 51 1427247692705959881058285969449495136382746624 (by first | exact (zb_64 (by omega)).mono (by decide) | exact ((zb_64 (by omega)).mul (zb_64 (by omega))).mono (by decide)) ((zb_big (by decide)).mono (by decide))) rfl ?_
  refine CallK.mk _ two60 rfl ?_
  refine CallK.mk _ (Plus_ok (51 * 1427247692705959881058285969449495136382746624) 1152921504606846976 ((zb_big (by decide)).mono (by decide)) (by first | exact (zb_64 (by omega)).mono (by decide) | exact ((zb_64 (by omega)).mul (zb_64 (by omega))).mono (by decide))) rfl ?_
  refine CallK.mk _ (Cmp_ok (d.natAbs * 100) (51 * 1427247692705959881058285969449495136382746624 + 1152921504606846976) ((zb_big (by omega)).mono (by decide)) ((zb_big (by decide)).mono (by decide))) rfl ?_
  ((repeat' first | refine DecK.tt ?_ | refine DecK.ff ?_ | refine DecK.beq (fun _ => ?_) (fun _ => ?_) | refine DecK.bne (fun _ => ?_) (fun _ => ?_) | refine DecK.dec (fun _ => ?_) (fun _ => ?_) | refine OptK.mk _ rfl ?_ | refine endV (by rfl) ?_) <;> (try with_reducible rfl))
theorem trigNear_pure (a : Int) (ha : fits a) : Pure Try.prog 3 [.n .i64 a] (.b true) := by
  refine pure_of_wp of3 (Nat.le_of_ble_eq_true rfl) ?_
  have em : IntKind.i64.wrap ((BitVec.ofInt IntKind.i64.bits a &&& BitVec.ofInt IntKind.i64.bits 4294967295).toNat : Nat) = a % 4294967296 := and_mask ha 32 (by decide)
  have hr : 0 ≤ a % 4294967296 ∧ a % 4294967296 < 4294967296 := by omega
  have wr : IntKind.i64.wrap (a % 4294967296 + 1073741824) = a % 4294967296 + 1073741824 := w64 (by omega)
  have s1 := sinF_in a
  have s2 := sinF_in (a + 1073741824)
  have n1 := near_sin (a := a) (b := a % 4294967296) (by omega)
  have n2 := near_sin (a := a + 1073741824) (b := a % 4294967296 + 1073741824) (by omega)
  have k1 := near1_ok (sinF a) (a % 4294967296) s1 (by unfold fits; omega)
  have k2 := near1_ok (sinF (a + 1073741824)) (a % 4294967296 + 1073741824) s2 (by unfold fits; omega)
  rw [decide_eq_true (icmp_le0.2 (by omega))] at k1 k2
  refine CallK.mk _ trigs_ok rfl ?_
  refine DecK.tt ?_
  refine CallK.mk _ (sin_ok a ha) rfl ?_
  refine CallK.mk _ (k1.args (by rw [← em])) rfl ?_
  refine DecK.tt ?_
  refine CallK.mk _ (cos_ok a ha) rfl ?_
  refine CallK.mk _ (k2.args (by rw [← wr, ← em])) rfl ?_
  ((repeat' first | refine DecK.tt ?_ | refine DecK.ff ?_ | refine DecK.beq (fun _ => ?_) (fun _ => ?_) | refine DecK.bne (fun _ => ?_) (fun _ => ?_) | refine DecK.dec (fun _ => ?_) (fun _ => ?_) | refine OptK.mk _ rfl ?_ | refine endV (by rfl) ?_) <;> (try with_reducible rfl))
theorem trigNear_law (x : Ty.T (.pair (.n .i64) .nil)) (h : Ty.inn (.pair (.n .i64) .nil) x) : Pure Try.prog 3 (Ty.vals (.pair (.n .i64) .nil) x) (.b true) := trigNear_pure x.1 h.1
end Go.Proofs.Ytdceakejbnolpaa.Sv
