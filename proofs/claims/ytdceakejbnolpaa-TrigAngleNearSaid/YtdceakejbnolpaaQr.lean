/- The reference's real sines: what it computes. No condition. -/
import Derived.Test.YtdceakejbnolpaaQc
import Derived.Test.YtdceakejbnolpaaZh
import Derived.Test.YtdceakejbnolpaaSv27
namespace Go.Proofs.Ytdceakejbnolpaa.Sv
open Go Go.RowKit
set_option linter.unusedVariables false
set_option linter.unusedSimpArgs false
set_option maxRecDepth 100000
/-- live: [0, 2, 3, 4, 5] -/
def L131_0 : SC := .seq (.seq (.reg [⟨some 11, none, .ld true 2 false, [.tm 3]⟩, ⟨some 12, none, .call 29, [.tm 11]⟩, ⟨some 13, none, .po (.bin .gtr), [.tm 12, .cn (.n .i64 0)]⟩] [0, 2, 3, 4, 5, 13]) (.cond (.tm 13) .skip (.exit 0))) (.seq (.block 1 (.seq (.seq (.dreg [⟨some 16, none, .ld true 2 false, [.tm 3]⟩, ⟨some 17, none, .mv, [.tm 5]⟩, ⟨some 18, none, .call 15, [.tm 17]⟩, ⟨some 19, none, .call 66, [.tm 16, .tm 18]⟩, ⟨some 6, none, .alloc [.b false, .sl 0 [] true], []⟩, ⟨none, none, .st 2, [.tm 6, .tm 19]⟩] [] [0, 2, 3, 4, 5, 6]) (.seq (.reg [⟨some 20, none, .mv, [.tm 5]⟩, ⟨some 21, none, .po (.bin .rem), [.tm 20, .cn (.n .i64 4)]⟩, ⟨some 22, none, .po (.bin .eql), [.tm 21, .cn (.n .i64 1)]⟩] [0, 2, 3, 4, 5, 6, 22]) (.cond (.tm 22) (.reg [⟨some 23, none, .ld true 2 false, [.tm 4]⟩, ⟨some 24, none, .ld true 2 false, [.tm 6]⟩, ⟨some 25, none, .call 22, [.tm 23, .tm 24]⟩, ⟨none, none, .st 2, [.tm 4, .tm 25]⟩] [0, 2, 3, 4, 5]) (.reg [⟨some 26, none, .ld true 2 false, [.tm 4]⟩, ⟨some 27, none, .ld true 2 false, [.tm 6]⟩, ⟨some 28, none, .call 18, [.tm 26, .tm 27]⟩, ⟨none, none, .st 2, [.tm 4, .tm 28]⟩] [0, 2, 3, 4, 5])))) (.dreg [⟨some 29, none, .ld true 2 false, [.tm 3]⟩, ⟨some 30, none, .mv, [.tm 0]⟩, ⟨some 31, none, .mv, [.tm 0]⟩, ⟨some 32, none, .po (.bin .mul), [.tm 30, .tm 31]⟩, ⟨some 33, none, .call 15, [.tm 32]⟩, ⟨some 34, none, .call 66, [.tm 29, .tm 33]⟩, ⟨none, none, .st 2, [.tm 3, .tm 34]⟩] [] [0, 2, 3, 4, 5]))) (.reg [⟨some 14, none, .mv, [.tm 5]⟩, ⟨some 15, none, .po (.bin .add), [.tm 14, .cn (.n .i64 2)]⟩, ⟨some 5, none, .mv, [.tm 15]⟩] [0, 2, 3, 4, 5]))
/-- spyglass/spyref1.atan -/
def F131 : Fn1 := ⟨36, .seq (.reg [⟨some 2, none, .alloc [.b false, .sl 0 [] true], []⟩] [0, 2]) (.seq (.reg [⟨some 7, none, .call 17, [.cn (.n .i64 150)]⟩, ⟨some 8, none, .mv, [.tm 0]⟩, ⟨some 9, none, .call 15, [.tm 8]⟩, ⟨some 10, none, .call 66, [.tm 7, .tm 9]⟩, ⟨some 3, none, .alloc [.b false, .sl 0 [] true], []⟩, ⟨none, none, .st 2, [.tm 3, .tm 10]⟩] [0, 2, 3]) (.seq (.reg [⟨some 4, none, .alloc [.b false, .sl 0 [] true], []⟩] [0, 2, 3, 4]) (.seq (.seq (.reg [⟨some 5, none, .mv, [.cn (.n .i64 1)]⟩] [0, 2, 3, 4, 5]) (.block 0 (.loop [0, 2, 3, 4, 5] L131_0))) (.seq (.reg [⟨some 35, none, .ld true 2 false, [.tm 4]⟩, ⟨none, none, .st 2, [.tm 2, .tm 35]⟩] [2]) .ret)))), [.cell 2 true 2]⟩
theorem of131 : Fn1.of Try.prog 131 ⟨false, [], false⟩ [[0, 2], [0, 2, 3], [0, 2, 3, 4], [0, 2, 3, 4, 5], [0, 2, 3, 4, 5], [0, 2, 3, 4, 5, 13], [0, 2, 3, 4, 5, 6], [0, 2, 3, 4, 5, 6, 22], [0, 2, 3, 4, 5], [0, 2, 3, 4, 5], [0, 2, 3, 4, 5], [0, 2, 3, 4, 5], [2]] = some F131 := by kernel_rfl
/-- spyglass/spyref1.Pi -/
def F65 : Fn1 := ⟨8, .seq (.reg [⟨some 0, none, .alloc [.b false, .sl 0 [] true], []⟩] [0]) (.seq (.reg [⟨some 1, none, .call 131, [.cn (.n .i64 5)]⟩, ⟨some 2, none, .call 15, [.cn (.n .i64 16)]⟩, ⟨some 3, none, .call 16, [.tm 1, .tm 2]⟩, ⟨some 4, none, .call 131, [.cn (.n .i64 239)]⟩, ⟨some 5, none, .call 15, [.cn (.n .i64 4)]⟩, ⟨some 6, none, .call 16, [.tm 4, .tm 5]⟩, ⟨some 7, none, .call 18, [.tm 3, .tm 6]⟩, ⟨none, none, .st 2, [.tm 0, .tm 7]⟩] [0]) .ret), [.cell 0 true 2]⟩
theorem of65 : Fn1.of Try.prog 65 ⟨false, [], false⟩ [[0], [0]] = some F65 := by kernel_rfl
/-- live: [2, 7, 9, 10, 11, 12] -/
def L19_0 : SC := .seq (.seq (.reg [⟨some 46, none, .ld true 2 false, [.tm 10]⟩, ⟨some 47, none, .call 29, [.tm 46]⟩, ⟨some 48, none, .po (.bin .gtr), [.tm 47, .cn (.n .i64 0)]⟩] [2, 7, 9, 10, 11, 12, 48]) (.cond (.tm 48) .skip (.exit 0))) (.seq (.block 1 (.seq (.seq (.reg [⟨some 51, none, .mv, [.tm 12]⟩, ⟨some 52, none, .po (.bin .rem), [.tm 51, .cn (.n .i64 4)]⟩, ⟨some 53, none, .po (.bin .eql), [.tm 52, .cn (.n .i64 1)]⟩] [2, 7, 9, 10, 11, 12, 53]) (.cond (.tm 53) (.reg [⟨some 54, none, .ld true 2 false, [.tm 11]⟩, ⟨some 55, none, .ld true 2 false, [.tm 10]⟩, ⟨some 56, none, .call 22, [.tm 54, .tm 55]⟩, ⟨none, none, .st 2, [.tm 11, .tm 56]⟩] [2, 7, 9, 10, 11, 12]) (.reg [⟨some 57, none, .ld true 2 false, [.tm 11]⟩, ⟨some 58, none, .ld true 2 false, [.tm 10]⟩, ⟨some 59, none, .call 18, [.tm 57, .tm 58]⟩, ⟨none, none, .st 2, [.tm 11, .tm 59]⟩] [2, 7, 9, 10, 11, 12]))) (.reg [⟨some 60, none, .ld true 2 false, [.tm 10]⟩, ⟨some 61, none, .ld true 2 false, [.tm 9]⟩, ⟨some 62, none, .call 16, [.tm 60, .tm 61]⟩, ⟨some 63, none, .call 17, [.cn (.n .i64 150)]⟩, ⟨some 64, none, .call 66, [.tm 62, .tm 63]⟩, ⟨some 65, none, .mv, [.tm 12]⟩, ⟨some 66, none, .po (.bin .add), [.tm 65, .cn (.n .i64 1)]⟩, ⟨some 67, none, .mv, [.tm 12]⟩, ⟨some 68, none, .po (.bin .add), [.tm 67, .cn (.n .i64 2)]⟩, ⟨some 69, none, .po (.bin .mul), [.tm 66, .tm 68]⟩, ⟨some 70, none, .call 15, [.tm 69]⟩, ⟨some 71, none, .call 66, [.tm 64, .tm 70]⟩, ⟨none, none, .st 2, [.tm 10, .tm 71]⟩] [2, 7, 9, 10, 11, 12]))) (.reg [⟨some 49, none, .mv, [.tm 12]⟩, ⟨some 50, none, .po (.bin .add), [.tm 49, .cn (.n .i64 2)]⟩, ⟨some 12, none, .mv, [.tm 50]⟩] [2, 7, 9, 10, 11, 12]))
/-- spyglass/spyref1.RealSine -/
def F19 : Fn1 := ⟨76, .seq (.reg [⟨some 2, none, .alloc [.b false, .sl 0 [] true], []⟩] [0, 2]) (.seq (.reg [⟨some 14, none, .mv, [.tm 0]⟩, ⟨some 15, none, .call 15, [.tm 14]⟩, ⟨some 16, none, .call 17, [.cn (.n .i64 32)]⟩, ⟨some 17, none, .call 63, [.tm 15, .tm 16]⟩, ⟨some 13, none, .mv, [.tm 17]⟩, ⟨some 18, none, .po (.ext 0), [.tm 13]⟩, ⟨some 19, none, .po (.ext 1), [.tm 13]⟩, ⟨some 3, none, .alloc [.b false, .sl 0 [] true], []⟩, ⟨some 4, none, .alloc [.b false, .sl 0 [] true], []⟩, ⟨none, none, .st 2, [.tm 3, .tm 18]⟩, ⟨none, none, .st 2, [.tm 4, .tm 19]⟩] [2, 4]) (.seq (.reg [⟨some 21, none, .ld true 2 false, [.tm 4]⟩, ⟨some 22, none, .call 64, [.tm 21]⟩, ⟨some 20, none, .mv, [.tm 22]⟩, ⟨some 23, none, .po (.ext 0), [.tm 20]⟩, ⟨some 24, none, .po (.ext 1), [.tm 20]⟩, ⟨some 5, none, .mv, [.tm 23]⟩, ⟨some 6, none, .mv, [.tm 24]⟩] [2, 5]) (.seq (.reg [⟨some 25, none, .mv, [.tm 5]⟩, ⟨some 26, none, .po (.bin .gtr), [.tm 25, .cn (.n .i64 2147483648)]⟩, ⟨some 7, none, .mv, [.tm 26]⟩] [2, 5, 7]) (.seq (.seq (.reg [⟨some 27, none, .mv, [.tm 7]⟩] [2, 5, 7, 27]) (.cond (.tm 27) (.reg [⟨some 28, none, .mv, [.tm 5]⟩, ⟨some 29, none, .po (.bin .sub), [.tm 28, .cn (.n .i64 2147483648)]⟩, ⟨some 5, none, .mv, [.tm 29]⟩] [2, 5, 7]) .skip)) (.seq (.seq (.reg [⟨some 30, none, .mv, [.tm 5]⟩, ⟨some 31, none, .po (.bin .gtr), [.tm 30, .cn (.n .i64 1073741824)]⟩] [2, 5, 7, 31]) (.cond (.tm 31) (.reg [⟨some 32, none, .mv, [.tm 5]⟩, ⟨some 33, none, .po (.bin .sub), [.cn (.n .i64 2147483648), .tm 32]⟩, ⟨some 5, none, .mv, [.tm 33]⟩] [2, 5, 7]) .skip)) (.seq (.reg [⟨some 34, none, .call 65, []⟩, ⟨some 35, none, .mv, [.tm 5]⟩, ⟨some 36, none, .call 15, [.tm 35]⟩, ⟨some 37, none, .call 16, [.tm 34, .tm 36]⟩, ⟨some 38, none, .call 17, [.cn (.n .i64 31)]⟩, ⟨some 39, none, .call 66, [.tm 37, .tm 38]⟩, ⟨some 8, none, .alloc [.b false, .sl 0 [] true], []⟩, ⟨none, none, .st 2, [.tm 8, .tm 39]⟩] [2, 7, 8]) (.seq (.reg [⟨some 40, none, .ld true 2 false, [.tm 8]⟩, ⟨some 41, none, .ld true 2 false, [.tm 8]⟩, ⟨some 42, none, .call 16, [.tm 40, .tm 41]⟩, ⟨some 43, none, .call 17, [.cn (.n .i64 150)]⟩, ⟨some 44, none, .call 66, [.tm 42, .tm 43]⟩, ⟨some 9, none, .alloc [.b false, .sl 0 [] true], []⟩, ⟨none, none, .st 2, [.tm 9, .tm 44]⟩] [2, 7, 8, 9]) (.seq (.reg [⟨some 45, none, .ld true 2 false, [.tm 8]⟩, ⟨some 10, none, .alloc [.b false, .sl 0 [] true], []⟩, ⟨none, none, .st 2, [.tm 10, .tm 45]⟩] [2, 7, 9, 10]) (.seq (.reg [⟨some 11, none, .alloc [.b false, .sl 0 [] true], []⟩] [2, 7, 9, 10, 11]) (.seq (.seq (.reg [⟨some 12, none, .mv, [.cn (.n .i64 1)]⟩] [2, 7, 9, 10, 11, 12]) (.block 0 (.loop [2, 7, 9, 10, 11, 12] L19_0))) (.seq (.seq (.reg [⟨some 72, none, .mv, [.tm 7]⟩] [2, 11, 72]) (.cond (.tm 72) (.seq (.reg [⟨some 73, none, .ld true 2 false, [.tm 11]⟩, ⟨some 74, none, .call 62, [.tm 73]⟩, ⟨none, none, .st 2, [.tm 2, .tm 74]⟩] [2]) .ret) .skip)) (.seq (.reg [⟨some 75, none, .ld true 2 false, [.tm 11]⟩, ⟨none, none, .st 2, [.tm 2, .tm 75]⟩] [2]) .ret)))))))))))), [.cell 2 true 2]⟩
theorem of19 : Fn1.of Try.prog 19 ⟨false, [], false⟩ [[0, 2], [2, 4], [2, 5], [2, 5, 7], [2, 5, 7, 27], [2, 5, 7], [2, 5, 7, 31], [2, 5, 7], [2, 7, 8], [2, 7, 8, 9], [2, 7, 9, 10], [2, 7, 9, 10, 11], [2, 7, 9, 10, 11, 12], [2, 7, 9, 10, 11, 12], [2, 7, 9, 10, 11, 12, 48], [2, 7, 9, 10, 11, 12, 53], [2, 7, 9, 10, 11, 12], [2, 7, 9, 10, 11, 12], [2, 7, 9, 10, 11, 12], [2, 7, 9, 10, 11, 12], [2, 11, 72], [2], [2]] = some F19 := by kernel_rfl
theorem two150 : Pure Try.prog 17 [.n .i64 150] (zV 1427247692705959881058285969449495136382746624) := Two_ok 150 (by decide)
theorem two31 : Pure Try.prog 17 [.n .i64 31] (zV 2147483648) := Two_ok 31 (by decide)
theorem zb_big {x : Int} (h : -1427247692705959881058285969449495136382746624000000000000000 ≤ x ∧ x ≤ 1427247692705959881058285969449495136382746624000000000000000) : zb 11 x := by
  unfold zb
  have e : (1000000 : Int) ^ 11 = 1000000000000000000000000000000000000000000000000000000000000000000 := by decide
  rw [e]
  omega
def atanL (n : Int) : Nat → Int → Int → Int → Int
  | 0, _, _, s => s
  | f + 1, k, t, s => if t > 0 then atanL n f (k + 2) (t / (n * n)) (if k % 4 = 1 then s + t / k else s - t / k) else s
theorem sgn_pos {t : Int} : sgn t > 0 ↔ 0 < t := by unfold sgn; split <;> (try split) <;> omega
theorem tmod4 {k : Int} (h : 0 ≤ k) : k.tmod 4 = k % 4 := Int.tmod_eq_emod_of_nonneg h
theorem atan_ok (n : Int) (hn : 4 ≤ n ∧ n ≤ 1000) : Pure Try.prog 131 [.n .i64 n] (zV (atanL n 151 1 (1427247692705959881058285969449495136382746624 / n) 0)) := by
  refine pure_of_wp of131 (Nat.le_of_ble_eq_true rfl) ?_
  have hq : 0 < 1427247692705959881058285969449495136382746624 / n ∧ 1427247692705959881058285969449495136382746624 / n < 2 ^ 151 := by
    have h1 : 0 < 1427247692705959881058285969449495136382746624 / n := by have := (Int.le_ediv_iff_mul_le (a := 1) (b := 1427247692705959881058285969449495136382746624) (c := n) (by omega)).2 (by omega); omega
    have h2 : 1427247692705959881058285969449495136382746624 / n ≤ 1427247692705959881058285969449495136382746624 := Int.ediv_le_self _ (by decide)
    refine ⟨h1, Int.lt_of_le_of_lt h2 (by decide)⟩
  have hnn : 16 ≤ n * n ∧ n * n ≤ 1000000 := ⟨Int.mul_le_mul hn.1 hn.1 (by decide) (by omega), Int.mul_le_mul hn.2 hn.2 (by omega) (by decide)⟩
  refine CallK.mk _ two150 rfl ?_
  refine CallK.mk _ (I_ok n (by omega)) rfl ?_
  refine CallK.mk _ (Floor_ok 1427247692705959881058285969449495136382746624 n ((zb_big (by decide)).mono (by decide)) (by first | exact (zb_64 (by omega)).mono (by decide) | exact ((zb_64 (by omega)).mul (zb_64 (by omega))).mono (by decide)) (by omega)) rfl ?_
  refine OptK.mk _ rfl ?_
  obtain ⟨q, hqe⟩ : ∃ q, q = 1427247692705959881058285969449495136382746624 / n := ⟨_, rfl⟩
  rw [← hqe] at hq ⊢
  refine loop_eq (st' := ⟨[(0, .v (.n .i64 n)), (2, .ref 2 0), (3, .ref 3 0), (4, .ref 4 0), (5, .v (.n .i64 1))], [(4, zCt 0 true), (3, zC q), (2, zCt 0 true)]⟩) (by rw [zCt_zero]; rfl) ?_
  refine loop_ind4 (fun (t s k : Int) (x : Nat × Bool) => ⟨[(0, .v (.n .i64 n)), (2, .ref 2 0), (3, .ref 3 0), (4, .ref 4 0), (5, .v (.n .i64 k))], [(4, zCt s x.2), (3, zC t), (2, zCt 0 true)]⟩) (fun t s k x => t.toNat)
    (fun t s k x => (x.2 = true → t = q) ∧ 0 ≤ t ∧ t < 2 ^ x.1 ∧ x.1 ≤ 151 ∧ t ≤ q ∧ 1 ≤ k ∧ k = 1 + 2 * ((151 - x.1 : Nat) : Int) ∧ -(1427247692705959881058285969449495136382746624 * ((151 - x.1 : Nat) : Int)) ≤ s ∧ s ≤ 1427247692705959881058285969449495136382746624 * ((151 - x.1 : Nat) : Int) ∧ atanL n x.1 k t s = atanL n 151 1 q 0) q 0 1 (151, true) ⟨fun _ => rfl, by omega, hq.2, by decide, Int.le_refl _, by decide, by decide, by decide, by decide, rfl⟩ ?_
  intro t s k ⟨f, tt⟩ ⟨htt, h1, h2, h3, h4, h5, h6, h7, h8, h9⟩ ih
  simp only at htt h2 h3 h6 h7 h8 h9
  have hqB : q ≤ 1427247692705959881058285969449495136382746624 := by rw [hqe]; exact Int.ediv_le_self _ (by decide)
  have hm : 0 ≤ ((151 - f : Nat) : Int) ∧ ((151 - f : Nat) : Int) ≤ 151 := by omega
  obtain ⟨m, hme⟩ : ∃ m : Int, m = ((151 - f : Nat) : Int) := ⟨_, rfl⟩
  rw [← hme] at h6 h7 h8 hm
  have hs : -(1427247692705959881058285969449495136382746624 * 151) ≤ s ∧ s ≤ 1427247692705959881058285969449495136382746624 * 151 := by omega
  refine CallK.mk _ (Sign_ok t) rfl ?_
  by_cases hp : 0 < t
  · refine DecK.yes (decide_eq_true (sgn_pos.2 hp)) ?_
    cases f with
    | zero => simp at h2; omega
    | succ f =>
      have h9 : atanL n f (k + 2) (t / (n * n)) (if k % 4 = 1 then s + t / k else s - t / k) = atanL n 151 1 q 0 := by rw [← h9, atanL, if_pos hp]
      have hd : 0 ≤ t / k ∧ t / k ≤ t := ⟨Int.ediv_nonneg h1 (by omega), Int.ediv_le_self _ h1⟩
      have hd2 : 0 ≤ t / (n * n) ∧ t / (n * n) ≤ t / 16 := ⟨Int.ediv_nonneg h1 (by omega), by
        refine (Int.le_ediv_iff_mul_le (by decide)).2 ?_
        have a1 := Int.ediv_mul_le t (show n * n ≠ 0 by omega)
        have a2 := Int.mul_le_mul_of_nonneg_left hnn.1 (Int.ediv_nonneg h1 (show 0 ≤ n * n by omega))
        omega⟩
      have hp2 : (2 : Int) ^ (f + 1) = 2 * 2 ^ f := by rw [Int.pow_succ]; omega
      rw [hp2] at h2
      refine CallK.mk _ (I_ok k (by omega)) rfl ?_
      refine CallK.mk _ (Floor_ok t k ((zb_big (by omega)).mono (by decide)) (by first | exact (zb_64 (by omega)).mono (by decide) | exact ((zb_64 (by omega)).mul (zb_64 (by omega))).mono (by decide)) (by omega)) rfl ?_
      refine OptK.mk _ rfl ?_
      have wk : IntKind.i64.wrap (k + 2) = k + 2 := w64 (by omega)
      have wn : IntKind.i64.wrap (n * n) = n * n := w64 (by omega)
      have hm2 : ((151 - f : Nat) : Int) = m + 1 := by omega
      have tail : ∀ (s' : Int), s' = (if k % 4 = 1 then s + t / k else s - t / k) → 0 ≤ t / (n * n) ∧ t / (n * n) < 2 ^ f ∧ f ≤ 151 ∧ t / (n * n) ≤ q ∧ 1 ≤ k + 2 ∧ k + 2 = 1 + 2 * ((151 - f : Nat) : Int) ∧ -(1427247692705959881058285969449495136382746624 * ((151 - f : Nat) : Int)) ≤ s' ∧ s' ≤ 1427247692705959881058285969449495136382746624 * ((151 - f : Nat) : Int) ∧ atanL n f (k + 2) (t / (n * n)) s' = atanL n 151 1 q 0 := fun s' hs' => by
        rw [hm2]
        refine ⟨hd2.1, by omega, by omega, by omega, by omega, by omega, ?_, ?_, by rw [hs']; exact h9⟩ <;> rw [hs'] <;> split <;> omega
      refine DecK.beq (fun g => ?_) (fun g => ?_)
      · rw [tmod4 (by omega)] at g
        refine CallK.mk _ (.of (.cons zT (.cons (.refl _) .nil)) (Plus_ok s (t / k) ((zb_big (by omega)).mono (by decide)) ((zb_big (by omega)).mono (by decide)))) rfl ?_
        refine OptK.mk _ rfl ?_
        refine CallK.mk _ ((I_ok (n * n) (by omega)).args (by rw [wn])) rfl ?_
        refine CallK.mk _ (Floor_ok t (n * n) ((zb_big (by omega)).mono (by decide)) (by first | exact (zb_64 (by omega)).mono (by decide) | exact ((zb_64 (by omega)).mul (zb_64 (by omega))).mono (by decide)) (by omega)) rfl ?_
        refine OptK.mk _ rfl ?_
        refine loop_eq (by rw [wk] <;> rfl) (ih (t / (n * n)) (s + t / k) (k + 2) (f, false) ⟨by simp, tail _ (by rw [if_pos g])⟩ (by omega))
      · rw [tmod4 (by omega)] at g
        refine CallK.mk _ (.of (.cons zT (.cons (.refl _) .nil)) (Less_ok s (t / k) ((zb_big (by omega)).mono (by decide)) ((zb_big (by omega)).mono (by decide)))) rfl ?_
        refine OptK.mk _ rfl ?_
        refine CallK.mk _ ((I_ok (n * n) (by omega)).args (by rw [wn])) rfl ?_
        refine CallK.mk _ (Floor_ok t (n * n) ((zb_big (by omega)).mono (by decide)) (by first | exact (zb_64 (by omega)).mono (by decide) | exact ((zb_64 (by omega)).mul (zb_64 (by omega))).mono (by decide)) (by omega)) rfl ?_
        refine OptK.mk _ rfl ?_
        refine loop_eq (by rw [wk] <;> rfl) (ih (t / (n * n)) (s - t / k) (k + 2) (f, false) ⟨by simp, tail _ (by rw [if_neg g])⟩ (by omega))
  · refine DecK.no (decide_eq_false fun h => hp (sgn_pos.1 h)) ?_
    have e : atanL n f k t s = s := by
      cases f with
      | zero => rfl
      | succ f => rw [atanL, if_neg (by omega)]
    have hf : tt = false := by cases tt with
      | false => rfl
      | true => have := htt rfl; omega
    subst hf
    rw [← h9, e]
    refine OptK.mk _ rfl ?_
    ((repeat' first | refine DecK.tt ?_ | refine DecK.ff ?_ | refine DecK.beq (fun _ => ?_) (fun _ => ?_) | refine DecK.bne (fun _ => ?_) (fun _ => ?_) | refine DecK.dec (fun _ => ?_) (fun _ => ?_) | refine OptK.mk _ rfl ?_ | refine endV (by rfl) ?_) <;> (try with_reducible rfl))
    rfl
abbrev PI150 : Int := 4483830866258026290414848827874327273881010752
theorem pi_ok : Pure Try.prog 65 [] (zV 4483830866258026290414848827874327273881010752) := by
  refine pure_of_wp of65 (Nat.le_of_ble_eq_true rfl) ?_
  have a1 := atan_ok 5 (by decide)
  have a2 := atan_ok 239 (by decide)
  obtain ⟨x, hx⟩ : ∃ x, x = atanL 5 151 1 (1427247692705959881058285969449495136382746624 / 5) 0 := ⟨_, rfl⟩
  obtain ⟨y, hy⟩ : ∃ y, y = atanL 239 151 1 (1427247692705959881058285969449495136382746624 / 239) 0 := ⟨_, rfl⟩
  rw [← hx] at a1
  rw [← hy] at a2
  have ev : -1427247692705959881058285969449495136382746624 ≤ x ∧ x ≤ 1427247692705959881058285969449495136382746624 ∧ -1427247692705959881058285969449495136382746624 ≤ y ∧ y ≤ 1427247692705959881058285969449495136382746624 ∧ x * 16 - y * 4 = 4483830866258026290414848827874327273881010752 := by
    rw [hx, hy]
    decide +kernel
  refine CallK.mk _ a1 rfl ?_
  refine CallK.mk _ (I_ok 16 (by decide)) rfl ?_
  refine CallK.mk _ (Times_ok x 16 ((zb_big (by omega)).mono (by decide)) (by first | exact (zb_64 (by omega)).mono (by decide) | exact ((zb_64 (by omega)).mul (zb_64 (by omega))).mono (by decide))) rfl ?_
  refine CallK.mk _ a2 rfl ?_
  refine CallK.mk _ (I_ok 4 (by decide)) rfl ?_
  refine CallK.mk _ (Times_ok y 4 ((zb_big (by omega)).mono (by decide)) (by first | exact (zb_64 (by omega)).mono (by decide) | exact ((zb_64 (by omega)).mul (zb_64 (by omega))).mono (by decide))) rfl ?_
  refine CallK.mk _ (Less_ok (x * 16) (y * 4) ((zb_big (by omega)).mono (by decide)) ((zb_big (by omega)).mono (by decide))) rfl ?_
  refine OptK.mk _ rfl ?_
  ((repeat' first | refine DecK.tt ?_ | refine DecK.ff ?_ | refine DecK.beq (fun _ => ?_) (fun _ => ?_) | refine DecK.bne (fun _ => ?_) (fun _ => ?_) | refine DecK.dec (fun _ => ?_) (fun _ => ?_) | refine OptK.mk _ rfl ?_ | refine endV (by rfl) ?_) <;> (try with_reducible rfl))
  rw [ev.2.2.2.2]
  rfl
/-- The sine's series at the square u. -/
def serR (u : Int) : Nat → Int → Int → Int → Int
  | 0, _, _, s => s
  | f + 1, k, t, s => if t > 0 then serR u f (k + 2) (t * u / 1427247692705959881058285969449495136382746624 / ((k + 1) * (k + 2))) (if k % 4 = 1 then s + t else s - t) else s
def realX (t : Int) : Int := 4483830866258026290414848827874327273881010752 * t / 2147483648
def realU (t : Int) : Int := realX t * realX t / 1427247692705959881058285969449495136382746624
/-- The sine of t, from 0 to a quarter, times 2^150. -/
def realS (t : Int) : Int := serR (realU t) 152 1 (realX t) 0
theorem realX_in {t : Int} (h : 0 ≤ t ∧ t ≤ 1073741824) : 0 ≤ realX t ∧ realX t ≤ 2241915433129013145207424413937163636940505376 := by unfold realX; omega
theorem realU_in {t : Int} (h : 0 ≤ t ∧ t ≤ 1073741824) : 0 ≤ realU t ∧ realU t ≤ 3 * 1427247692705959881058285969449495136382746624 := by
  have hx := realX_in h
  unfold realU
  have h1 := Int.mul_nonneg hx.1 hx.1
  have h2 := Int.mul_le_mul hx.2 hx.2 hx.1 (by decide)
  omega
theorem ser_next {t u k : Int} (ht : 0 ≤ t) (hu : 0 ≤ u ∧ u ≤ 3 * 1427247692705959881058285969449495136382746624) (hk : 1 ≤ k) : 0 ≤ t * u / 1427247692705959881058285969449495136382746624 ∧ t * u / 1427247692705959881058285969449495136382746624 ≤ 3 * t ∧ 0 ≤ t * u / 1427247692705959881058285969449495136382746624 / ((k + 1) * (k + 2)) ∧ t * u / 1427247692705959881058285969449495136382746624 / ((k + 1) * (k + 2)) ≤ t / 2 := by
  have h1 := Int.mul_nonneg ht hu.1
  have h2 := Int.mul_le_mul_of_nonneg_left hu.2 ht
  have h3 : 0 ≤ t * u / 1427247692705959881058285969449495136382746624 ∧ t * u / 1427247692705959881058285969449495136382746624 ≤ 3 * t := by omega
  have h4 : 6 ≤ (k + 1) * (k + 2) := Int.mul_le_mul (show 2 ≤ k + 1 by omega) (show 3 ≤ k + 2 by omega) (by decide) (by omega)
  have h5 : 0 ≤ t * u / 1427247692705959881058285969449495136382746624 / ((k + 1) * (k + 2)) := Int.ediv_nonneg h3.1 (by omega)
  refine ⟨h3.1, h3.2, h5, ?_⟩
  have a1 := Int.ediv_mul_le (t * u / 1427247692705959881058285969449495136382746624) (show (k + 1) * (k + 2) ≠ 0 by omega)
  have a2 := Int.mul_le_mul_of_nonneg_left h4 h5
  omega
theorem serLoop {Q : Exit → St → Prop} (neg : Bool) (u x : Int) (hu : 0 ≤ u ∧ u ≤ 3 * 1427247692705959881058285969449495136382746624) (hx : 0 ≤ x ∧ x ≤ 2 * 1427247692705959881058285969449495136382746624) (b : Int)
    (hX : ∀ tt k c, tt = decide (x = 0) → Q (.exit 0) ⟨[(2, .ref 2 0), (7, .v (.b neg)), (9, .ref 9 0), (10, .ref 10 0), (11, .ref 11 0), (12, .v (.n .i64 k)), (48, .v (.b c))], [(11, zCt (serR u 152 1 x 0) tt), (10, zC 0), (9, zC u), (2, zCt 0 true)]⟩) :
    loopW Try.prog [2, 7, 9, 10, 11, 12] L19_0 Q ⟨[(2, .ref 2 0), (7, .v (.b neg)), (9, .ref 9 0), (10, .ref 10 0), (11, .ref 11 0), (12, .v (.n .i64 1))], [(11, zCt 0 true), (10, zC x), (9, zC u), (2, zCt 0 true)]⟩ := by
  refine loop_ind4 (fun (t s k : Int) (y : Nat × Bool) => ⟨[(2, .ref 2 0), (7, .v (.b neg)), (9, .ref 9 0), (10, .ref 10 0), (11, .ref 11 0), (12, .v (.n .i64 k))], [(11, zCt s y.2), (10, zC t), (9, zC u), (2, zCt 0 true)]⟩) (fun t s k y => t.toNat)
    (fun t s k y => (y.2 = true → t = x) ∧ (y.2 = false → 0 < x) ∧ 0 ≤ t ∧ t < 2 ^ y.1 ∧ y.1 ≤ 152 ∧ t ≤ x ∧ k = 1 + 2 * ((152 - y.1 : Nat) : Int) ∧ -(2 * 1427247692705959881058285969449495136382746624 * ((152 - y.1 : Nat) : Int)) ≤ s ∧ s ≤ 2 * 1427247692705959881058285969449495136382746624 * ((152 - y.1 : Nat) : Int) ∧ serR u y.1 k t s = serR u 152 1 x 0) x 0 1 (152, true) ⟨fun _ => rfl, by simp, hx.1, Int.lt_of_le_of_lt hx.2 (by decide), by decide, Int.le_refl _, by decide, by decide, by decide, rfl⟩ ?_
  intro t s k ⟨f, tt⟩ ⟨htt, hff, h1, h2, h3, h4, h6, h7, h8, h9⟩ ih
  simp only at htt hff h2 h3 h6 h7 h8 h9
  obtain ⟨m, hme⟩ : ∃ m : Int, m = ((152 - f : Nat) : Int) := ⟨_, rfl⟩
  rw [← hme] at h6 h7 h8
  have hm : 0 ≤ m ∧ m ≤ 152 := by omega
  have hs : -(2 * 1427247692705959881058285969449495136382746624 * 152) ≤ s ∧ s ≤ 2 * 1427247692705959881058285969449495136382746624 * 152 := by omega
  refine CallK.mk _ (Sign_ok t) rfl ?_
  by_cases hp : 0 < t
  · refine DecK.yes (decide_eq_true (sgn_pos.2 hp)) ?_
    cases f with
    | zero => simp at h2; omega
    | succ f =>
      have h9 : serR u f (k + 2) (t * u / 1427247692705959881058285969449495136382746624 / ((k + 1) * (k + 2))) (if k % 4 = 1 then s + t else s - t) = serR u 152 1 x 0 := by rw [← h9, serR, if_pos hp]
      obtain ⟨d1, d2, d3, d4⟩ := ser_next (t := t) (u := u) (k := k) h1 hu (by omega)
      have hp2 : (2 : Int) ^ (f + 1) = 2 * 2 ^ f := by rw [Int.pow_succ]; omega
      rw [hp2] at h2
      have hkk : 0 < (k + 1) * (k + 2) ∧ (k + 1) * (k + 2) ≤ 1000000 := ⟨Int.mul_pos (by omega) (by omega), Int.mul_le_mul (show k + 1 ≤ 1000 by omega) (show k + 2 ≤ 1000 by omega) (by omega) (by decide)⟩
      have wk : IntKind.i64.wrap (k + 2) = k + 2 := w64 (by omega)
      have wp : IntKind.i64.wrap (IntKind.i64.wrap (k + 1) * IntKind.i64.wrap (k + 2)) = (k + 1) * (k + 2) := by rw [wk, w64 (n := k + 1) (by omega), w64 (by omega)]
      have hm2 : ((152 - f : Nat) : Int) = m + 1 := by omega
      have tail : ∀ (s' : Int), s' = (if k % 4 = 1 then s + t else s - t) → 0 ≤ t * u / 1427247692705959881058285969449495136382746624 / ((k + 1) * (k + 2)) ∧ t * u / 1427247692705959881058285969449495136382746624 / ((k + 1) * (k + 2)) < 2 ^ f ∧ f ≤ 152 ∧ t * u / 1427247692705959881058285969449495136382746624 / ((k + 1) * (k + 2)) ≤ x ∧ k + 2 = 1 + 2 * ((152 - f : Nat) : Int) ∧ -(2 * 1427247692705959881058285969449495136382746624 * ((152 - f : Nat) : Int)) ≤ s' ∧ s' ≤ 2 * 1427247692705959881058285969449495136382746624 * ((152 - f : Nat) : Int) ∧ serR u f (k + 2) (t * u / 1427247692705959881058285969449495136382746624 / ((k + 1) * (k + 2))) s' = serR u 152 1 x 0 := fun s' hs' => by
        rw [hm2]
        refine ⟨d3, by omega, by omega, by omega, by omega, ?_, ?_, by rw [hs']; exact h9⟩ <;> rw [hs'] <;> split <;> omega
      have zt : zb 11 t := zb_big (by omega)
      have zu : zb 11 u := zb_big (by omega)
      refine DecK.beq (fun g => ?_) (fun g => ?_)
      · rw [tmod4 (by omega)] at g
        refine CallK.mk _ (.of (.cons zT (.cons (.refl _) .nil)) (Plus_ok s t ((zb_big (by omega)).mono (by decide)) (zt.mono (by decide)))) rfl ?_
        refine OptK.mk _ rfl ?_
        refine CallK.mk _ (Times_ok t u (zt.mono (by decide)) (zu.mono (by decide))) rfl ?_
        refine CallK.mk _ two150 rfl ?_
        refine CallK.mk _ (Floor_ok (t * u) 1427247692705959881058285969449495136382746624 ((zt.mul zu).mono (by decide)) ((zb_big (by decide)).mono (by decide)) (by decide)) rfl ?_
        refine CallK.mk _ ((I_ok ((k + 1) * (k + 2)) (by omega)).args (by rw [wp])) rfl ?_
        refine CallK.mk _ (Floor_ok (t * u / 1427247692705959881058285969449495136382746624) ((k + 1) * (k + 2)) ((zb_big (by omega)).mono (by decide)) (by first | exact (zb_64 (by omega)).mono (by decide) | exact ((zb_64 (by omega)).mul (zb_64 (by omega))).mono (by decide)) (by omega)) rfl ?_
        refine OptK.mk _ rfl ?_
        refine loop_eq (by rw [wk] <;> rfl) (ih _ (s + t) (k + 2) (f, false) ⟨by simp, fun _ => by omega, tail _ (by rw [if_pos g])⟩ (by omega))
      · rw [tmod4 (by omega)] at g
        refine CallK.mk _ (.of (.cons zT (.cons (.refl _) .nil)) (Less_ok s t ((zb_big (by omega)).mono (by decide)) (zt.mono (by decide)))) rfl ?_
        refine OptK.mk _ rfl ?_
        refine CallK.mk _ (Times_ok t u (zt.mono (by decide)) (zu.mono (by decide))) rfl ?_
        refine CallK.mk _ two150 rfl ?_
        refine CallK.mk _ (Floor_ok (t * u) 1427247692705959881058285969449495136382746624 ((zt.mul zu).mono (by decide)) ((zb_big (by decide)).mono (by decide)) (by decide)) rfl ?_
        refine CallK.mk _ ((I_ok ((k + 1) * (k + 2)) (by omega)).args (by rw [wp])) rfl ?_
        refine CallK.mk _ (Floor_ok (t * u / 1427247692705959881058285969449495136382746624) ((k + 1) * (k + 2)) ((zb_big (by omega)).mono (by decide)) (by first | exact (zb_64 (by omega)).mono (by decide) | exact ((zb_64 (by omega)).mul (zb_64 (by omega))).mono (by decide)) (by omega)) rfl ?_
        refine OptK.mk _ rfl ?_
        refine loop_eq (by rw [wk] <;> rfl) (ih _ (s - t) (k + 2) (f, false) ⟨by simp, fun _ => by omega, tail _ (by rw [if_neg g])⟩ (by omega))
  · refine DecK.no (decide_eq_false fun h => hp (sgn_pos.1 h)) ?_
    obtain rfl : t = 0 := by omega
    have e : serR u f k 0 s = s := by
      cases f with
      | zero => rfl
      | succ f => rw [serR, if_neg (by omega)]
    have := hX tt k false (by cases tt with
      | true => exact (decide_eq_true (htt rfl).symm).symm
      | false => exact (decide_eq_false (by have := hff rfl; omega)).symm)
    rw [← h9, e] at this
    exact this
theorem ser_in {u x : Int} (hu : 0 ≤ u ∧ u ≤ 3 * 1427247692705959881058285969449495136382746624) : ∀ (f : Nat) (k t s : Int), 1 ≤ k → 0 ≤ t → t ≤ 2 * 1427247692705959881058285969449495136382746624 → s - 2 * 1427247692705959881058285969449495136382746624 * f ≤ serR u f k t s ∧ serR u f k t s ≤ s + 2 * 1427247692705959881058285969449495136382746624 * f
  | 0, k, t, s, _, _, _ => by simp [serR]
  | f + 1, k, t, s, hk, h0, h1 => by
    unfold serR
    split
    · obtain ⟨d1, d2, d3, d4⟩ := ser_next (t := t) (u := u) (k := k) h0 hu hk
      have := ser_in (u := u) (x := x) hu f (k + 2) (t * u / 1427247692705959881058285969449495136382746624 / ((k + 1) * (k + 2))) (if k % 4 = 1 then s + t else s - t) (by omega) d3 (by omega)
      by_cases hk4 : k % 4 = 1
      · rw [if_pos hk4] at this ⊢; omega
      · rw [if_neg hk4] at this ⊢; omega
    · omega
theorem realS_in {t : Int} (h : 0 ≤ t ∧ t ≤ 1073741824) : -(400 * 1427247692705959881058285969449495136382746624) ≤ realS t ∧ realS t ≤ 400 * 1427247692705959881058285969449495136382746624 := by
  have := ser_in (x := 0) (realU_in h) 152 1 (realX t) 0 (by decide) (realX_in h).1 (by have := realX_in h; omega)
  unfold realS
  omega
def foldR (r : Int) : Int := if r > 1073741824 then 2147483648 - r else r
def realF (b : Int) : Int := if b % 4294967296 > 2147483648 then -realS (foldR (b % 4294967296 - 2147483648)) else realS (foldR (b % 4294967296))
set_option maxHeartbeats 1000000 in
theorem realSine_ok (b : Int) (hb : fits b) : Pure Try.prog 19 [.n .i64 b] (zV (realF b)) := by
  have hr0 : 0 ≤ b % 4294967296 ∧ b % 4294967296 < 4294967296 := by omega
  -- what is returned, its row tight or not
  have main : ∃ tt : Bool, (tt = true → realF b = 0) ∧ Pure Try.prog 19 [.n .i64 b] (.agg (zCt (realF b) tt)) := by
    obtain ⟨neg, t, ht, hF, hneg, hfold⟩ : ∃ (neg : Bool) (t : Int), (0 ≤ t ∧ t ≤ 1073741824) ∧ realF b = (if neg then -realS t else realS t) ∧ neg = decide (b % 4294967296 > 2147483648) ∧ t = foldR (if neg then b % 4294967296 - 2147483648 else b % 4294967296) := by
      by_cases h : b % 4294967296 > 2147483648
      · exact ⟨true, foldR (b % 4294967296 - 2147483648), by unfold foldR; split <;> omega, by rw [realF, if_pos h]; rfl, (decide_eq_true h).symm, rfl⟩
      · exact ⟨false, foldR (b % 4294967296), by unfold foldR; split <;> omega, by rw [realF, if_neg h]; rfl, (decide_eq_false h).symm, rfl⟩
    have hx := realX_in ht
    have hu := realU_in ht
    have hS := realS_in ht
    refine ⟨!neg && decide (realX t = 0), fun h => ?_, ?_⟩
    · simp only [Bool.and_eq_true, Bool.not_eq_true', decide_eq_true_eq] at h
      rw [hF, h.1]
      have : realS t = 0 := by unfold realS; rw [h.2]; rfl
      simpa using this
    · refine pure_of_wp of19 (Nat.le_of_ble_eq_true rfl) ?_
      have tS := Small_ok (b % 4294967296) (by first | exact (zb_64 (by omega)).mono (by decide) | exact ((zb_64 (by omega)).mul (zb_64 (by omega))).mono (by decide))
      rw [small, if_pos (by unfold fits; omega)] at tS
      have wt : IntKind.i64.wrap (b % 4294967296 - 2147483648) = b % 4294967296 - 2147483648 := w64 (by omega)
      refine CallK.mk _ (I_ok b hb) rfl ?_
      refine CallK.mk _ two32 rfl ?_
      refine CallK.mk _ (Split_ok b 4294967296 (hb.zb.mono (by decide)) (by first | exact (zb_64 (by omega)).mono (by decide) | exact ((zb_64 (by omega)).mul (zb_64 (by omega))).mono (by decide)) (by decide)) rfl ?_
      refine OptK.mk _ rfl ?_
      refine OptK.mk _ rfl ?_
      refine CallK.mk _ tS rfl ?_
      obtain ⟨r, hr⟩ : ∃ r, r = b % 4294967296 := ⟨_, rfl⟩
      rw [← hr] at hr0 hneg hfold wt ⊢
      refine DecK.dec (fun g => ?a) (fun g => ?b)
      case' a =>
        obtain rfl : neg = true := by rw [hneg]; exact decide_eq_true g
        simp only [if_true] at hfold
        refine DecK.dec (fun g2 => ?c) (fun g2 => ?d)
        case' c =>
          rw [wt] at g2
          have hT : IntKind.i64.wrap (2147483648 - IntKind.i64.wrap (r - 2147483648)) = t := by rw [wt, w64 (by omega), hfold, foldR, if_pos g2]
        case' d =>
          rw [wt] at g2
          have hT : IntKind.i64.wrap (r - 2147483648) = t := by rw [wt, hfold, foldR, if_neg g2]
      case' b =>
        obtain rfl : neg = false := by rw [hneg]; exact decide_eq_false g
        simp only [Bool.false_eq_true, if_false] at hfold
        refine DecK.dec (fun g2 => ?e) (fun g2 => ?f)
        case' e => have hT : IntKind.i64.wrap (2147483648 - r) = t := by rw [w64 (by omega), hfold, foldR, if_pos g2]
        case' f => have hT : r = t := by rw [hfold, foldR, if_neg g2]
      all_goals
        refine CallK.mk _ pi_ok rfl ?_
        refine CallK.mk _ ((I_ok t (by omega)).args (by rw [hT])) rfl ?_
        refine CallK.mk _ (Times_ok 4483830866258026290414848827874327273881010752 t ((zb_big (by decide)).mono (by decide)) (by first | exact (zb_64 (by omega)).mono (by decide) | exact ((zb_64 (by omega)).mul (zb_64 (by omega))).mono (by decide))) rfl ?_
        refine CallK.mk _ two31 rfl ?_
        refine CallK.mk _ (Floor_ok (4483830866258026290414848827874327273881010752 * t) 2147483648 ((zb_big (by omega)).mono (by decide)) (by first | exact (zb_64 (by omega)).mono (by decide) | exact ((zb_64 (by omega)).mul (zb_64 (by omega))).mono (by decide)) (by decide)) rfl ?_
        refine OptK.mk _ rfl ?_
        rw [show 4483830866258026290414848827874327273881010752 * t / 2147483648 = realX t from rfl]
        have zx : zb 11 (realX t) := zb_big (by omega)
        refine CallK.mk _ (Times_ok (realX t) (realX t) (zx.mono (by decide)) (zx.mono (by decide))) rfl ?_
        refine CallK.mk _ two150 rfl ?_
        refine CallK.mk _ (Floor_ok (realX t * realX t) 1427247692705959881058285969449495136382746624 ((zx.mul zx).mono (by decide)) ((zb_big (by decide)).mono (by decide)) (by decide)) rfl ?_
        rw [show realX t * realX t / 1427247692705959881058285969449495136382746624 = realU t from rfl]
        refine OptK.mk _ rfl ?_
        refine OptK.mk _ rfl ?_
      case' c | d =>
        refine loop_eq (st' := ⟨[(2, .ref 2 0), (7, .v (.b true)), (9, .ref 9 0), (10, .ref 10 0), (11, .ref 11 0), (12, .v (.n .i64 1))], [(11, zCt 0 true), (10, zC (realX t)), (9, zC (realU t)), (2, zCt 0 true)]⟩) (by rw [zCt_zero, ← decide_eq_true g]; rfl) ?_
        refine serLoop true (realU t) (realX t) hu (by omega) 0 (fun tt k c htt => ?_)
        refine inBlk ?_
        refine DecK.tt ?_
        refine CallK.mk _ (.of (.cons zT .nil) (Minus_ok (realS t) ((zb_big (by omega)).mono (by decide)))) rfl ?_
        refine OptK.mk _ rfl ?_
        ((repeat' first | refine DecK.tt ?_ | refine DecK.ff ?_ | refine DecK.beq (fun _ => ?_) (fun _ => ?_) | refine DecK.bne (fun _ => ?_) (fun _ => ?_) | refine DecK.dec (fun _ => ?_) (fun _ => ?_) | refine OptK.mk _ rfl ?_ | refine endV (by rfl) ?_) <;> (try with_reducible rfl))
        rw [hF]
        rfl
      case' e | f =>
        refine loop_eq (st' := ⟨[(2, .ref 2 0), (7, .v (.b false)), (9, .ref 9 0), (10, .ref 10 0), (11, .ref 11 0), (12, .v (.n .i64 1))], [(11, zCt 0 true), (10, zC (realX t)), (9, zC (realU t)), (2, zCt 0 true)]⟩) (by rw [zCt_zero, ← decide_eq_false g]; rfl) ?_
        refine serLoop false (realU t) (realX t) hu (by omega) 0 (fun tt k c htt => ?_)
        refine inBlk ?_
        refine DecK.ff ?_
        refine OptK.mk _ rfl ?_
        ((repeat' first | refine DecK.tt ?_ | refine DecK.ff ?_ | refine DecK.beq (fun _ => ?_) (fun _ => ?_) | refine DecK.bne (fun _ => ?_) (fun _ => ?_) | refine DecK.dec (fun _ => ?_) (fun _ => ?_) | refine OptK.mk _ rfl ?_ | refine endV (by rfl) ?_) <;> (try with_reducible rfl))
        rw [hF, htt]
        rfl
  obtain ⟨tt, h1, h2⟩ := main
  exact h2.le zT
end Go.Proofs.Ytdceakejbnolpaa.Sv
