/- Fractions: differences, products, quotients. No condition. -/
import Derived.Test.YtpggblmopgfloaaFh
namespace Go.Proofs.Ytpggblmopgfloaa.Sv
open Go Go.RowKit
set_option linter.unusedVariables false
set_option linter.unusedSimpArgs false
set_option maxRecDepth 100000
/-- spyglass/frac.Sub -/
def F60 : Fn1 := ⟨24, .seq (.reg [⟨some 2, none, .box, [.tm 0]⟩, ⟨some 3, none, .box, [.tm 1]⟩, ⟨some 4, none, .alloc [.n .i64 0, .n .i64 0], []⟩, ⟨some 5, none, .mv, [.cn (.n .i64 0)]⟩] [2, 3, 4]) (.seq (.seq (.reg [⟨some 7, none, .ld true 2 false, [.tm 2]⟩, ⟨some 8, none, .ld true 2 false, [.tm 3]⟩, ⟨some 9, none, .call 97, [.tm 7, .tm 8]⟩, ⟨some 6, none, .mv, [.tm 9]⟩] [2, 3, 4, 6]) (.seq (.reg [⟨some 10, none, .mv, [.tm 6]⟩, ⟨some 11, none, .po (.bin .neq), [.tm 10, .cn (.n .i64 0)]⟩] [2, 3, 4, 6, 11]) (.cond (.tm 11) (.seq (.reg [⟨some 12, none, .po (.build [.n .i64 0, .n .i64 0] []), []⟩, ⟨some 13, none, .mv, [.tm 6]⟩, ⟨none, none, .st 2, [.tm 4, .tm 12]⟩, ⟨some 5, none, .mv, [.tm 13]⟩] [4, 5]) .ret) .skip))) (.seq (.reg [⟨some 14, none, .ld true 2 false, [.tm 2]⟩, ⟨some 15, none, .fa 0, [.tm 3]⟩, ⟨some 16, none, .ld false 1 false, [.tm 15]⟩, ⟨some 17, none, .po (.un .neg), [.tm 16]⟩, ⟨some 18, none, .fa 1, [.tm 3]⟩, ⟨some 19, none, .ld false 1 false, [.tm 18]⟩, ⟨some 20, none, .po (.build [.n .i64 0, .n .i64 0] [(0, 1), (1, 1)]), [.tm 17, .tm 19]⟩, ⟨some 21, none, .call 59, [.tm 14, .tm 20]⟩, ⟨some 22, none, .po (.ext 0), [.tm 21]⟩, ⟨some 23, none, .po (.ext 1), [.tm 21]⟩, ⟨none, none, .st 2, [.tm 4, .tm 22]⟩, ⟨some 5, none, .mv, [.tm 23]⟩] [4, 5]) .ret)), [.cell 4 true 2, .tm 5]⟩
theorem of60 : Fn1.of Try.prog 60 ⟨false, [], false⟩ [[2, 3, 4], [2, 3, 4, 6], [2, 3, 4, 6, 11], [4, 5], [4, 5]] = some F60 := by kernel_rfl
/-- spyglass/frac.Mul -/
def F61 : Fn1 := ⟨62, .seq (.reg [⟨some 2, none, .box, [.tm 0]⟩, ⟨some 3, none, .box, [.tm 1]⟩, ⟨some 4, none, .alloc [.n .i64 0, .n .i64 0], []⟩, ⟨some 5, none, .mv, [.cn (.n .i64 0)]⟩] [2, 3, 4]) (.seq (.seq (.reg [⟨some 13, none, .ld true 2 false, [.tm 2]⟩, ⟨some 14, none, .ld true 2 false, [.tm 3]⟩, ⟨some 15, none, .call 97, [.tm 13, .tm 14]⟩, ⟨some 6, none, .mv, [.tm 15]⟩] [2, 3, 4, 6]) (.seq (.reg [⟨some 16, none, .mv, [.tm 6]⟩, ⟨some 17, none, .po (.bin .neq), [.tm 16, .cn (.n .i64 0)]⟩] [2, 3, 4, 6, 17]) (.cond (.tm 17) (.seq (.reg [⟨some 18, none, .po (.build [.n .i64 0, .n .i64 0] []), []⟩, ⟨some 19, none, .mv, [.tm 6]⟩, ⟨none, none, .st 2, [.tm 4, .tm 18]⟩, ⟨some 5, none, .mv, [.tm 19]⟩] [4, 5]) .ret) .skip))) (.seq (.dreg [⟨some 20, none, .fa 0, [.tm 2]⟩, ⟨some 21, none, .ld false 1 false, [.tm 20]⟩, ⟨some 22, none, .fa 1, [.tm 3]⟩, ⟨some 23, none, .ld false 1 false, [.tm 22]⟩, ⟨some 24, none, .call 105, [.tm 21, .tm 23]⟩, ⟨some 25, none, .fa 0, [.tm 3]⟩, ⟨some 26, none, .ld false 1 false, [.tm 25]⟩, ⟨some 27, none, .fa 1, [.tm 2]⟩, ⟨some 28, none, .ld false 1 false, [.tm 27]⟩, ⟨some 29, none, .call 105, [.tm 26, .tm 28]⟩, ⟨some 7, none, .mv, [.tm 24]⟩, ⟨some 8, none, .mv, [.tm 29]⟩] [] [2, 3, 4, 7, 8]) (.seq (.dreg [⟨some 31, none, .fa 0, [.tm 2]⟩, ⟨some 32, none, .ld false 1 false, [.tm 31]⟩, ⟨some 33, none, .mv, [.tm 7]⟩, ⟨some 34, none, .po (.bin .quo), [.tm 32, .tm 33]⟩, ⟨some 35, none, .fa 0, [.tm 3]⟩, ⟨some 36, none, .ld false 1 false, [.tm 35]⟩, ⟨some 37, none, .mv, [.tm 8]⟩, ⟨some 38, none, .po (.bin .quo), [.tm 36, .tm 37]⟩, ⟨some 39, none, .call 109, [.tm 34, .tm 38]⟩, ⟨some 30, none, .mv, [.tm 39]⟩, ⟨some 40, none, .po (.ext 0), [.tm 30]⟩, ⟨some 41, none, .po (.ext 1), [.tm 30]⟩, ⟨some 9, none, .mv, [.tm 40]⟩, ⟨some 10, none, .mv, [.tm 41]⟩] [] [2, 3, 4, 7, 8, 9, 10]) (.seq (.dreg [⟨some 43, none, .fa 1, [.tm 2]⟩, ⟨some 44, none, .ld false 1 false, [.tm 43]⟩, ⟨some 45, none, .mv, [.tm 8]⟩, ⟨some 46, none, .po (.bin .quo), [.tm 44, .tm 45]⟩, ⟨some 47, none, .fa 1, [.tm 3]⟩, ⟨some 48, none, .ld false 1 false, [.tm 47]⟩, ⟨some 49, none, .mv, [.tm 7]⟩, ⟨some 50, none, .po (.bin .quo), [.tm 48, .tm 49]⟩, ⟨some 51, none, .call 109, [.tm 46, .tm 50]⟩, ⟨some 42, none, .mv, [.tm 51]⟩, ⟨some 52, none, .po (.ext 0), [.tm 42]⟩, ⟨some 53, none, .po (.ext 1), [.tm 42]⟩, ⟨some 11, none, .mv, [.tm 52]⟩, ⟨some 12, none, .mv, [.tm 53]⟩] [] [4, 9, 10, 11, 12]) (.seq (.reg [⟨some 54, none, .mv, [.tm 9]⟩, ⟨some 55, none, .mv, [.tm 11]⟩, ⟨some 56, none, .mv, [.tm 10]⟩, ⟨some 57, none, .mv, [.tm 12]⟩, ⟨some 58, none, .po (.bsl 2 [.b false] [(0, 1), (1, 1)]), [.tm 56, .tm 57]⟩, ⟨some 59, none, .call 110, [.tm 54, .tm 55, .tm 58]⟩, ⟨some 60, none, .po (.ext 0), [.tm 59]⟩, ⟨some 61, none, .po (.ext 1), [.tm 59]⟩, ⟨none, none, .st 2, [.tm 4, .tm 60]⟩, ⟨some 5, none, .mv, [.tm 61]⟩] [4, 5]) .ret))))), [.cell 4 true 2, .tm 5]⟩
theorem of61 : Fn1.of Try.prog 61 ⟨false, [], false⟩ [[2, 3, 4], [2, 3, 4, 6], [2, 3, 4, 6, 17], [4, 5], [2, 3, 4, 7, 8], [2, 3, 4, 7, 8, 9, 10], [4, 9, 10, 11, 12], [4, 5]] = some F61 := by kernel_rfl
/-- spyglass/frac.Div -/
def F62 : Fn1 := ⟨43, .seq (.reg [⟨some 2, none, .box, [.tm 0]⟩, ⟨some 3, none, .box, [.tm 1]⟩, ⟨some 4, none, .alloc [.n .i64 0, .n .i64 0], []⟩, ⟨some 5, none, .mv, [.cn (.n .i64 0)]⟩] [2, 3, 4]) (.seq (.seq (.reg [⟨some 7, none, .ld true 2 false, [.tm 2]⟩, ⟨some 8, none, .ld true 2 false, [.tm 3]⟩, ⟨some 9, none, .call 97, [.tm 7, .tm 8]⟩, ⟨some 6, none, .mv, [.tm 9]⟩] [2, 3, 4, 6]) (.seq (.reg [⟨some 10, none, .mv, [.tm 6]⟩, ⟨some 11, none, .po (.bin .neq), [.tm 10, .cn (.n .i64 0)]⟩] [2, 3, 4, 6, 11]) (.cond (.tm 11) (.seq (.reg [⟨some 12, none, .po (.build [.n .i64 0, .n .i64 0] []), []⟩, ⟨some 13, none, .mv, [.tm 6]⟩, ⟨none, none, .st 2, [.tm 4, .tm 12]⟩, ⟨some 5, none, .mv, [.tm 13]⟩] [4, 5]) .ret) .skip))) (.seq (.block 0 (.seq (.reg [⟨some 15, none, .fa 0, [.tm 3]⟩, ⟨some 16, none, .ld false 1 false, [.tm 15]⟩, ⟨some 17, none, .po (.bin .eql), [.tm 16, .cn (.n .i64 0)]⟩, ⟨some 14, none, .mv, [.tm 17]⟩] [2, 3, 4, 14]) (.cond (.tm 14) (.seq (.reg [⟨some 18, none, .po (.build [.n .i64 0, .n .i64 0] []), []⟩, ⟨none, none, .st 2, [.tm 4, .tm 18]⟩, ⟨some 5, none, .mv, [.cn (.n .i64 1)]⟩] [4, 5]) .ret) (.seq (.reg [⟨some 20, none, .fa 0, [.tm 3]⟩, ⟨some 21, none, .ld false 1 false, [.tm 20]⟩, ⟨some 22, none, .po (.bin .lss), [.tm 21, .cn (.n .i64 0)]⟩, ⟨some 19, none, .mv, [.tm 22]⟩] [2, 3, 4, 19]) (.cond (.tm 19) (.seq (.reg [⟨some 23, none, .ld true 2 false, [.tm 2]⟩, ⟨some 24, none, .fa 1, [.tm 3]⟩, ⟨some 25, none, .ld false 1 false, [.tm 24]⟩, ⟨some 26, none, .po (.un .neg), [.tm 25]⟩, ⟨some 27, none, .fa 0, [.tm 3]⟩, ⟨some 28, none, .ld false 1 false, [.tm 27]⟩, ⟨some 29, none, .po (.un .neg), [.tm 28]⟩, ⟨some 30, none, .po (.build [.n .i64 0, .n .i64 0] [(0, 1), (1, 1)]), [.tm 26, .tm 29]⟩, ⟨some 31, none, .call 61, [.tm 23, .tm 30]⟩, ⟨some 32, none, .po (.ext 0), [.tm 31]⟩, ⟨some 33, none, .po (.ext 1), [.tm 31]⟩, ⟨none, none, .st 2, [.tm 4, .tm 32]⟩, ⟨some 5, none, .mv, [.tm 33]⟩] [4, 5]) .ret) .skip))))) (.seq (.reg [⟨some 34, none, .ld true 2 false, [.tm 2]⟩, ⟨some 35, none, .fa 1, [.tm 3]⟩, ⟨some 36, none, .ld false 1 false, [.tm 35]⟩, ⟨some 37, none, .fa 0, [.tm 3]⟩, ⟨some 38, none, .ld false 1 false, [.tm 37]⟩, ⟨some 39, none, .po (.build [.n .i64 0, .n .i64 0] [(0, 1), (1, 1)]), [.tm 36, .tm 38]⟩, ⟨some 40, none, .call 61, [.tm 34, .tm 39]⟩, ⟨some 41, none, .po (.ext 0), [.tm 40]⟩, ⟨some 42, none, .po (.ext 1), [.tm 40]⟩, ⟨none, none, .st 2, [.tm 4, .tm 41]⟩, ⟨some 5, none, .mv, [.tm 42]⟩] [4, 5]) .ret))), [.cell 4 true 2, .tm 5]⟩
theorem of62 : Fn1.of Try.prog 62 ⟨false, [], false⟩ [[2, 3, 4], [2, 3, 4, 6], [2, 3, 4, 6, 11], [4, 5], [2, 3, 4, 14], [4, 5], [2, 3, 4, 19], [4, 5], [4, 5]] = some F62 := by kernel_rfl
theorem frErr_mk {n d : Int} (hn : -1152921504606846976 ≤ n ∧ n ≤ 1152921504606846976) (hd : 1 ≤ d ∧ d ≤ 1152921504606846976) (hg : Int.gcd n d = 1) : frErr n d = 0 := by
  rw [frErr, if_neg (by unfold frOut; omega), if_neg (by omega)]
theorem bothErr (p q r s : Int) (h1 : fits p) (h2 : fits q) (h3 : fits r) (h4 : fits s) (h : frErr p q ≠ 0 ∨ frErr r s ≠ 0) : ∃ e, e ≠ 0 ∧ e = (if frErr p q ≠ 0 then frErr p q else frErr r s) ∧ Pure Try.prog 97 [fracV p q, fracV r s] (.n .i64 e) :=
  ⟨_, by split <;> omega, rfl, both_ok p q r s h1 h2 h3 h4⟩
theorem bothOk (p q r s : Int) (h1 : frErr p q = 0) (h2 : frErr r s = 0) : Pure Try.prog 97 [fracV p q, fracV r s] (.n .i64 0) := by
  obtain ⟨bp, bq, gp⟩ := frErr_0 h1
  obtain ⟨br, bs, gr⟩ := frErr_0 h2
  have k0 := both_ok p q r s (by unfold fits; omega) (by unfold fits; omega) (by unfold fits; omega) (by unfold fits; omega)
  rw [h1, h2, if_neg (by decide)] at k0
  exact k0
theorem lowT_tup (n q : Int) : ∃ x y e, lowT n q = .tup [fracV x y, .n .i64 e] := by
  unfold lowT
  split
  · exact ⟨_, _, _, rfl⟩
  · exact ⟨_, _, _, rfl⟩
theorem sub_err (p q r s : Int) (h1 : fits p) (h2 : fits q) (h3 : fits r) (h4 : fits s) (h : frErr p q ≠ 0 ∨ frErr r s ≠ 0) : Pure Try.prog 60 [fracV p q, fracV r s] (.tup [fracV 0 0, .n .i64 (if frErr p q ≠ 0 then frErr p q else frErr r s)]) := by
  obtain ⟨e, he, h', k⟩ := bothErr p q r s h1 h2 h3 h4 h
  rw [← h']
  refine pure_of_wp of60 (Nat.le_of_ble_eq_true rfl) ?_
  refine CallK.mk _ k rfl ?_
  refine DecK.yes (bne_iff_ne.2 he) ?_
  refine OptK.mk _ rfl ?_
  ((repeat' first | refine DecK.tt ?_ | refine DecK.ff ?_ | refine DecK.beq (fun _ => ?_) (fun _ => ?_) | refine DecK.bne (fun _ => ?_) (fun _ => ?_) | refine DecK.dec (fun _ => ?_) (fun _ => ?_) | refine OptK.mk _ rfl ?_ | refine endV (by rfl) ?_) <;> (try with_reducible rfl))
  rfl
theorem sub_ok (p q r s : Int) (h1 : frErr p q = 0) (h2 : frErr r s = 0) : Pure Try.prog 60 [fracV p q, fracV r s] (lowT (p * s - r * q) (q * s)) := by
  obtain ⟨br, bs, gr⟩ := frErr_0 h2
  have t := add_ok p q (-r) s h1 (frErr_mk (by omega) bs (by rw [Int.neg_gcd]; exact gr))
  rw [Int.neg_mul, show p * s + -(r * q) = p * s - r * q by omega] at t
  obtain ⟨x, y, e, hx⟩ := lowT_tup (p * s - r * q) (q * s)
  rw [hx] at t ⊢
  have w : IntKind.i64.wrap (0 - r) = -r := by rw [w64 (by omega)]; omega
  refine pure_of_wp of60 (Nat.le_of_ble_eq_true rfl) ?_
  refine CallK.mk _ (bothOk p q r s h1 h2) rfl ?_
  refine DecK.no rfl ?_
  refine CallK.mk _ (t.args (by rw [← w] <;> rfl)) rfl ?_
  refine OptK.mk _ rfl ?_
  ((repeat' first | refine DecK.tt ?_ | refine DecK.ff ?_ | refine DecK.beq (fun _ => ?_) (fun _ => ?_) | refine DecK.bne (fun _ => ?_) (fun _ => ?_) | refine DecK.dec (fun _ => ?_) (fun _ => ?_) | refine OptK.mk _ rfl ?_ | refine endV (by rfl) ?_) <;> (try with_reducible rfl))
  rfl
theorem mul_err (p q r s : Int) (h1 : fits p) (h2 : fits q) (h3 : fits r) (h4 : fits s) (h : frErr p q ≠ 0 ∨ frErr r s ≠ 0) : Pure Try.prog 61 [fracV p q, fracV r s] (.tup [fracV 0 0, .n .i64 (if frErr p q ≠ 0 then frErr p q else frErr r s)]) := by
  obtain ⟨e, he, h', k⟩ := bothErr p q r s h1 h2 h3 h4 h
  rw [← h']
  refine pure_of_wp of61 (Nat.le_of_ble_eq_true rfl) ?_
  refine CallK.mk _ k rfl ?_
  refine DecK.yes (bne_iff_ne.2 he) ?_
  refine OptK.mk _ rfl ?_
  ((repeat' first | refine DecK.tt ?_ | refine DecK.ff ?_ | refine DecK.beq (fun _ => ?_) (fun _ => ?_) | refine DecK.bne (fun _ => ?_) (fun _ => ?_) | refine DecK.dec (fun _ => ?_) (fun _ => ?_) | refine OptK.mk _ rfl ?_ | refine endV (by rfl) ?_) <;> (try with_reducible rfl))
  rfl
theorem tdiv_exact {a b : Int} (h : b ∣ a) : a.tdiv b = a / b := Int.tdiv_eq_ediv_of_dvd h
theorem ediv_le {a g : Int} (M : Int) (hM : 0 ≤ M) (ha : -M ≤ a ∧ a ≤ M) (hg : 0 < g) : -M ≤ a / g ∧ a / g ≤ M := by
  constructor
  · refine Int.le_ediv_of_mul_le hg ?_
    have := Int.mul_le_mul_of_nonneg_left (show 1 ≤ g by omega) hM
    rw [Int.neg_mul]; omega
  · by_cases h : 0 ≤ a
    · have := Int.ediv_le_self g h; omega
    · have := Int.ediv_neg_of_neg_of_pos (show a < 0 by omega) hg; omega
set_option maxHeartbeats 1000000 in
theorem mul_ok (p q r s : Int) (h1 : frErr p q = 0) (h2 : frErr r s = 0) : Pure Try.prog 61 [fracV p q, fracV r s] (lowT (p * r) (q * s)) := by
  obtain ⟨bp, bq, gp⟩ := frErr_0 h1
  obtain ⟨br, bs, gr⟩ := frErr_0 h2
  obtain ⟨g, eg⟩ : ∃ g : Int, g = (Int.gcd p s : Int) := ⟨_, rfl⟩
  obtain ⟨h, eh⟩ : ∃ h : Int, h = (Int.gcd r q : Int) := ⟨_, rfl⟩
  obtain ⟨g0, h0, l1, l2⟩ := mul_low eg eh gp gr (by omega) (by omega)
  have gP : g ∣ p := by rw [eg]; exact Int.gcd_dvd_left ..
  have gs : g ∣ s := by rw [eg]; exact Int.gcd_dvd_right ..
  have hr : h ∣ r := by rw [eh]; exact Int.gcd_dvd_left ..
  have hq : h ∣ q := by rw [eh]; exact Int.gcd_dvd_right ..
  have gle : g ≤ s := Int.le_of_dvd (by omega) gs
  have hle : h ≤ q := Int.le_of_dvd (by omega) hq
  have k1 := numGcd_ok p s (by unfold fits; omega) (by unfold fits; omega)
  have k2 := numGcd_ok r q (by unfold fits; omega) (by unfold fits; omega)
  rw [← eg, small_id (by unfold fits; omega)] at k1
  rw [← eh, small_id (by unfold fits; omega)] at k2
  have b1 := ediv_le 1152921504606846976 (by decide) (a := p) bp g0
  have b2 := ediv_le 1152921504606846976 (by decide) (a := r) br h0
  have b3 := ediv_le 1152921504606846976 (by decide) (a := q) (by omega) h0
  have b4 := ediv_le 1152921504606846976 (by decide) (a := s) (by omega) g0
  have n3 : 0 ≤ q / h := Int.ediv_nonneg (by omega) (by omega)
  have n4 : 0 ≤ s / g := Int.ediv_nonneg (by omega) (by omega)
  have v1 : IntKind.i64.wrap (p.tdiv g) = p / g := by rw [tdiv_exact gP, w64 (by omega)]
  have v2 : IntKind.i64.wrap (r.tdiv h) = r / h := by rw [tdiv_exact hr, w64 (by omega)]
  have v3 : IntKind.i64.wrap (q.tdiv h) = q / h := by rw [tdiv_exact hq, w64 (by omega)]
  have v4 : IntKind.i64.wrap (s.tdiv g) = s / g := by rw [tdiv_exact gs, w64 (by omega)]
  have k3 := numMul_ok (p / g) (r / h) (by unfold fits; omega) (by unfold fits; omega)
  have k4 := numMul_ok (q / h) (s / g) (by unfold fits; omega) (by unfold fits; omega)
  have dn := Int.mul_nonneg n3 n4
  rw [lowT_made l1 l2]
  generalize p / g = p' at *
  generalize r / h = r' at *
  generalize q / h = q' at *
  generalize s / g = s' at *
  generalize p' * r' = n at *
  generalize q' * s' = d at *
  obtain ⟨x, y, e, hx⟩ := madeT_ex n d true
  rw [hx]
  have k9 : Pure Try.prog 110 [.n .i64 (small n), .n .i64 (small d), .sl 2 [.b (decide (fits n)), .b (decide (fits d))] true] (.tup [fracV x y, .n .i64 e]) := by
    have k := made_ok (small n) (small d) (decide (fits n)) (decide (fits d))
    by_cases fn : fits n
    · by_cases fd : fits d
      · rw [small_id fn, small_id fd, decide_eq_true fn, decide_eq_true fd, show (true && true) = true from rfl, hx] at k
        rw [small_id fn, small_id fd, decide_eq_true fn, decide_eq_true fd]
        exact k
      · rw [decide_eq_false fd, Bool.and_false, madeT_not (n := n) (d := d) (by unfold fits at fd; omega), hx] at k
        rw [decide_eq_false fd]
        exact k
    · rw [decide_eq_false fn, Bool.false_and, madeT_not (n := n) (d := d) (by unfold fits at fn; omega), hx] at k
      rw [decide_eq_false fn]
      exact k
  refine pure_of_wp of61 (Nat.le_of_ble_eq_true rfl) ?_
  refine CallK.mk _ (bothOk p q r s h1 h2) rfl ?_
  refine DecK.no rfl ?_
  refine CallK.mk _ k1 rfl ?_
  refine CallK.mk _ k2 rfl ?_
  refine OptK.mk _ (op_quo (y := g) (by omega)) ?_
  refine OptK.mk _ (op_quo (y := h) (by omega)) ?_
  refine CallK.mk _ (k3.args (by rw [v1, v2])) rfl ?_
  refine OptK.mk _ (op_quo (y := h) (by omega)) ?_
  refine OptK.mk _ (op_quo (y := g) (by omega)) ?_
  refine CallK.mk _ (k4.args (by rw [v3, v4])) rfl ?_
  refine CallK.mk _ (k9.args rfl) rfl ?_
  refine OptK.mk _ rfl ?_
  ((repeat' first | refine DecK.tt ?_ | refine DecK.ff ?_ | refine DecK.beq (fun _ => ?_) (fun _ => ?_) | refine DecK.bne (fun _ => ?_) (fun _ => ?_) | refine DecK.dec (fun _ => ?_) (fun _ => ?_) | refine OptK.mk _ rfl ?_ | refine endV (by rfl) ?_) <;> (try with_reducible rfl))
  rfl
theorem div_err (p q r s : Int) (h1 : fits p) (h2 : fits q) (h3 : fits r) (h4 : fits s) (h : frErr p q ≠ 0 ∨ frErr r s ≠ 0) : Pure Try.prog 62 [fracV p q, fracV r s] (.tup [fracV 0 0, .n .i64 (if frErr p q ≠ 0 then frErr p q else frErr r s)]) := by
  obtain ⟨e, he, h', k⟩ := bothErr p q r s h1 h2 h3 h4 h
  rw [← h']
  refine pure_of_wp of62 (Nat.le_of_ble_eq_true rfl) ?_
  refine CallK.mk _ k rfl ?_
  refine DecK.yes (bne_iff_ne.2 he) ?_
  refine OptK.mk _ rfl ?_
  ((repeat' first | refine DecK.tt ?_ | refine DecK.ff ?_ | refine DecK.beq (fun _ => ?_) (fun _ => ?_) | refine DecK.bne (fun _ => ?_) (fun _ => ?_) | refine DecK.dec (fun _ => ?_) (fun _ => ?_) | refine OptK.mk _ rfl ?_ | refine endV (by rfl) ?_) <;> (try with_reducible rfl))
  rfl
def divT (p q r s : Int) : V := if r = 0 then .tup [fracV 0 0, .n .i64 1] else if r < 0 then lowT (p * (-s)) (q * (-r)) else lowT (p * s) (q * r)
theorem div_ok (p q r s : Int) (h1 : frErr p q = 0) (h2 : frErr r s = 0) : Pure Try.prog 62 [fracV p q, fracV r s] (divT p q r s) := by
  obtain ⟨br, bs, gr⟩ := frErr_0 h2
  refine pure_of_wp of62 (Nat.le_of_ble_eq_true rfl) ?_
  refine CallK.mk _ (bothOk p q r s h1 h2) rfl ?_
  refine DecK.no rfl ?_
  unfold divT
  refine DecK.beq (fun g => ?_) (fun g => ?_)
  · rw [if_pos g]
    refine OptK.mk _ rfl ?_
    ((repeat' first | refine DecK.tt ?_ | refine DecK.ff ?_ | refine DecK.beq (fun _ => ?_) (fun _ => ?_) | refine DecK.bne (fun _ => ?_) (fun _ => ?_) | refine DecK.dec (fun _ => ?_) (fun _ => ?_) | refine OptK.mk _ rfl ?_ | refine endV (by rfl) ?_) <;> (try with_reducible rfl))
    rfl
  · rw [if_neg g]
    refine DecK.dec (fun g2 => ?_) (fun g2 => ?_)
    · have t := mul_ok p q (-s) (-r) h1 (frErr_mk (by omega) (by omega) (by rw [Int.neg_gcd, Int.gcd_neg, Int.gcd_comm]; exact gr))
      rw [if_pos g2]
      obtain ⟨x, y, e, hx⟩ := lowT_tup (p * (-s)) (q * (-r))
      rw [hx] at t ⊢
      have w1 : IntKind.i64.wrap (0 - r) = -r := by rw [w64 (by omega)]; omega
      have w2 : IntKind.i64.wrap (0 - s) = -s := by rw [w64 (by omega)]; omega
      refine CallK.mk _ (t.args (by rw [← w1, ← w2] <;> rfl)) rfl ?_
      refine OptK.mk _ rfl ?_
      ((repeat' first | refine DecK.tt ?_ | refine DecK.ff ?_ | refine DecK.beq (fun _ => ?_) (fun _ => ?_) | refine DecK.bne (fun _ => ?_) (fun _ => ?_) | refine DecK.dec (fun _ => ?_) (fun _ => ?_) | refine OptK.mk _ rfl ?_ | refine endV (by rfl) ?_) <;> (try with_reducible rfl))
      rfl
    · have t := mul_ok p q s r h1 (frErr_mk (by omega) (by omega) (by rw [Int.gcd_comm]; exact gr))
      rw [if_neg g2]
      obtain ⟨x, y, e, hx⟩ := lowT_tup (p * s) (q * r)
      rw [hx] at t ⊢
      refine CallK.mk _ (t.args rfl) rfl ?_
      refine OptK.mk _ rfl ?_
      ((repeat' first | refine DecK.tt ?_ | refine DecK.ff ?_ | refine DecK.beq (fun _ => ?_) (fun _ => ?_) | refine DecK.bne (fun _ => ?_) (fun _ => ?_) | refine DecK.dec (fun _ => ?_) (fun _ => ?_) | refine OptK.mk _ rfl ?_ | refine endV (by rfl) ?_) <;> (try with_reducible rfl))
      rfl
end Go.Proofs.Ytpggblmopgfloaa.Sv
