/- Sums of fractions: the program's Add gives the sum in lowest terms. No condition. -/
import Derived.Test.YtjeafcngljbdlaaFb
import Derived.Test.YtjeafcngljbdlaaFg
namespace Go.Proofs.Ytjeafcngljbdlaa.Sv
open Go Go.RowKit
set_option linter.unusedVariables false
set_option linter.unusedSimpArgs false
set_option maxRecDepth 100000
/-- spyglass/frac.Add -/
def F46 : Fn1 := ⟨73, .seq (.reg [⟨some 2, none, .box, [.tm 0]⟩, ⟨some 3, none, .box, [.tm 1]⟩, ⟨some 4, none, .alloc [.n .i64 0, .n .i64 0], []⟩, ⟨some 5, none, .mv, [.cn (.n .i64 0)]⟩] [2, 3, 4]) (.seq (.seq (.reg [⟨some 14, none, .ld true 2 false, [.tm 2]⟩, ⟨some 15, none, .ld true 2 false, [.tm 3]⟩, ⟨some 16, none, .call 63, [.tm 14, .tm 15]⟩, ⟨some 6, none, .mv, [.tm 16]⟩] [2, 3, 4, 6]) (.seq (.reg [⟨some 17, none, .mv, [.tm 6]⟩, ⟨some 18, none, .po (.bin .neq), [.tm 17, .cn (.n .i64 0)]⟩] [2, 3, 4, 6, 18]) (.cond (.tm 18) (.seq (.reg [⟨some 19, none, .po (.build [.n .i64 0, .n .i64 0] []), []⟩, ⟨some 20, none, .mv, [.tm 6]⟩, ⟨none, none, .st 2, [.tm 4, .tm 19]⟩, ⟨some 5, none, .mv, [.tm 20]⟩] [4, 5]) .ret) .skip))) (.seq (.reg [⟨some 21, none, .fa 1, [.tm 2]⟩, ⟨some 22, none, .ld false 1 false, [.tm 21]⟩, ⟨some 23, none, .fa 1, [.tm 3]⟩, ⟨some 24, none, .ld false 1 false, [.tm 23]⟩, ⟨some 25, none, .call 62, [.tm 22, .tm 24]⟩, ⟨some 7, none, .mv, [.tm 25]⟩] [2, 3, 4, 7]) (.seq (.dreg [⟨some 26, none, .fa 0, [.tm 2]⟩, ⟨some 27, none, .ld false 1 false, [.tm 26]⟩, ⟨some 28, none, .fa 1, [.tm 3]⟩, ⟨some 29, none, .ld false 1 false, [.tm 28]⟩, ⟨some 30, none, .mv, [.tm 7]⟩, ⟨some 31, none, .po (.bin .quo), [.tm 29, .tm 30]⟩, ⟨some 32, none, .call 64, [.tm 27, .tm 31]⟩, ⟨some 33, none, .fa 0, [.tm 3]⟩, ⟨some 34, none, .ld false 1 false, [.tm 33]⟩, ⟨some 35, none, .fa 1, [.tm 2]⟩, ⟨some 36, none, .ld false 1 false, [.tm 35]⟩, ⟨some 37, none, .mv, [.tm 7]⟩, ⟨some 38, none, .po (.bin .quo), [.tm 36, .tm 37]⟩, ⟨some 39, none, .call 64, [.tm 34, .tm 38]⟩, ⟨some 40, none, .call 65, [.tm 32, .tm 39]⟩, ⟨some 8, none, .alloc [.n .i64 0, .n .u64 0], []⟩, ⟨none, none, .st 2, [.tm 8, .tm 40]⟩] [] [2, 3, 4, 7, 8]) (.seq (.reg [⟨some 41, none, .ld true 2 false, [.tm 8]⟩, ⟨some 42, none, .mv, [.tm 7]⟩, ⟨some 43, none, .call 66, [.tm 41, .tm 42]⟩, ⟨some 44, none, .mv, [.tm 7]⟩, ⟨some 45, none, .call 62, [.tm 43, .tm 44]⟩, ⟨some 9, none, .mv, [.tm 45]⟩] [2, 3, 4, 7, 8, 9]) (.seq (.reg [⟨some 47, none, .ld true 2 false, [.tm 8]⟩, ⟨some 48, none, .mv, [.tm 9]⟩, ⟨some 49, none, .call 67, [.tm 47, .tm 48]⟩, ⟨some 46, none, .mv, [.tm 49]⟩, ⟨some 50, none, .po (.ext 0), [.tm 46]⟩, ⟨some 51, none, .po (.ext 1), [.tm 46]⟩, ⟨some 10, none, .mv, [.tm 50]⟩, ⟨some 11, none, .mv, [.tm 51]⟩] [2, 3, 4, 7, 9, 10, 11]) (.seq (.dreg [⟨some 53, none, .fa 1, [.tm 2]⟩, ⟨some 54, none, .ld false 1 false, [.tm 53]⟩, ⟨some 55, none, .mv, [.tm 7]⟩, ⟨some 56, none, .po (.bin .quo), [.tm 54, .tm 55]⟩, ⟨some 57, none, .fa 1, [.tm 3]⟩, ⟨some 58, none, .ld false 1 false, [.tm 57]⟩, ⟨some 59, none, .mv, [.tm 9]⟩, ⟨some 60, none, .po (.bin .quo), [.tm 58, .tm 59]⟩, ⟨some 61, none, .call 68, [.tm 56, .tm 60]⟩, ⟨some 52, none, .mv, [.tm 61]⟩, ⟨some 62, none, .po (.ext 0), [.tm 52]⟩, ⟨some 63, none, .po (.ext 1), [.tm 52]⟩, ⟨some 12, none, .mv, [.tm 62]⟩, ⟨some 13, none, .mv, [.tm 63]⟩] [] [4, 10, 11, 12, 13]) (.seq (.reg [⟨some 64, none, .mv, [.tm 10]⟩, ⟨some 65, none, .mv, [.tm 12]⟩, ⟨some 66, none, .mv, [.tm 11]⟩, ⟨some 67, none, .po (.bin .eql), [.tm 66, .cn (.n .i64 0)]⟩, ⟨some 68, none, .mv, [.tm 13]⟩, ⟨some 69, none, .po (.bsl 2 [.b false] [(0, 1), (1, 1)]), [.tm 67, .tm 68]⟩, ⟨some 70, none, .call 69, [.tm 64, .tm 65, .tm 69]⟩, ⟨some 71, none, .po (.ext 0), [.tm 70]⟩, ⟨some 72, none, .po (.ext 1), [.tm 70]⟩, ⟨none, none, .st 2, [.tm 4, .tm 71]⟩, ⟨some 5, none, .mv, [.tm 72]⟩] [4, 5]) .ret))))))), [.cell 4 true 2, .tm 5]⟩
theorem of46 : Fn1.of Try.prog 46 ⟨false, [], false⟩ [[2, 3, 4], [2, 3, 4, 6], [2, 3, 4, 6, 18], [4, 5], [2, 3, 4, 7], [2, 3, 4, 7, 8], [2, 3, 4, 7, 8, 9], [2, 3, 4, 7, 9, 10, 11], [4, 10, 11, 12, 13], [4, 5]] = some F46 := by kernel_rfl
theorem frErr_0 {n d : Int} (h : frErr n d = 0) : (-1152921504606846976 ≤ n ∧ n ≤ 1152921504606846976) ∧ (1 ≤ d ∧ d ≤ 1152921504606846976) ∧ Int.gcd n d = 1 := by
  have ho : ¬ frOut n d := fun g => by rw [frErr, if_pos g] at h; omega
  have hg : (Int.gcd n d : Int) = 1 := Decidable.byContradiction fun g => by rw [frErr, if_neg ho, if_pos g] at h; omega
  unfold frOut at ho
  omega
theorem gcd_mod (t g : Int) : Int.gcd (t % g) g = Int.gcd t g := by
  have h := Int.gcd_add_mul_left_left g (t % g) (t / g)
  rw [Int.emod_add_mul_ediv] at h
  exact h.symm
theorem small_id {x : Int} (h : fits x) : small x = x := if_pos h
theorem lowT_made {N D n d : Int} (hn : N / (Int.gcd N D : Int) = n) (hd : D / (Int.gcd N D : Int) = d) : lowT N D = madeT n d true := by
  unfold lowT madeT
  rw [hn, hd]
  by_cases h : (n.natAbs : Int) > 1152921504606846976 ∨ d > 1152921504606846976
  · rw [if_pos h, if_pos (by simp; omega)]
  · rw [if_neg h, if_neg (by simp; omega)]
theorem madeT_not {n d n' d' : Int} (h : n < -1152921504606846976 ∨ n > 1152921504606846976 ∨ d > 1152921504606846976) : madeT n' d' false = madeT n d true := by
  unfold madeT
  rw [if_pos (.inl rfl), if_pos (.inr h)]
theorem madeT_ex (n d : Int) (ok : Bool) : ∃ x y e, madeT n d ok = .tup [fracV x y, .n .i64 e] := by
  unfold madeT
  split
  · exact ⟨_, _, _, rfl⟩
  · exact ⟨_, _, _, rfl⟩
theorem add_err (p q r s : Int) (h1 : fits p) (h2 : fits q) (h3 : fits r) (h4 : fits s) (h : frErr p q ≠ 0 ∨ frErr r s ≠ 0) : Pure Try.prog 46 [fracV p q, fracV r s] (.tup [fracV 0 0, .n .i64 (if frErr p q ≠ 0 then frErr p q else frErr r s)]) := by
  refine pure_of_wp of46 (Nat.le_of_ble_eq_true rfl) ?_
  refine CallK.mk _ (both_ok p q r s h1 h2 h3 h4) rfl ?_
  refine DecK.yes (bne_iff_ne.2 (by split <;> omega)) ?_
  refine OptK.mk _ rfl ?_
  ((repeat' first | refine DecK.tt ?_ | refine DecK.ff ?_ | refine DecK.beq (fun _ => ?_) (fun _ => ?_) | refine DecK.bne (fun _ => ?_) (fun _ => ?_) | refine DecK.dec (fun _ => ?_) (fun _ => ?_) | refine OptK.mk _ rfl ?_ | refine endV (by rfl) ?_) <;> (try with_reducible rfl))
  rfl
set_option maxHeartbeats 1000000 in
theorem add_ok (p q r s : Int) (h1 : frErr p q = 0) (h2 : frErr r s = 0) : Pure Try.prog 46 [fracV p q, fracV r s] (lowT (p * s + r * q) (q * s)) := by
  obtain ⟨bp, bq, gp⟩ := frErr_0 h1
  obtain ⟨br, bs, gr⟩ := frErr_0 h2
  have k0 := both_ok p q r s (by unfold fits; omega) (by unfold fits; omega) (by unfold fits; omega) (by unfold fits; omega)
  rw [h1, h2, if_neg (by decide)] at k0
  obtain ⟨g, eg⟩ : ∃ g : Int, g = (Int.gcd q s : Int) := ⟨_, rfl⟩
  have g0 : 0 < g := by
    have := Int.gcd_pos_of_ne_zero_right q (show s ≠ 0 by omega)
    omega
  have gq : g ∣ q := by rw [eg]; exact Int.gcd_dvd_left ..
  have gs : g ∣ s := by rw [eg]; exact Int.gcd_dvd_right ..
  have gle : g ≤ q := Int.le_of_dvd (by omega) gq
  have k1 := numGcd_ok q s (by unfold fits; omega) (by unfold fits; omega)
  rw [← eg, small_id (by unfold fits; omega)] at k1
  obtain ⟨q', eq'⟩ : ∃ x, x = q / g := ⟨_, rfl⟩
  obtain ⟨s', es'⟩ : ∃ x, x = s / g := ⟨_, rfl⟩
  have hq : q = q' * g := by rw [eq', Int.ediv_mul_cancel gq]
  have hs : s = s' * g := by rw [es', Int.ediv_mul_cancel gs]
  have hc : Int.gcd q' s' = 1 := by
    rw [eq', es', eg]
    exact Int.gcd_ediv_gcd_ediv_gcd (by omega)
  have bq' : 0 ≤ q' ∧ q' ≤ q := by rw [eq']; exact ⟨Int.ediv_nonneg (by omega) (by omega), Int.ediv_le_self _ (by omega)⟩
  have bs' : 0 ≤ s' ∧ s' ≤ s := by rw [es']; exact ⟨Int.ediv_nonneg (by omega) (by omega), Int.ediv_le_self _ (by omega)⟩
  have mp : -1329227995784915872903807060280344576 ≤ p * s' ∧ p * s' ≤ 1329227995784915872903807060280344576 := by
    have m1 := Int.mul_le_mul_of_nonneg_right bp.1 bs'.1
    have m2 := Int.mul_le_mul_of_nonneg_right bp.2 bs'.1
    omega
  have mr : -1329227995784915872903807060280344576 ≤ r * q' ∧ r * q' ≤ 1329227995784915872903807060280344576 := by
    have m1 := Int.mul_le_mul_of_nonneg_right br.1 bq'.1
    have m2 := Int.mul_le_mul_of_nonneg_right br.2 bq'.1
    omega
  have k2 := Product_ok p s' (by unfold fits; omega) (by unfold fits; omega)
  have k3 := Product_ok r q' (by unfold fits; omega) (by unfold fits; omega)
  have k4 := wPlus_ok (p * s') (r * q') (by unfold fits2; omega) (by unfold fits2; omega)
  rw [m128_in (by unfold fits2; omega)] at k4
  obtain ⟨t, et⟩ : ∃ t, t = p * s' + r * q' := ⟨_, rfl⟩
  rw [← et] at k4
  have ft : fits2 t := by unfold fits2; omega
  have k5 := wMod_ok t g ft (by unfold fits; omega)
  rw [if_neg (by omega)] at k5
  have bt : 0 ≤ t % g ∧ t % g < g := ⟨Int.emod_nonneg _ (by omega), Int.emod_lt_of_pos _ g0⟩
  have k6 := numGcd_ok (t % g) g (by unfold fits; omega) (by unfold fits; omega)
  rw [gcd_mod] at k6
  obtain ⟨h, eh⟩ : ∃ h : Int, h = (Int.gcd t g : Int) := ⟨_, rfl⟩
  obtain ⟨h0, l1, l2⟩ := sum_low hq hs g0 hc gp gr et eh (by omega) (by omega)
  have hg : h ≤ g := by rw [eh]; exact Int.le_of_dvd g0 (Int.gcd_dvd_right ..)
  rw [← eh, small_id (by unfold fits; omega)] at k6
  have k7 := wDiv_ok t h ft (by unfold fits; omega)
  rw [lowT_made l1 l2]
  have bsh : 0 ≤ s / h ∧ s / h ≤ s := ⟨Int.ediv_nonneg (by omega) (by omega), Int.ediv_le_self _ (by omega)⟩
  have k8 := numMul_ok q' (s / h) (by unfold fits; omega) (by unfold fits; omega)
  have v1 : IntKind.i64.wrap (s.tdiv g) = s' := by rw [Int.tdiv_eq_ediv_of_nonneg (by omega), ← es', w64 (by omega)]
  have v2 : IntKind.i64.wrap (q.tdiv g) = q' := by rw [Int.tdiv_eq_ediv_of_nonneg (by omega), ← eq', w64 (by omega)]
  have v3 : IntKind.i64.wrap (s.tdiv h) = s / h := by rw [Int.tdiv_eq_ediv_of_nonneg (by omega), w64 (by omega)]
  have dn := Int.mul_nonneg bq'.1 bsh.1
  generalize t / h = n at *
  generalize s / h = s2 at *
  generalize q' * s2 = d at *
  rw [quoT, if_neg (by omega)] at k7
  refine pure_of_wp of46 (Nat.le_of_ble_eq_true rfl) ?_
  refine CallK.mk _ k0 rfl ?_
  refine DecK.no rfl ?_
  refine CallK.mk _ k1 rfl ?_
  refine OptK.mk _ (op_quo (y := g) (by omega)) ?_
  refine CallK.mk _ (k2.args (by rw [v1])) rfl ?_
  refine OptK.mk _ (op_quo (y := g) (by omega)) ?_
  refine CallK.mk _ (k3.args (by rw [v2])) rfl ?_
  refine CallK.mk _ k4 rfl ?_
  refine OptK.mk _ rfl ?_
  refine CallK.mk _ k5 rfl ?_
  refine CallK.mk _ k6 rfl ?_
  by_cases fn : fits n
  · rw [if_pos fn] at k7
    refine CallK.mk _ k7 rfl ?_
    refine OptK.mk _ (op_quo (y := g) (by omega)) ?_
    refine OptK.mk _ (op_quo (y := h) (by omega)) ?_
    refine CallK.mk _ (k8.args (by rw [v2, v3])) rfl ?_
    obtain ⟨x, y, e, hx⟩ := madeT_ex n d true
    rw [hx]
    by_cases fd : fits d
    · have k9 := made_ok n d true true
      rw [show (true && true) = true from rfl, hx] at k9
      refine CallK.mk _ (k9.args (by rw [small_id fd, decide_eq_true fd] <;> rfl)) rfl ?_
      refine OptK.mk _ rfl ?_
      ((repeat' first | refine DecK.tt ?_ | refine DecK.ff ?_ | refine DecK.beq (fun _ => ?_) (fun _ => ?_) | refine DecK.bne (fun _ => ?_) (fun _ => ?_) | refine DecK.dec (fun _ => ?_) (fun _ => ?_) | refine OptK.mk _ rfl ?_ | refine endV (by rfl) ?_) <;> (try with_reducible rfl))
      rfl
    · have k9 := made_ok n (small d) true false
      rw [show (true && false) = false from rfl, madeT_not (n := n) (d := d) (by unfold fits at fd; omega), hx] at k9
      refine CallK.mk _ (k9.args (by rw [decide_eq_false fd] <;> rfl)) rfl ?_
      refine OptK.mk _ rfl ?_
      ((repeat' first | refine DecK.tt ?_ | refine DecK.ff ?_ | refine DecK.beq (fun _ => ?_) (fun _ => ?_) | refine DecK.bne (fun _ => ?_) (fun _ => ?_) | refine DecK.dec (fun _ => ?_) (fun _ => ?_) | refine OptK.mk _ rfl ?_ | refine endV (by rfl) ?_) <;> (try with_reducible rfl))
      rfl
  · rw [if_neg fn] at k7
    refine CallK.mk _ k7 rfl ?_
    refine OptK.mk _ (op_quo (y := g) (by omega)) ?_
    refine OptK.mk _ (op_quo (y := h) (by omega)) ?_
    refine CallK.mk _ (k8.args (by rw [v2, v3])) rfl ?_
    obtain ⟨x, y, e, hx⟩ := madeT_ex n d true
    rw [hx]
    have k9 := made_ok 0 (small d) false (decide (fits d))
    rw [show (false && decide (fits d)) = false from rfl, madeT_not (n := n) (d := d) (by unfold fits at fn; omega), hx] at k9
    refine CallK.mk _ (k9.args rfl) rfl ?_
    refine OptK.mk _ rfl ?_
    ((repeat' first | refine DecK.tt ?_ | refine DecK.ff ?_ | refine DecK.beq (fun _ => ?_) (fun _ => ?_) | refine DecK.bne (fun _ => ?_) (fun _ => ?_) | refine DecK.dec (fun _ => ?_) (fun _ => ?_) | refine OptK.mk _ rfl ?_ | refine endV (by rfl) ?_) <;> (try with_reducible rfl))
    rfl
end Go.Proofs.Ytjeafcngljbdlaa.Sv
