/- The reference's whole numbers: roots. No condition. -/
import Derived.Test.YtciigfeecmnghaaRRRRGreatRRZf
import Derived.Test.YtciigfeecmnghaaRRRRGreatRRWc
namespace Go.Proofs.YtciigfeecmnghaaRRRRGreatRR.Sv
open Go Go.RowKit
set_option linter.unusedVariables false
set_option linter.unusedSimpArgs false
set_option maxRecDepth 100000
/-- live: [1, 2, 3, 4, 5, 6] -/
def L62_0 : SC := .seq (.seq (.reg [⟨some 21, none, .mv, [.tm 6]⟩, ⟨some 22, none, .mv, [.tm 5]⟩, ⟨some 23, none, .po (.bin .sub), [.tm 21, .tm 22]⟩, ⟨some 24, none, .po (.bin .gtr), [.tm 23, .cn (.n .i64 1)]⟩] [1, 2, 3, 4, 5, 6, 24]) (.cond (.tm 24) .skip (.exit 2))) (.block 3 (.seq (.reg [⟨some 25, none, .mv, [.tm 3]⟩, ⟨some 26, none, .mv, [.tm 4]⟩, ⟨some 27, none, .mv, [.tm 5]⟩, ⟨some 28, none, .mv, [.tm 6]⟩, ⟨some 29, none, .po (.bin .add), [.tm 27, .tm 28]⟩, ⟨some 30, none, .po (.bin .quo), [.tm 29, .cn (.n .i64 2)]⟩, ⟨some 31, none, .ia none 1, [.tm 25, .tm 26]⟩, ⟨none, none, .st 1, [.tm 31, .tm 30]⟩] [1, 2, 3, 4, 5, 6]) (.seq (.thaw [32, 33, 7, 34, 35, 36, 37, 38, 39] (.seq (.reg [⟨some 32, none, .mv, [.tm 3]⟩, ⟨some 33, none, .call 121, [.cn (.b false), .tm 32]⟩, ⟨some 7, none, .alloc [.b false, .sl 0 [] true], []⟩, ⟨none, none, .st 2, [.tm 7, .tm 33]⟩] [1, 2, 3, 4, 5, 6, 7]) (.dreg [⟨some 34, none, .ld true 2 false, [.tm 7]⟩, ⟨some 35, none, .ld true 2 false, [.tm 7]⟩, ⟨some 36, none, .call 61, [.tm 34, .tm 35]⟩, ⟨some 37, none, .ld true 2 false, [.tm 1]⟩, ⟨some 38, none, .call 63, [.tm 36, .tm 37]⟩, ⟨some 39, none, .po (.bin .leq), [.tm 38, .cn (.n .i64 0)]⟩] [] [1, 2, 3, 4, 5, 6, 39]))) (.cond (.tm 39) (.reg [⟨some 40, none, .mv, [.tm 3]⟩, ⟨some 41, none, .mv, [.tm 4]⟩, ⟨some 42, none, .ia none 1, [.tm 40, .tm 41]⟩, ⟨some 43, none, .ld false 1 true, [.tm 42]⟩, ⟨some 5, none, .mv, [.tm 43]⟩] [1, 2, 3, 4, 5, 6]) (.reg [⟨some 44, none, .mv, [.tm 3]⟩, ⟨some 45, none, .mv, [.tm 4]⟩, ⟨some 46, none, .ia none 1, [.tm 44, .tm 45]⟩, ⟨some 47, none, .ld false 1 true, [.tm 46]⟩, ⟨some 6, none, .mv, [.tm 47]⟩] [1, 2, 3, 4, 5, 6])))))
/-- live: [1, 2, 3, 4] -/
def L62_1 : SC := .seq (.seq (.reg [⟨some 17, none, .mv, [.tm 4]⟩, ⟨some 18, none, .po (.bin .geq), [.tm 17, .cn (.n .i64 0)]⟩] [1, 2, 3, 4, 18]) (.cond (.tm 18) .skip (.exit 0))) (.seq (.block 1 (.seq (.reg [⟨some 5, none, .mv, [.cn (.n .i64 0)]⟩, ⟨some 6, none, .mv, [.cn (.n .i64 1000000)]⟩] [1, 2, 3, 4, 5, 6]) (.seq (.block 2 (.loop [1, 2, 3, 4, 5, 6] L62_0)) (.reg [⟨some 48, none, .mv, [.tm 3]⟩, ⟨some 49, none, .mv, [.tm 4]⟩, ⟨some 50, none, .mv, [.tm 5]⟩, ⟨some 51, none, .ia none 1, [.tm 48, .tm 49]⟩, ⟨none, none, .st 1, [.tm 51, .tm 50]⟩] [1, 2, 3, 4])))) (.reg [⟨some 19, none, .mv, [.tm 4]⟩, ⟨some 20, none, .po (.bin .sub), [.tm 19, .cn (.n .i64 1)]⟩, ⟨some 4, none, .mv, [.tm 20]⟩] [1, 2, 3, 4]))
/-- (spyglass/spyref1.Z).Root -/
def F62 : Fn1 := ⟨54, .seq (.reg [⟨some 1, none, .box, [.tm 0]⟩, ⟨some 2, none, .alloc [.b false, .sl 0 [] true], []⟩] [1, 2]) (.seq (.reg [⟨some 8, none, .fa 1, [.tm 1]⟩, ⟨some 9, none, .ld false 1 false, [.tm 8]⟩, ⟨some 10, none, .len false, [.tm 9]⟩, ⟨some 11, none, .po (.bin .add), [.tm 10, .cn (.n .i64 1)]⟩, ⟨some 12, none, .po (.bin .quo), [.tm 11, .cn (.n .i64 2)]⟩, ⟨some 13, none, .mk 1 8 [.n .i64 0], [.tm 12, .tm 12]⟩, ⟨some 3, none, .mv, [.tm 13]⟩] [1, 2, 3]) (.seq (.seq (.reg [⟨some 14, none, .mv, [.tm 3]⟩, ⟨some 15, none, .len false, [.tm 14]⟩, ⟨some 16, none, .po (.bin .sub), [.tm 15, .cn (.n .i64 1)]⟩, ⟨some 4, none, .mv, [.tm 16]⟩] [1, 2, 3, 4]) (.block 0 (.loop [1, 2, 3, 4] L62_1))) (.seq (.reg [⟨some 52, none, .mv, [.tm 3]⟩, ⟨some 53, none, .call 121, [.cn (.b false), .tm 52]⟩, ⟨none, none, .st 2, [.tm 2, .tm 53]⟩] [2]) .ret))), [.cell 2 true 2]⟩
theorem of62 : Fn1.of Tryz.prog 62 ⟨false, [], false⟩ [[1, 2], [1, 2, 3], [1, 2, 3, 4], [1, 2, 3, 4], [1, 2, 3, 4, 18], [1, 2, 3, 4, 5, 6], [1, 2, 3, 4, 5, 6], [1, 2, 3, 4, 5, 6, 24], [1, 2, 3, 4, 5, 6], [0, 0], [1, 2, 3, 4, 5, 6, 7], [1, 2, 3, 4, 5, 6, 39], [1, 2, 3, 4, 5, 6], [1, 2, 3, 4, 5, 6], [1, 2, 3, 4], [1, 2, 3, 4], [2]] = some F62 := by kernel_rfl
theorem sqrt_ex (a : Nat) : ∃ r : Nat, r * r ≤ a ∧ a < (r + 1) * (r + 1) := by
  induction a with
  | zero => exact ⟨0, by omega, by omega⟩
  | succ a ih =>
    obtain ⟨r, h1, h2⟩ := ih
    by_cases h : a + 1 < (r + 1) * (r + 1)
    · exact ⟨r, by omega, h⟩
    · refine ⟨r + 1, by omega, ?_⟩
      have : (r + 1 + 1) * (r + 1 + 1) = (r + 1) * (r + 1) + 2 * r + 3 := by grind
      omega
theorem sq_mono {x y : Int} (h0 : 0 ≤ x) (h : x ≤ y) : x * x ≤ y * y := Int.mul_le_mul h h h0 (by omega)
theorem sq_lt {x y : Int} (h0 : 0 ≤ y) (h : x * x < y * y) : x < y := by
  rcases Int.lt_or_le x y with h' | h'
  · exact h'
  · have := sq_mono h0 h'
    omega
theorem sqrt_unique {a x y : Int} (hx : 0 ≤ x) (hy : 0 ≤ y) (h1 : x * x ≤ a) (h2 : a < (x + 1) * (x + 1)) (h3 : y * y ≤ a) (h4 : a < (y + 1) * (y + 1)) : x = y := by
  have := sq_lt (show 0 ≤ y + 1 by omega) (show x * x < (y + 1) * (y + 1) by omega)
  have := sq_lt (show 0 ≤ x + 1 by omega) (show y * y < (x + 1) * (x + 1) by omega)
  omega
set_option maxHeartbeats 4000000 in
theorem Root_ok (a r : Int) (ha : zb 900000 a) (ha0 : 0 ≤ a) (hr0 : 0 ≤ r) (hr1 : r * r ≤ a) (hr2 : a < (r + 1) * (r + 1)) : Pure Tryz.prog 62 [zV a] (zV r) := by
  refine pure_of_wp of62 (Nat.le_of_ble_eq_true rfl) ?_
  have la := ha.len
  have av := digs_val a.natAbs
  have al := digs_len' a.natAbs
  obtain ⟨n, hn⟩ : ∃ n, n = ((digs a.natAbs).length + 1) / 2 := ⟨_, rfl⟩
  have w0 : IntKind.i64.wrap ((IntKind.i64.wrap ((digs a.natAbs).length + 1)).tdiv 2) = (n : Int) := by simp (discharger := omega) only [w64, wu64, wu8, w32, wu32, tdivC, tmodC]; omega
  refine OptK.mk _ (omk (f := ni) (x := 0) n w0 w0 (by omega) (by omega)) ?_
  refine loop_ind2 (fun (d : List Int) (i : Int) => ⟨[(1, .ref 1 0), (2, .ref 2 0), (3, .own 13 1 0 n), (4, .v (.n .i64 i))], [(13, d.flatMap ni), (2, [.b false, .sl 0 [] true]), (1, zC a)]⟩) (fun d i => (i + 1).toNat)
    (fun d i => -1 ≤ i ∧ i < n ∧ d.length = n ∧ zdig d ∧ (∀ m : Nat, (m : Int) ≤ i → d[m]? = some 0) ∧ zval d * zval d ≤ a ∧ a < (zval d + 1000000 ^ (i + 1).toNat) * (zval d + 1000000 ^ (i + 1).toNat)) (List.replicate n 0) _ ?_ ?_
  · have w1 : IntKind.i64.wrap ((n : Int) - 1) = n - 1 := w64 (by omega)
    rw [w1, show ((n : Int) - 1 + 1).toNat = n by omega, zval_zeros]
    refine ⟨by omega, by omega, by simp, fun x hx => ?_, fun m hm => ?_, by omega, ?_⟩
    · have := List.eq_of_mem_replicate hx; omega
    · simp [List.getElem?_replicate]; omega
    · rw [Int.zero_add, ← Int.pow_add]
      have := pow_mono (show (digs a.natAbs).length ≤ n + n by omega)
      omega
  intro d iz ⟨h1, h2, h3, h4, h5, h6, h7⟩ ih
  refine DecK.dec (fun hp => ?_) (fun hp => ?_)
  · obtain ⟨i, rfl⟩ : ∃ i : Nat, iz = i := ⟨iz.toNat, by omega⟩
    rw [show ((i : Int) + 1).toNat = i + 1 by omega, Int.pow_succ] at h7
    obtain ⟨B, hB⟩ : ∃ B : Int, B = 1000000 ^ i := ⟨_, rfl⟩
    have hB0 : 0 < B := by rw [hB]; exact pow_pos' i
    rw [← hB] at h7
    have hdi : d[i]? = some 0 := h5 i (by omega)
    -- a digit x at place i: the row, and its value
    have vset : ∀ x : Int, zval (d.set i x) = zval d + B * x := fun x => by rw [zval_set hdi, ← hB, Int.sub_zero]
    obtain ⟨D, hD⟩ : ∃ D, D = zval d := ⟨_, rfl⟩
    have hD0 : 0 ≤ D := by rw [hD]; exact zval_nonneg h4
    rw [← hD] at h6 h7 vset
    refine loop_ind3 (fun (e : List Int) (lo hi : Int) => ⟨[(1, .ref 1 0), (2, .ref 2 0), (3, .own 13 1 0 n), (4, .v (.n .i64 i)), (5, .v (.n .i64 lo)), (6, .v (.n .i64 hi))], [(13, e.flatMap ni), (2, [.b false, .sl 0 [] true]), (1, zC a)]⟩) (fun e lo hi => (hi - lo).toNat)
      (fun e lo hi => (∃ y, e = d.set i y) ∧ 0 ≤ lo ∧ lo < hi ∧ hi ≤ 1000000 ∧ (D + B * lo) * (D + B * lo) ≤ a ∧ a < (D + B * hi) * (D + B * hi)) d 0 1000000 ?_ ?_
    · refine ⟨⟨0, ?_⟩, by omega, by omega, by omega, ?_, ?_⟩
      · obtain ⟨hlt, he⟩ := List.getElem?_eq_some_iff.1 hdi
        rw [← he]
        exact (List.set_getElem_self hlt).symm
      · rw [Int.mul_zero, Int.add_zero]; exact h6
      · exact h7
    intro e lo hi ⟨⟨y, he⟩, k1, k2, k3, k4, k5⟩ ih'
    subst he
    have wh : IntKind.i64.wrap (hi - lo) = hi - lo := w64 (by omega)
    refine DecK.dec (fun hq => ?_) (fun hq => ?_)
    · rw [wh] at hq
      obtain ⟨mid, hmid⟩ : ∃ m, m = (lo + hi) / 2 := ⟨_, rfl⟩
      have wm : IntKind.i64.wrap ((IntKind.i64.wrap (lo + hi)).tdiv 2) = mid := by rw [hmid]; simp (discharger := omega) only [w64, wu64, wu8, w32, wu32, tdivC, tmodC]; omega
      refine OptK.mk _ (oia i rfl (by omega)) ?_
      refine OptK.mk _ (ost (x := IntKind.i64.wrap ((IntKind.i64.wrap (lo + hi)).tdiv 2)) hz_ni rfl rfl rfl (by simp; omega)) ?_
      have zd : zdig (d.set i mid) := zdig_set h4 (by omega)
      have tr : Pure Tryz.prog 121 [.b false, .sl n ((((((d.set i y).set i (IntKind.i64.wrap ((IntKind.i64.wrap (lo + hi)).tdiv 2))).flatMap ni).drop 0).take (n * 1))) false] (zV (D + B * mid)) := by
        rw [wm, List.set_set, snapRow' hz_ni (by simpa using h3), ← vset mid]
        exact trim_ok false zd (by simp; omega)
      refine CallK.mk _ tr rfl ?_
      refine OptK.mk _ rfl ?_
      have hm0 : 0 ≤ B * mid := Int.mul_nonneg (by omega) (by omega)
      have zx : zb 500000 (D + B * mid) := by
        have := zval_lt zd
        rw [vset mid] at this
        have e : (d.set i mid).length ≤ 500000 := by simp; omega
        have := pow_mono e
        unfold zb
        omega
      have zxx : zb 1000000 ((D + B * mid) * (D + B * mid)) := (zx.mul zx).mono (by decide)
      refine CallK.mk _ (Times_ok _ _ (zx.mono (by decide)) (zx.mono (by decide))) rfl ?_
      refine OptK.mk _ rfl ?_
      refine CallK.mk _ (Cmp_ok _ _ zxx (ha.mono (by decide))) rfl ?_
      have hmr : (d.set i mid)[i]? = some mid := by rw [List.getElem?_set_self (by omega)]
      refine DecK.dec (fun hc => ?_) (fun hc => ?_)
      · refine OptK.mk _ (oia i rfl (by omega)) ?_
        refine OptK.mk _ (old1 (g := fun x => .n .i64 x) (x := mid) rfl (by rw [wm, List.set_set]; exact hmr)) ?_
        refine ih' _ _ _ ⟨⟨mid, by rw [wm, List.set_set]⟩, by omega, by omega, by omega, ?_, k5⟩ (by omega)
        unfold icmp at hc; omega
      · refine OptK.mk _ (oia i rfl (by omega)) ?_
        refine OptK.mk _ (old1 (g := fun x => .n .i64 x) (x := mid) rfl (by rw [wm, List.set_set]; exact hmr)) ?_
        refine ih' _ _ _ ⟨⟨mid, by rw [wm, List.set_set]⟩, by omega, by omega, by omega, k4, ?_⟩ (by omega)
        unfold icmp at hc; omega
    · rw [wh] at hq
      obtain rfl : hi = lo + 1 := by omega
      clear ih' wh
      refine OptK.mk _ (oia i rfl (by omega)) ?_
      refine OptK.mk _ (ost (x := lo) hz_ni rfl rfl rfl (by simp; omega)) ?_
      have wi : IntKind.i64.wrap ((i : Int) - 1) = i - 1 := w64 (by omega)
      refine ih _ _ ⟨?_, ?_, ?_, ?_, ?_, ?_, ?_⟩ ?_
      all_goals try rw [wi]
      all_goals try rw [List.set_set]
      · omega
      · omega
      · simpa using h3
      · exact zdig_set h4 (by omega)
      · intro m hm
        rw [List.getElem?_set_ne (by omega)]
        exact h5 m (by omega)
      · rw [vset]; exact k4
      · rw [vset, show ((i : Int) - 1 + 1).toNat = i by omega, ← hB]
        have : D + B * lo + B = D + B * (lo + 1) := by grind
        rw [this]; exact k5
      · omega
  · have : iz = -1 := by omega
    subst this
    rw [show (-1 + 1 : Int).toNat = 0 from rfl, Int.pow_zero] at h7
    have hD0 := zval_nonneg h4
    have e := sqrt_unique hD0 hr0 h6 h7 hr1 hr2
    refine CallK.fz ?_
    refine CallK.mk _ ((trim_ok false h4 (by omega)).args (congrArg (fun v => [V.b _, v]) (snapRow' hz_ni h3))) rfl ?_
    ((repeat' first | refine DecK.tt ?_ | refine DecK.ff ?_ | refine DecK.beq (fun _ => ?_) (fun _ => ?_) | refine DecK.bne (fun _ => ?_) (fun _ => ?_) | refine DecK.dec (fun _ => ?_) (fun _ => ?_) | refine OptK.mk _ rfl ?_ | refine endV (by rfl) ?_) <;> (try with_reducible rfl))
    rw [e]
    rfl
end Go.Proofs.YtciigfeecmnghaaRRRRGreatRR.Sv
