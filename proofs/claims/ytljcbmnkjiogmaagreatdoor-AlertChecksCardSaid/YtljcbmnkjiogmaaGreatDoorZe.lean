/- The reference's whole numbers: quotients. No condition. -/
import Derived.Test.YtljcbmnkjiogmaaGreatDoorZd
namespace Go.Proofs.YtljcbmnkjiogmaaGreatDoor.Sv
open Go Go.RowKit
set_option linter.unusedVariables false
set_option linter.unusedSimpArgs false
set_option maxRecDepth 100000
/-- live: [2, 3, 4, 5, 6, 7, 8, 9, 10, 11] -/
def L42_0 : SC := .seq (.seq (.reg [⟨some 38, none, .mv, [.tm 11]⟩, ⟨some 39, none, .mv, [.tm 10]⟩, ⟨some 40, none, .po (.bin .sub), [.tm 38, .tm 39]⟩, ⟨some 41, none, .po (.bin .gtr), [.tm 40, .cn (.n .i64 1)]⟩] [2, 3, 4, 5, 6, 7, 8, 9, 10, 11, 41]) (.cond (.tm 41) .skip (.exit 2))) (.block 3 (.seq (.reg [⟨some 42, none, .mv, [.tm 10]⟩, ⟨some 43, none, .mv, [.tm 11]⟩, ⟨some 44, none, .po (.bin .add), [.tm 42, .tm 43]⟩, ⟨some 45, none, .po (.bin .quo), [.tm 44, .cn (.n .i64 2)]⟩, ⟨some 12, none, .mv, [.tm 45]⟩] [2, 3, 4, 5, 6, 7, 8, 9, 10, 11, 12]) (.seq (.dreg [⟨some 46, none, .ld true 2 false, [.tm 6]⟩, ⟨some 47, none, .mv, [.tm 12]⟩, ⟨some 48, none, .po (.bsl 1 [.n .i64 0] [(0, 1)]), [.tm 47]⟩, ⟨some 49, none, .po (.build [.b false, .sl 0 [] true] [(1, 1)]), [.tm 48]⟩, ⟨some 50, none, .call 66, [.tm 46, .tm 49]⟩, ⟨some 51, none, .ld true 2 false, [.tm 8]⟩, ⟨some 52, none, .call 45, [.tm 50, .tm 51]⟩, ⟨some 53, none, .po (.bin .leq), [.tm 52, .cn (.n .i64 0)]⟩] [] [2, 3, 4, 5, 6, 7, 8, 9, 10, 11, 12, 53]) (.cond (.tm 53) (.reg [⟨some 54, none, .mv, [.tm 12]⟩, ⟨some 10, none, .mv, [.tm 54]⟩] [2, 3, 4, 5, 6, 7, 8, 9, 10, 11]) (.reg [⟨some 55, none, .mv, [.tm 12]⟩, ⟨some 11, none, .mv, [.tm 55]⟩] [2, 3, 4, 5, 6, 7, 8, 9, 10, 11])))))
/-- live: [2, 3, 4, 5, 6, 7, 8, 9] -/
def L42_1 : SC := .seq (.seq (.reg [⟨some 24, none, .mv, [.tm 9]⟩, ⟨some 25, none, .po (.bin .geq), [.tm 24, .cn (.n .i64 0)]⟩] [2, 3, 4, 5, 6, 7, 8, 9, 25]) (.cond (.tm 25) .skip (.exit 0))) (.seq (.block 1 (.seq (.dreg [⟨some 28, none, .fa 1, [.tm 2]⟩, ⟨some 29, none, .ld false 1 false, [.tm 28]⟩, ⟨some 30, none, .mv, [.tm 9]⟩, ⟨some 31, none, .ia none 1, [.tm 29, .tm 30]⟩, ⟨some 32, none, .ld false 1 true, [.tm 31]⟩, ⟨some 33, none, .po (.bsl 1 [.n .i64 0] [(0, 1)]), [.tm 32]⟩, ⟨some 34, none, .fa 1, [.tm 8]⟩, ⟨some 35, none, .ld false 1 false, [.tm 34]⟩, ⟨some 36, none, .appv 1 8, [.tm 33, .tm 35]⟩, ⟨some 37, none, .call 65, [.cn (.b false), .tm 36]⟩, ⟨none, none, .st 2, [.tm 8, .tm 37]⟩] [] [2, 3, 4, 5, 6, 7, 8, 9]) (.seq (.reg [⟨some 10, none, .mv, [.cn (.n .i64 0)]⟩, ⟨some 11, none, .mv, [.cn (.n .i64 1000000)]⟩] [2, 3, 4, 5, 6, 7, 8, 9, 10, 11]) (.seq (.block 2 (.loop [2, 3, 4, 5, 6, 7, 8, 9, 10, 11] L42_0)) (.seq (.reg [⟨some 56, none, .mv, [.tm 7]⟩, ⟨some 57, none, .mv, [.tm 9]⟩, ⟨some 58, none, .mv, [.tm 10]⟩, ⟨some 59, none, .ia none 1, [.tm 56, .tm 57]⟩, ⟨none, none, .st 1, [.tm 59, .tm 58]⟩] [2, 3, 4, 5, 6, 7, 8, 9, 10]) (.dreg [⟨some 60, none, .ld true 2 false, [.tm 8]⟩, ⟨some 61, none, .ld true 2 false, [.tm 6]⟩, ⟨some 62, none, .mv, [.tm 10]⟩, ⟨some 63, none, .po (.bsl 1 [.n .i64 0] [(0, 1)]), [.tm 62]⟩, ⟨some 64, none, .call 65, [.cn (.b false), .tm 63]⟩, ⟨some 65, none, .call 66, [.tm 61, .tm 64]⟩, ⟨some 66, none, .call 41, [.tm 60, .tm 65]⟩, ⟨none, none, .st 2, [.tm 8, .tm 66]⟩] [] [2, 3, 4, 5, 6, 7, 8, 9])))))) (.reg [⟨some 26, none, .mv, [.tm 9]⟩, ⟨some 27, none, .po (.bin .sub), [.tm 26, .cn (.n .i64 1)]⟩, ⟨some 9, none, .mv, [.tm 27]⟩] [2, 3, 4, 5, 6, 7, 8, 9]))
/-- (spyglass/spyref1.Z).Split -/
def F42 : Fn1 := ⟨90, .seq (.reg [⟨some 2, none, .box, [.tm 0]⟩, ⟨some 3, none, .box, [.tm 1]⟩, ⟨some 4, none, .alloc [.b false, .sl 0 [] true], []⟩, ⟨some 5, none, .alloc [.b false, .sl 0 [] true], []⟩] [2, 3, 4, 5]) (.seq (.reg [⟨some 14, none, .ld true 2 false, [.tm 3]⟩, ⟨some 15, none, .call 64, [.tm 14]⟩, ⟨some 6, none, .alloc [.b false, .sl 0 [] true], []⟩, ⟨none, none, .st 2, [.tm 6, .tm 15]⟩] [2, 3, 4, 5, 6]) (.seq (.reg [⟨some 16, none, .fa 1, [.tm 2]⟩, ⟨some 17, none, .ld false 1 false, [.tm 16]⟩, ⟨some 18, none, .len false, [.tm 17]⟩, ⟨some 19, none, .mk 1 8 [.n .i64 0], [.tm 18, .tm 18]⟩, ⟨some 7, none, .mv, [.tm 19]⟩] [2, 3, 4, 5, 6, 7]) (.seq (.reg [⟨some 8, none, .alloc [.b false, .sl 0 [] true], []⟩] [2, 3, 4, 5, 6, 7, 8]) (.seq (.seq (.reg [⟨some 20, none, .fa 1, [.tm 2]⟩, ⟨some 21, none, .ld false 1 false, [.tm 20]⟩, ⟨some 22, none, .len false, [.tm 21]⟩, ⟨some 23, none, .po (.bin .sub), [.tm 22, .cn (.n .i64 1)]⟩, ⟨some 9, none, .mv, [.tm 23]⟩] [2, 3, 4, 5, 6, 7, 8, 9]) (.block 0 (.loop [2, 3, 4, 5, 6, 7, 8, 9] L42_1))) (.seq (.reg [⟨some 67, none, .fa 0, [.tm 2]⟩, ⟨some 68, none, .ld false 1 false, [.tm 67]⟩, ⟨some 69, none, .mv, [.tm 7]⟩, ⟨some 70, none, .call 65, [.tm 68, .tm 69]⟩, ⟨some 13, none, .alloc [.b false, .sl 0 [] true], []⟩, ⟨none, none, .st 2, [.tm 13, .tm 70]⟩] [2, 3, 4, 5, 6, 8, 13]) (.seq (.seq (.reg [⟨some 71, none, .fa 0, [.tm 2]⟩, ⟨some 72, none, .ld false 1 false, [.tm 71]⟩, ⟨some 73, none, .mv, [.tm 72]⟩, ⟨some 74, some (73, true), .ld true 2 false, [.tm 8]⟩, ⟨some 75, some (73, true), .call 67, [.tm 74]⟩, ⟨some 76, some (73, true), .po (.bin .gtr), [.tm 75, .cn (.n .i64 0)]⟩, ⟨some 77, none, .pick, [.tm 73, .tm 76, .cn (.b false)]⟩] [3, 4, 5, 6, 8, 13, 77]) (.cond (.tm 77) (.dreg [⟨some 78, none, .ld true 2 false, [.tm 13]⟩, ⟨some 79, none, .call 62, [.cn (.n .i64 1)]⟩, ⟨some 80, none, .call 41, [.tm 78, .tm 79]⟩, ⟨some 81, none, .ld true 2 false, [.tm 6]⟩, ⟨some 82, none, .ld true 2 false, [.tm 8]⟩, ⟨some 83, none, .call 41, [.tm 81, .tm 82]⟩, ⟨none, none, .st 2, [.tm 13, .tm 80]⟩, ⟨none, none, .st 2, [.tm 8, .tm 83]⟩] [] [3, 4, 5, 8, 13]) .skip)) (.seq (.seq (.reg [⟨some 84, none, .fa 0, [.tm 3]⟩, ⟨some 85, none, .ld false 1 false, [.tm 84]⟩] [4, 5, 8, 13, 85]) (.cond (.tm 85) (.reg [⟨some 86, none, .ld true 2 false, [.tm 13]⟩, ⟨some 87, none, .call 63, [.tm 86]⟩, ⟨none, none, .st 2, [.tm 13, .tm 87]⟩] [4, 5, 8, 13]) .skip)) (.seq (.dreg [⟨some 88, none, .ld true 2 false, [.tm 13]⟩, ⟨some 89, none, .ld true 2 false, [.tm 8]⟩, ⟨none, none, .st 2, [.tm 4, .tm 88]⟩, ⟨none, none, .st 2, [.tm 5, .tm 89]⟩] [(1, 2)] [4, 5]) .ret)))))))), [.cell 4 true 2, .cell 5 true 2]⟩
theorem of42 : Fn1.of Tryz.prog 42 ⟨true, [], false⟩ [[2, 3, 4, 5], [2, 3, 4, 5, 6], [2, 3, 4, 5, 6, 7], [2, 3, 4, 5, 6, 7, 8], [2, 3, 4, 5, 6, 7, 8, 9], [2, 3, 4, 5, 6, 7, 8, 9], [2, 3, 4, 5, 6, 7, 8, 9, 25], [2, 3, 4, 5, 6, 7, 8, 9], [2, 3, 4, 5, 6, 7, 8, 9, 10, 11], [2, 3, 4, 5, 6, 7, 8, 9, 10, 11], [2, 3, 4, 5, 6, 7, 8, 9, 10, 11, 41], [2, 3, 4, 5, 6, 7, 8, 9, 10, 11, 12], [2, 3, 4, 5, 6, 7, 8, 9, 10, 11, 12, 53], [2, 3, 4, 5, 6, 7, 8, 9, 10, 11], [2, 3, 4, 5, 6, 7, 8, 9, 10, 11], [2, 3, 4, 5, 6, 7, 8, 9, 10], [2, 3, 4, 5, 6, 7, 8, 9], [2, 3, 4, 5, 6, 7, 8, 9], [2, 3, 4, 5, 6, 8, 13], [3, 4, 5, 6, 8, 13, 77], [3, 4, 5, 8, 13], [4, 5, 8, 13, 85], [4, 5, 8, 13], [4, 5]] = some F42 := by kernel_rfl
theorem digs_one {n : Nat} (h0 : 1 ≤ n) (h : n ≤ 999999) : digs n = [(n : Int)] := by
  rw [digs_pos (by omega), show n / 1000000 = 0 by omega, digs_zero, show n % 1000000 = n by omega]
/-- A number of one digit, as it is written down. -/
theorem zOne {n : Int} (h : 1 ≤ n ∧ n ≤ 999999) (t : Bool) : VLe (.agg [.b false, .sl 1 [.n .i64 n] t]) (zV n) := by
  have e : digV n.natAbs = .sl 1 [.n .i64 n] false := by
    show V.sl (digs n.natAbs).length ((digs n.natAbs).flatMap ni) false = _
    rw [digs_one (by omega) (by omega)]
    simp
    omega
  have e2 : zV n = .agg [.b false, .sl 1 [.n .i64 n] false] := by rw [zV, zC, e]; simp; omega
  rw [e2]
  exact VLes.agg (.cons (.refl _) (.cons .loose .nil))
/-- The quotient and the rest, out of those of the absolute values. -/
theorem split_abs {a b q r : Int} (hb : b ≠ 0) (h : (a.natAbs : Int) = q * b.natAbs + r) (h0 : 0 ≤ r) (h1 : r < b.natAbs) :
    (if b < 0 then -(if a < 0 ∧ 0 < r then -q - 1 else if a < 0 then -q else q) else (if a < 0 ∧ 0 < r then -q - 1 else if a < 0 then -q else q)) = a / b ∧ (if a < 0 ∧ 0 < r then b.natAbs - r else r) = a % b := by
  obtain ⟨m, hm⟩ : ∃ m : Int, m = b.natAbs := ⟨_, rfl⟩
  rw [← hm] at h h1 ⊢
  have hp : 0 < m := by omega
  have key : a / m = (if a < 0 ∧ 0 < r then -q - 1 else if a < 0 then -q else q) ∧ a % m = (if a < 0 ∧ 0 < r then m - r else r) := by
    rw [Int.ediv_emod_unique hp]
    obtain ⟨p, hq⟩ : ∃ p, p = q * m := ⟨_, rfl⟩
    rw [← hq] at h
    have e1 : m * (-q - 1) = -p - m := by rw [hq]; grind
    have e2 : m * (-q) = -p := by rw [hq]; grind
    have e3 : m * q = p := by rw [hq]; grind
    refine ⟨?_, ?_, ?_⟩
    · split
      · rw [e1]; omega
      · split
        · rw [e2]; omega
        · rw [e3]; omega
    · split <;> omega
    · split <;> omega
  rw [← key.1, ← key.2]
  by_cases hb' : b < 0
  · have : b = -m := by omega
    subst this
    rw [if_pos hb', Int.ediv_neg, Int.emod_neg]
    exact ⟨rfl, rfl⟩
  · have : b = m := by omega
    subst this
    rw [if_neg hb']
    exact ⟨rfl, rfl⟩
set_option maxHeartbeats 4000000 in
theorem Split_pos (a b : Int) (ha : zb 900000 a) (hb : zb 900000 b) (hb0 : b ≠ 0) (ha0 : a ≠ 0) : Pure Tryz.prog 42 [zV a, zV b] (.tup [zV (a / b), zV (a % b)]) := by
  refine pure_of_wp of42 (Nat.le_of_ble_eq_true rfl) ?_
  have la := ha.len
  have lb := hb.len
  have da := digs_dig a.natAbs
  obtain ⟨A, hA⟩ : ∃ A, A = digs a.natAbs := ⟨_, rfl⟩
  have hAv : zval A = a.natAbs := by rw [hA, digs_val]
  rw [← hA] at la da
  obtain ⟨M, hM⟩ : ∃ M : Int, M = b.natAbs := ⟨_, rfl⟩
  have hMb : zb 900000 M := by rw [hM]; unfold zb at *; omega
  have hM0 : 0 < M := by omega
  refine CallK.mk _ (Abs_ok b) rfl ?_
  refine OptK.mk _ rfl ?_
  refine OptK.mk _ (omk (f := ni) (x := 0) A.length (by rw [hA]) (by rw [hA]) (by omega) (by omega)) ?_
  refine loop_ind4 (fun (Q : List Int) (iz : Int) (l : List Int) (bt : Bool × Bool) => ⟨[(2, .ref 2 0), (3, .ref 3 0), (4, .ref 4 0), (5, .ref 5 0), (6, .ref 6 0), (7, .own 19 1 0 A.length), (8, .ref 8 0), (9, .v (.n .i64 iz))],
      [(8, [.b bt.1, .sl l.length (l.flatMap ni) bt.2]), (19, Q.flatMap ni), (6, zC b.natAbs), (5, [.b false, .sl 0 [] true]), (4, [.b false, .sl 0 [] true]), (3, (zV b).cells), (2, (zV a).cells)]⟩)
    (fun Q iz l bt => (iz + 1).toNat)
    (fun Q iz l bt => -1 ≤ iz ∧ iz < A.length ∧ Q.length = A.length ∧ zdig Q ∧ bt.1 = false ∧ (bt.2 = true → iz + 1 = A.length) ∧ ∃ R : Nat, l = digs R ∧ R < M ∧ zval (A.drop (iz + 1).toNat) = zval (Q.drop (iz + 1).toNat) * M + R)
    (List.replicate A.length 0) _ [] (false, true) ?_ ?_
  · rw [← hA]
    have hl : A.length ≠ 0 := by
      intro e
      have := List.length_eq_zero_iff.1 e
      rw [hA, digs_nil] at this
      omega
    have w : IntKind.i64.wrap ((A.length : Int) - 1) = A.length - 1 := w64 (by omega)
    rw [w]
    refine ⟨by omega, by omega, by simp, fun x hx => ?_, rfl, fun _ => by omega, 0, digs_zero.symm, hM0, ?_⟩
    · have := List.eq_of_mem_replicate hx; omega
    · rw [show ((A.length : Int) - 1 + 1).toNat = A.length by omega, List.drop_length, List.drop_eq_nil_of_le (by simp)]
      simp [zval]
  intro Q iz l ⟨bq, t⟩ ⟨h1, h2, h3, h4, h5, h6, R, h7, h8, h9⟩ ih
  subst h5
  subst h7
  refine DecK.dec (fun hp => ?_) (fun hp => ?_)
  · obtain ⟨i, rfl⟩ : ∃ i : Nat, iz = i := ⟨iz.toNat, by omega⟩
    obtain ⟨x, hx, ex⟩ := drop_at (l := A) (k := i) (by omega)
    have bx := da x (List.mem_of_getElem? hx)
    rw [show ((i : Int) + 1).toNat = i + 1 by omega] at h9
    have lR : (digs R).length ≤ 900000 := digs_len (Int.lt_trans h8 (by rw [hM]; exact hb))
    obtain ⟨R1, hR1⟩ : ∃ R1 : Int, R1 = x + 1000000 * R := ⟨_, rfl⟩
    have tr : Pure Tryz.prog 65 [.b false, intsV ([x] ++ digs R)] (zV R1) := by
      have := trim_ok false (d := [x] ++ digs R) (zdig_app.2 ⟨zdig_cons.2 ⟨bx, zdig_nil⟩, digs_dig R⟩) (by simp; omega)
      rw [zval_app, digs_val] at this
      simp only [Bool.false_eq_true, if_false, zval, List.length_singleton] at this
      rw [hR1]
      simpa using this
    have bR1 : 0 ≤ R1 ∧ R1 < 1000000 * M := by omega
    have zR1 : zb 900001 R1 := by
      have h := hMb
      unfold zb at h ⊢
      rw [show (900001 : Nat) = 900000 + 1 from rfl, Int.pow_succ]
      omega
    refine OptK.mk _ (ria i rfl (by rw [← hA]; omega)) ?_
    refine OptK.mk _ (rld1 (g := fun x => .n .i64 x) (x := x) (by rw [← hA]; exact hx)) ?_
    refine OptK.mk _ (row_appv (f := ni) (l := [x]) (l' := digs R) hz_ni (by simp; omega) (by decide)) ?_
    refine CallK.mk _ tr rfl ?_
    refine OptK.mk _ rfl ?_
    refine loop_ind2 (fun (lo hi : Int) => ⟨[(2, .ref 2 0), (3, .ref 3 0), (4, .ref 4 0), (5, .ref 5 0), (6, .ref 6 0), (7, .own 19 1 0 A.length), (8, .ref 8 0), (9, .v (.n .i64 i)), (10, .v (.n .i64 lo)), (11, .v (.n .i64 hi))],
        [(8, zC R1), (19, Q.flatMap ni), (6, zC b.natAbs), (5, [.b false, .sl 0 [] true]), (4, [.b false, .sl 0 [] true]), (3, (zV b).cells), (2, (zV a).cells)]⟩)
      (fun lo hi => (hi - lo).toNat) (fun lo hi => 0 ≤ lo ∧ lo < hi ∧ hi ≤ 1000000 ∧ lo * M ≤ R1 ∧ R1 < hi * M) 0 1000000 (by omega) ?_
    intro lo hi ⟨k1, k2, k3, k4, k5⟩ ih'
    have w1 : IntKind.i64.wrap (hi - lo) = hi - lo := w64 (by omega)
    refine DecK.dec (fun hq => ?_) (fun hq => ?_)
    · rw [w1] at hq
      have w2 : IntKind.i64.wrap ((IntKind.i64.wrap (lo + hi)).tdiv 2) = (lo + hi) / 2 := by simp (discharger := omega) only [w64, wu64, wu8, w32, wu32, tdivC, tmodC]; omega
      have tm : Pure Tryz.prog 66 [zV b.natAbs, .agg [.b false, .sl 1 [.n .i64 (IntKind.i64.wrap ((IntKind.i64.wrap (lo + hi)).tdiv 2))] true]] (zV (M * ((lo + hi) / 2))) := by
        rw [w2, ← hM]
        exact Pure.of (.cons (.refl _) (.cons (zOne (by omega) _) .nil)) (Times_ok _ _ (hMb.mono (by decide)) (zb_64 (by omega) |>.mono (by decide)))
      refine CallK.mk _ tm rfl ?_
      have zp : zb 900001 (M * ((lo + hi) / 2)) := by
        have h : zb 1 ((lo + hi) / 2) := by unfold zb; omega
        exact (hMb.mul h).mono (by decide)
      refine CallK.mk _ (Cmp_ok _ _ (zp.mono (by decide)) (zR1.mono (by decide))) rfl ?_
      refine DecK.dec (fun hc => ?_) (fun hc => ?_)
      · refine ih' _ _ ⟨?_, ?_, ?_, ?_, ?_⟩ ?_
        all_goals try rw [w2]
        · omega
        · omega
        · omega
        · unfold icmp at hc; rw [Int.mul_comm]; omega
        · omega
        · omega
      · refine ih' _ _ ⟨?_, ?_, ?_, ?_, ?_⟩ ?_
        all_goals try rw [w2]
        · omega
        · omega
        · omega
        · omega
        · unfold icmp at hc; rw [Int.mul_comm]; omega
        · omega
    · rw [w1] at hq
      obtain rfl : hi = lo + 1 := by omega
      have blo : 0 ≤ lo ∧ lo ≤ 999999 := by omega
      clear ih' w1
      refine OptK.mk _ (oia i rfl (by omega)) ?_
      refine OptK.mk _ (ost (x := lo) hz_ni rfl rfl rfl (by omega)) ?_
      have tr2 : Pure Tryz.prog 65 [.b false, .sl 1 [.n .i64 lo] true] (zV lo) := by
        have := trim_ok false (d := [lo]) (zdig_cons.2 ⟨blo, zdig_nil⟩) (by simp)
        simp only [Bool.false_eq_true, if_false, zval, Int.mul_zero, Int.add_zero] at this
        exact Pure.of (.cons (.refl _) (.cons .loose .nil)) this
      refine CallK.mk _ tr2 rfl ?_
      have zlo : zb 1 lo := by unfold zb; omega
      refine CallK.mk _ (Times_ok _ _ (by rw [← hM]; exact hMb.mono (by decide)) (zlo.mono (by decide))) rfl ?_
      have zp : zb 900001 (M * lo) := (hMb.mul zlo).mono (by decide)
      refine CallK.mk _ (Less_ok _ _ (zR1.mono (by decide)) (by rw [← hM]; exact zp.mono (by decide))) rfl ?_
      refine OptK.mk _ rfl ?_
      have wi : IntKind.i64.wrap ((i : Int) - 1) = i - 1 := w64 (by omega)
      have e1 : R1 - b.natAbs * lo = R1 - lo * M := by rw [← hM, Int.mul_comm]
      have e2 : (lo + 1) * M = lo * M + M := by grind
      refine ih (Q.set i lo) _ (digs (R1 - b.natAbs * lo).natAbs) (decide (R1 - (b.natAbs : Int) * lo < 0), false) ⟨?_, ?_, ?_, ?_, ?_, ?_, (R1 - b.natAbs * lo).natAbs, rfl, ?_, ?_⟩ ?_
      all_goals try rw [wi]
      all_goals try rw [e1]
      · omega
      · omega
      · simpa using h3
      · exact zdig_set h4 blo
      · simp; omega
      · intro e; cases e
      · omega
      · obtain ⟨y, hy, ey⟩ := drop_at (l := Q.set i lo) (k := i) (by simp; omega)
        have : y = lo := by rw [List.getElem?_set_self (by omega)] at hy; simpa using hy.symm
        subst this
        rw [show ((i : Int) - 1 + 1).toNat = i by omega, ex, ey, List.drop_set_of_lt (by omega), zval, zval, h9]
        have e3 : ((R1 - y * M).natAbs : Int) = R1 - y * M := by omega
        rw [e3, hR1]
        clear ih
        grind
      · omega
  · have : iz = -1 := by omega
    subst this
    have htf : t = false := by
      cases t with
      | false => rfl
      | true => have e := h6 rfl
                have e1 : A.length = 0 := by omega
                rw [hA] at e1
                have := digs_nil.1 (List.length_eq_zero_iff.1 e1)
                omega
    subst htf
    simp only [show (-1 + 1 : Int).toNat = 0 from rfl, List.drop_zero] at h9
    rw [hAv, hM] at h9
    obtain ⟨r1, r2⟩ := split_abs hb0 h9 (by omega) (by rw [← hM]; exact h8)
    have hQ0 := zval_nonneg h4
    have hQa : zval Q ≤ a.natAbs := by
      have : zval Q * 1 ≤ zval Q * b.natAbs := Int.mul_le_mul_of_nonneg_left (by omega) hQ0
      omega
    have zQ : zb 900000 (zval Q) := zb.le ha (by omega)
    have zR : zb 900000 (R : Int) := zb.le hb (by omega)
    have eR : V.agg [.b false, intsV (digs R)] = zV R := by rw [zV, zC, Int.natAbs_natCast]; simp
    have cR : zC R = [.b false, intsV (digs R)] := by rw [zC, Int.natAbs_natCast]; simp
    have zone : zb 900000 1 := zb.mono (k := 1) (by unfold zb; decide) (by decide)
    refine CallK.fz ?_
    refine CallK.mk _ ((trim_ok _ h4 (by omega)).args (congrArg (fun v => [V.b _, v]) (snapRow' hz_ni h3))) rfl ?_
    have sgnR : sgn R = if 0 < (R : Int) then 1 else 0 := by unfold sgn; omega
    have tS : Pure Tryz.prog 67 [.agg [.b false, intsV (digs R)]] (.n .i64 (sgn R)) := (Sign_ok R).args (by rw [eR])
    have tL : ∀ x, zb 900000 x → Pure Tryz.prog 41 [zV x, .agg [.b false, intsV (digs R)]] (zV (x - R)) := fun x hx => (Less_ok x R (hx.mono (by decide)) (zR.mono (by decide))).args (by rw [eR])
    have zbn : zb 900000 (b.natAbs : Int) := by rw [← hM]; exact hMb
    have fin : ∀ q r : Int, q = a / b → r = a % b → V.tup [zV q, zV r] = V.tup [zV (a / b), zV (a % b)] := fun q r h h' => by rw [h, h']
    have fin' : ∀ q : Int, q = a / b → (R : Int) = a % b → V.tup [zV q, .agg [.b false, intsV (digs R)]] = V.tup [zV (a / b), zV (a % b)] := fun q h h' => by rw [eR, h, h']
    have c1 : a < 0 → 0 < (R : Int) → b < 0 → -(-zval Q - 1) = a / b := fun x y z => by rw [← r1, if_pos z, if_pos ⟨x, y⟩]
    have c2 : a < 0 → 0 < (R : Int) → ¬ b < 0 → -zval Q - 1 = a / b := fun x y z => by rw [← r1, if_neg z, if_pos ⟨x, y⟩]
    have c3 : a < 0 → ¬ 0 < (R : Int) → b < 0 → - -zval Q = a / b := fun x y z => by rw [← r1, if_pos z, if_neg (fun h => y h.2), if_pos x]
    have c4 : a < 0 → ¬ 0 < (R : Int) → ¬ b < 0 → -zval Q = a / b := fun x y z => by rw [← r1, if_neg z, if_neg (fun h => y h.2), if_pos x]
    have c5 : ¬ a < 0 → b < 0 → -zval Q = a / b := fun x z => by rw [← r1, if_pos z, if_neg (fun h => x h.1), if_neg x]
    have c6 : ¬ a < 0 → ¬ b < 0 → zval Q = a / b := fun x z => by rw [← r1, if_neg z, if_neg (fun h => x h.1), if_neg x]
    have d1 : a < 0 → 0 < (R : Int) → (b.natAbs : Int) - R = a % b := fun x y => by rw [← r2, if_pos ⟨x, y⟩]
    have d2 : ¬ (a < 0 ∧ 0 < (R : Int)) → (R : Int) = a % b := fun x => by rw [← r2, if_neg x]
    by_cases s1 : a < 0
    · simp only [s1, decide_true, if_true]
      have zn : zb 900000 (-zval Q) := zQ.neg
      refine OptK.mk _ rfl ?_
      refine DecK.yes (by simp [s1]) ?_
      refine CallK.mk _ tS rfl ?_
      refine DecK.dec (fun hs => ?_) (fun hs => ?_)
      · refine CallK.mk _ (I_ok 1 (by decide)) rfl ?_
        refine CallK.mk _ (Less_ok (-zval Q) 1 (zn.mono (by decide)) (zone.mono (by decide))) rfl ?_
        refine CallK.mk _ (tL b.natAbs zbn) rfl ?_
        have zn1 : zok (-zval Q - 1) := (zn.sub zone (j := 900001) (by decide) (by decide)).mono (by decide)
        have hR : 0 < (R : Int) := by omega
        repeat' first | refine DecK.tt ?_ | refine DecK.ff ?_ | refine DecK.beq (fun _ => ?_) (fun _ => ?_) | refine DecK.bne (fun _ => ?_) (fun _ => ?_) | refine DecK.dec (fun _ => ?_) (fun _ => ?_) | refine OptK.mk _ rfl ?_ | refine endV (by rfl) ?_ | (refine CallK.mk _ (Minus_ok (-zval Q - 1) zn1) rfl ?_)
        · exact fin _ _ (c1 s1 hR (by assumption)) (d1 s1 hR)
        · exact fin _ _ (c2 s1 hR (by assumption)) (d1 s1 hR)
      · have hR : ¬ 0 < (R : Int) := by omega
        repeat' first | refine DecK.tt ?_ | refine DecK.ff ?_ | refine DecK.beq (fun _ => ?_) (fun _ => ?_) | refine DecK.bne (fun _ => ?_) (fun _ => ?_) | refine DecK.dec (fun _ => ?_) (fun _ => ?_) | refine OptK.mk _ rfl ?_ | refine endV (by rfl) ?_ | (refine CallK.mk _ (Minus_ok (-zval Q) (zn.mono (by decide))) rfl ?_)
        · exact fin' _ (c3 s1 hR (by assumption)) (d2 fun h => hR h.2)
        · exact fin' _ (c4 s1 hR (by assumption)) (d2 fun h => hR h.2)
    · simp only [s1, decide_false, Bool.false_eq_true, if_false]
      refine OptK.mk _ rfl ?_
      refine DecK.no (by simp [s1]) ?_
      repeat' first | refine DecK.tt ?_ | refine DecK.ff ?_ | refine DecK.beq (fun _ => ?_) (fun _ => ?_) | refine DecK.bne (fun _ => ?_) (fun _ => ?_) | refine DecK.dec (fun _ => ?_) (fun _ => ?_) | refine OptK.mk _ rfl ?_ | refine endV (by rfl) ?_ | (refine CallK.mk _ (Minus_ok (zval Q) (zQ.mono (by decide))) rfl ?_)
      · exact fin' _ (c5 s1 (by assumption)) (d2 fun h => s1 h.1)
      · exact fin' _ (c6 s1 (by assumption)) (d2 fun h => s1 h.1)
/-- Of nothing: as the program writes it down. -/
theorem Split_zero (b : Int) (hb : zb 900000 b) (hb0 : b ≠ 0) : Pure Tryz.prog 42 [zV 0, zV b] (.tup [zV 0, .agg [.b false, .sl 0 [] true]]) := by
  refine pure_of_wp of42 (Nat.le_of_ble_eq_true rfl) ?_
  refine CallK.mk _ (Abs_ok b) rfl ?_
  refine OptK.mk _ rfl ?_
  have e0 : (digs (Int.natAbs 0)).length = 0 := by rw [Int.natAbs_zero, digs_zero]; rfl
  refine OptK.mk _ (omk (f := ni) (x := 0) 0 (by rw [e0]) (by rw [e0]) (by omega) (by omega)) ?_
  refine loop_unroll ?_
  refine DecK.dec (fun h => ?_) (fun h => ?_)
  · exfalso
    rw [e0, w64 (by omega)] at h
    omega
  refine CallK.fz ?_
  have tr : Pure Tryz.prog 65 [.b (decide ((0 : Int) < 0)), intsV []] (zV 0) := by
    have := trim_ok (decide ((0 : Int) < 0)) zdig_nil (by simp)
    simpa [zval] using this
  refine CallK.mk _ (tr.args rfl) rfl ?_
  have tM : Pure Tryz.prog 63 [zV 0] (zV 0) := Minus_ok 0 (zb_64 (by omega) |>.mono (by decide))
  repeat' first | refine DecK.tt ?_ | refine DecK.ff ?_ | refine DecK.beq (fun _ => ?_) (fun _ => ?_) | refine DecK.bne (fun _ => ?_) (fun _ => ?_) | refine DecK.dec (fun _ => ?_) (fun _ => ?_) | refine OptK.mk _ rfl ?_ | refine endV (by rfl) ?_ | (refine CallK.mk _ tM rfl ?_)
  all_goals rfl
theorem zNone : VLe (.agg [.b false, .sl 0 [] true]) (zV 0) := by
  have e2 : zV 0 = .agg [.b false, .sl 0 [] false] := by rw [zV, zC, digV, Int.natAbs_zero, digs_zero]; rfl
  rw [e2]
  exact VLes.agg (.cons (.refl _) (.cons .loose .nil))
theorem Split_ok (a b : Int) (ha : zb 900000 a) (hb : zb 900000 b) (hb0 : b ≠ 0) : Pure Tryz.prog 42 [zV a, zV b] (.tup [zV (a / b), zV (a % b)]) := by
  by_cases h : a = 0
  · subst h
    rw [Int.zero_ediv, Int.zero_emod]
    exact (Split_zero b hb hb0).le (VLes.tup (.cons (.refl _) (.cons zNone .nil)))
  · exact Split_pos a b ha hb hb0 h
end Go.Proofs.YtljcbmnkjiogmaaGreatDoor.Sv
