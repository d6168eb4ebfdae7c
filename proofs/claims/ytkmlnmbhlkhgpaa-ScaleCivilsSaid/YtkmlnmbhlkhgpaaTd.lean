/- Calendar: dates by the reference's counting. No condition. -/
import Derived.Test.YtkmlnmbhlkhgpaaTc
namespace Go.Proofs.Ytkmlnmbhlkhgpaa.Sv
open Go Go.RowKit
set_option linter.unusedVariables false
set_option linter.unusedSimpArgs false
set_option maxRecDepth 100000

theorem dateOf_back {Q : Exit → St → Prop} {y n : Int} (hy : 1 ≤ y ∧ y ≤ 9999) (hn : daysV y 1 1 ≤ n ∧ n < daysV (y + 1) 1 1) (hQ : ∀ y' n' b, y' = max y 2000 ∨ (y' = y ∧ y ≤ 2000) ∨ (y' ≤ y ∧ 1 ≤ y') → n' = n - daysV y' 1 1 → 0 ≤ n' → Q (.exit 0) ⟨[(0, .v (.n .i64 n')), (6, .v (.n .i64 y')), (18, .v (.b b))], []⟩) : ∀ (j : Nat) (y' n' : Int), 1 ≤ y' → y' ≤ 2000 → y' ≤ y + j → n' = n - daysV y' 1 1 →
    loopW Try.prog [0, 6] L25_2 Q ⟨[(0, .v (.n .i64 n')), (6, .v (.n .i64 y'))], []⟩ := by
  intro j
  induction j with
  | zero =>
    intro y' n' h0 h1 h2 h3
    have := fd_le (a := y') (b := y) h0 (by omega)
    refine loop_unroll ?_
    refine DecK.dec (fun h => by omega) (fun h => ?_)
    exact hQ _ _ _ (by omega) h3 (by omega)
  | succ j ih =>
    intro y' n' h0 h1 h2 h3
    have b1 := fd_bounds y' (by omega)
    have b2 := fd_bounds y (by omega)
    have b3 := fd_bounds (y + 1) (by omega)
    by_cases hlt : n' < 0
    · have hgt : y < y' := by
        by_cases e : y < y'
        · exact e
        · have := fd_le (a := y') (b := y) h0 (by omega); omega
      have hs := fd_succ (y' - 1) (by omega)
      rw [show y' - 1 + 1 = y' by omega] at hs
      refine loop_unroll ?_
      refine DecK.dec (fun h => ?_) (fun h => by omega)
      refine CallK.mk _ (leapYear_ok _) rfl ?_
      rw [w64 (n := y' - 1) (by omega)]
      refine DecK.dec (fun h => ?_) (fun h => ?_)
      · rw [if_pos h] at hs
        refine ih _ _ ?_ ?_ ?_ ?_ <;> (try simp (discharger := omega) only [w64, wu64, wu8, w32, wu32, tdivC, tmodC]) <;> omega
      · rw [if_neg h] at hs
        refine ih _ _ ?_ ?_ ?_ ?_ <;> (try simp (discharger := omega) only [w64, wu64, wu8, w32, wu32, tdivC, tmodC]) <;> omega
    · refine loop_unroll ?_
      refine DecK.dec (fun h => by omega) (fun h => ?_)
      refine hQ _ _ _ ?_ h3 (by omega)
      by_cases e : y' ≤ y
      · omega
      · have := fd_le (a := y + 1) (b := y') (by omega) (by omega); omega
theorem dateOf_on {Q : Exit → St → Prop} {y n : Int} (hy : 1 ≤ y ∧ y ≤ 9999) (hn : daysV y 1 1 ≤ n ∧ n < daysV (y + 1) 1 1) (hQ : ∀ k c n', n' = n - daysV y 1 1 → Q (.exit 2) ⟨[(0, .v (.n .i64 n')), (6, .v (.n .i64 y)), (7, .v (.n .i64 k)), (33, .v (.b c))], []⟩) : ∀ (j : Nat) (y' n' : Int), 1 ≤ y' → y' + j = y → n' = n - daysV y' 1 1 →
    loopW Try.prog [0, 6, 7] L25_1 Q ⟨[(0, .v (.n .i64 n')), (6, .v (.n .i64 y')), (7, .v (.n .i64 365))], []⟩ := by
  intro j
  induction j with
  | zero =>
    intro y' n' h1 h2 h3
    obtain rfl : y' = y := by omega
    have hs := fd_succ y' (by omega)
    have b3 := fd_bounds (y' + 1) (by omega)
    refine loop_unroll ?_
    refine CallK.mk _ (leapYear_ok _) rfl ?_
    refine DecK.dec (fun h => ?_) (fun h => ?_)
    · rw [if_pos h] at hs
      refine DecK.dec (fun h => ?_) (fun h => ?_)
      · exact hQ _ _ _ h3
      · revert h; simp (discharger := omega) only [w64, wu64, wu8, w32, wu32, tdivC, tmodC]; omega
    · rw [if_neg h] at hs
      refine DecK.dec (fun h => ?_) (fun h => by omega)
      exact hQ _ _ _ h3
  | succ j ih =>
    intro y' n' h1 h2 h3
    have hs := fd_succ y' (by omega)
    have b1 := fd_bounds y' (by omega)
    have b2 := fd_bounds y (by omega)
    have b3 := fd_bounds (y + 1) (by omega)
    have := fd_le (a := y' + 1) (b := y) (by omega) (by omega)
    refine loop_unroll ?_
    refine CallK.mk _ (leapYear_ok _) rfl ?_
    refine DecK.dec (fun h => ?_) (fun h => ?_)
    · rw [if_pos h] at hs
      refine DecK.dec (fun h => ?_) (fun h => ?_)
      · revert h; simp (discharger := omega) only [w64, wu64, wu8, w32, wu32, tdivC, tmodC]; omega
      · refine ih _ _ ?_ ?_ ?_ <;> (try simp (discharger := omega) only [w64, wu64, wu8, w32, wu32, tdivC, tmodC]) <;> omega
    · rw [if_neg h] at hs
      refine DecK.dec (fun h => by omega) (fun h => ?_)
      refine ih _ _ ?_ ?_ ?_ <;> (try simp (discharger := omega) only [w64, wu64, wu8, w32, wu32, tdivC, tmodC]) <;> omega
theorem dateOf_month {Q : Exit → St → Prop} {y m n : Int} (hy : 1 ≤ y ∧ y ≤ 9999) (hm : 1 ≤ m ∧ m ≤ 12) (hn : daysV y m 1 ≤ n ∧ n < daysV y m 1 + mlen y m) (hQ : ∀ b n', n' = n - daysV y m 1 → Q (.exit 4) ⟨[(0, .v (.n .i64 n')), (6, .v (.n .i64 y)), (8, .v (.n .i64 m)), (43, .v (.b b))], []⟩) : ∀ (j : Nat) (m' n' : Int), 1 ≤ m' → m' + j = m → n' = n - daysV y m' 1 →
    loopW Try.prog [0, 6, 8] L25_0 Q ⟨[(0, .v (.n .i64 n')), (6, .v (.n .i64 y)), (8, .v (.n .i64 m'))], []⟩ := by
  intro j
  induction j with
  | zero =>
    intro m' n' h1 h2 h3
    obtain rfl : m' = m := by omega
    refine loop_unroll ?_
    refine CallK.mk _ (monthDays_ok _ _ (by omega)) rfl ?_
    refine DecK.dec (fun h => by omega) (fun h => ?_)
    exact hQ _ _ h3
  | succ j ih =>
    intro m' n' h1 h2 h3
    have hs := month_succ y m' (by omega) (by omega)
    have b1 := month_bounds y m' (by omega) (by omega)
    have b2 := month_bounds y m (by omega) (by omega)
    have := md_le (y := y) (a := m' + 1) (b := m) (by omega) (by omega) (by omega) (by omega)
    have hl := mlen_bounds y m
    have hl' := mlen_bounds y m'
    refine loop_unroll ?_
    refine CallK.mk _ (monthDays_ok _ _ (by omega)) rfl ?_
    refine DecK.dec (fun h => ?_) (fun h => by omega)
    refine CallK.mk _ (monthDays_ok _ _ (by omega)) rfl ?_
    refine ih _ _ ?_ ?_ ?_ <;> (try simp (discharger := omega) only [w64, wu64, wu8, w32, wu32, tdivC, tmodC]) <;> omega
theorem dateOf_ok {y m d : Int} (h : okDate y m d) : Pure Try.prog 25 [.n .i64 (daysV y m d)] (.tup [.n .i64 y, .n .i64 m, .n .i64 d, .n .i64 0]) := by
  have hi := md_in h
  have hd := daysV_d y m d
  obtain ⟨h1, h2, h3, h4, h5, h6⟩ := h
  have e1 := first_val
  have e2 := last_val
  have a1 := fd_le (a := 1) (b := y) (by omega) (by omega)
  have a2 := fd_le (a := y + 1) (b := 10000) (by omega) (by omega)
  have hl := mlen_bounds y m
  refine pure_of_wp of25 (Nat.le_of_ble_eq_true rfl) ?_
  generalize hN : daysV y m d = n at *
  refine CallK.mk _ (firstDay_ok _ (by omega)) rfl ?_
  refine DecK.dec (fun h => by omega) (fun h => ?_)
  refine CallK.mk _ (firstDay_ok _ (by omega)) rfl ?_
  refine DecK.dec (fun h => by omega) (fun h => ?_)
  refine dateOf_back (y := y) (n := n) ⟨h1, h2⟩ (by omega) (fun y' n' b g1 g2 g3 => ?_) 3000 _ _ (by omega) (by omega) (by omega) (by rw [show daysV 2000 1 1 = 0 from rfl]; omega)
  have g4 : 1 ≤ y' ∧ y' ≤ y := by
    refine ⟨by omega, ?_⟩
    by_cases e : y' ≤ y
    · exact e
    · have := fd_le (a := y + 1) (b := y') (by omega) (by omega); omega
  refine dateOf_on (y := y) (n := n) ⟨h1, h2⟩ (by omega) (fun k c n2 g5 => ?_) (y - y').toNat _ _ g4.1 (by omega) g2
  refine dateOf_month (y := y) (m := m) (n := n) ⟨h1, h2⟩ ⟨h3, h4⟩ (by omega) (fun b n3 g6 => ?_) (m - 1).toNat _ _ (by omega) (by omega) g5
  refine endV (by rfl) ?_
  simp only [V.tup.injEq, V.agg.injEq, V.n.injEq, V.b.injEq, V.s.injEq, List.cons.injEq, true_and, and_true]
  (try simp (discharger := omega) only [w64, wu64, wu8, w32, wu32, tdivC, tmodC])
  omega
theorem dateOf_out {n : Int} (h : n < daysV 1 1 1 ∨ daysV 10000 1 1 ≤ n) : Pure Try.prog 25 [.n .i64 n] (.tup [.n .i64 0, .n .i64 0, .n .i64 0, .n .i64 4]) := by
  refine pure_of_wp of25 (Nat.le_of_ble_eq_true rfl) ?_
  refine CallK.mk _ (firstDay_ok _ (by omega)) rfl ?_
  refine DecK.dec (fun h => ?_) (fun h => ?_)
  · refine DecK.tt ?_
    exact endV (by rfl) rfl
  · refine CallK.mk _ (firstDay_ok _ (by omega)) rfl ?_
    refine DecK.dec (fun h => ?_) (fun h => by omega)
    exact endV (by rfl) rfl
/-- Every number of the range is that of a date. -/
theorem date_ex {n : Int} (h : daysV 1 1 1 ≤ n ∧ n < daysV 10000 1 1) : ∃ y m d, okDate y m d ∧ daysV y m d = n := by
  have year : ∀ j : Nat, n < daysV ((j : Int) + 1) 1 1 → ∃ y : Int, 1 ≤ y ∧ y ≤ j ∧ daysV y 1 1 ≤ n ∧ n < daysV (y + 1) 1 1 := by
    intro j
    induction j with
    | zero => intro hj; simp at hj; omega
    | succ j ih =>
      intro hj
      by_cases e : n < daysV ((j : Int) + 1) 1 1
      · obtain ⟨y, g1, g2, g3⟩ := ih e
        exact ⟨y, g1, by omega, g3⟩
      · exact ⟨j + 1, by omega, by omega, by omega, by simpa using hj⟩
  obtain ⟨y, h1, h2, h3, h4⟩ := year 9999 (by simpa using h.2)
  have month : ∀ j : Nat, j ≤ 11 → n < daysV y (j + 1) 1 → ∃ m : Int, 1 ≤ m ∧ m ≤ j ∧ daysV y m 1 ≤ n ∧ n < daysV y m 1 + mlen y m := by
    intro j
    induction j with
    | zero => intro _ hj; simp at hj; omega
    | succ j ih =>
      intro hj1 hj
      by_cases e : n < daysV y ((j : Int) + 1) 1
      · obtain ⟨y, g1, g2, g3⟩ := ih (by omega) e
        exact ⟨y, g1, by omega, g3⟩
      · refine ⟨j + 1, by omega, by omega, by omega, ?_⟩
        have := month_succ y (j + 1) h1 (by omega)
        rw [← this]; simpa using hj
  have hm : ∃ m : Int, 1 ≤ m ∧ m ≤ 12 ∧ daysV y m 1 ≤ n ∧ n < daysV y m 1 + mlen y m := by
    by_cases e : n < daysV y 12 1
    · obtain ⟨m, g1, g2, g3⟩ := month 11 (by omega) (by simpa using e)
      exact ⟨m, g1, by omega, g3⟩
    · have := dec_end h1
      exact ⟨12, by omega, by omega, by omega, by rw [show mlen y 12 = 31 by simp [mlen]]; omega⟩
  obtain ⟨m, g1, g2, g3, g4⟩ := hm
  refine ⟨y, m, n - daysV y m 1 + 1, ⟨h1, by omega, g1, g2, by omega, by omega⟩, ?_⟩
  rw [daysV_d]; omega
end Go.Proofs.Ytkmlnmbhlkhgpaa.Sv
