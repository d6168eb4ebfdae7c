/- Angles: the rule's sine grows and its cosine falls up to an eighth; so the greatest angle that is not beyond a direction is one. No condition. -/
import Derived.Test.YtciigfeecmnghaaRRRRGreatRRQc
namespace Go.Proofs.YtciigfeecmnghaaRRRRGreatRR.Sv
open Go Go.RowKit
set_option linter.unusedVariables false
set_option linter.unusedSimpArgs false
set_option maxRecDepth 100000

/-- One product of the series, at two places. -/
theorem tms_step {u v s s' : Int} (hu : 0 ≤ u) (huv : u ≤ v) (h1 : u ≤ s') (h2 : s' ≤ s) (h3 : s ≤ 1152921504606846976) (h4 : s - s' ≤ v - u) :
    tms u s ≤ tms v s' ∧ tms v s' ≤ tms u s + (v - u) := by
  obtain ⟨d, rfl⟩ : ∃ d, v = u + d := ⟨v - u, by omega⟩
  obtain ⟨g, rfl⟩ : ∃ g, s = s' + g := ⟨s - s', by omega⟩
  have hg : 0 ≤ g := by omega
  have hgd : g ≤ d := by omega
  have m1 := Int.mul_le_mul_of_nonneg_left hgd hu
  have m2 := Int.mul_le_mul_of_nonneg_right h1 (show 0 ≤ d by omega)
  have m3 := Int.mul_le_mul_of_nonneg_right (show s' ≤ 1152921504606846976 by omega) (show 0 ≤ d by omega)
  have m4 := Int.mul_nonneg hu hg
  have e1 : (u + d) * s' = u * s' + s' * d := by rw [Int.add_mul, Int.mul_comm d]
  have e2 : u * (s' + g) = u * s' + u * g := Int.mul_add ..
  unfold tms
  rw [e1, e2]
  generalize u * s' = A at *
  generalize s' * d = B at *
  generalize u * g = C at *
  generalize u * d = D at *
  omega
theorem ser_mono {u v : Int} (hu : 0 ≤ u) (huv : u ≤ v) (hv : v ≤ 712000000000000000) : ∀ {l : List Int} {s s' : Int}, (∀ k ∈ l, 2 ≤ k) → 712000000000000000 ≤ s' → s' ≤ s → s ≤ 1152921504606846976 → s - s' ≤ v - u →
    712000000000000000 ≤ serF v l s' ∧ serF v l s' ≤ serF u l s ∧ serF u l s ≤ 1152921504606846976 ∧ serF u l s - serF v l s' ≤ v - u
  | [], s, s', _, h1, h2, h3, h4 => ⟨h1, h2, h3, h4⟩
  | k :: l, s, s', hl, h1, h2, h3, h4 => by
    have hk := hl k (by simp)
    have t := tms_step hu huv (by omega) h2 h3 h4
    have tv := tms_le (a := v) (b := s') (by omega) (by omega)
    have tu := tms_le (a := u) (b := s) hu (by omega)
    obtain ⟨d, hd⟩ : ∃ d, d = v - u := ⟨_, rfl⟩
    have q0 : 0 ≤ tms u s / k := Int.ediv_nonneg tu.1 (by omega)
    have q1 : tms u s / k ≤ tms v s' / k := Int.ediv_le_ediv (by omega) t.1
    have q2 : tms v s' / k ≤ tms u s / k + d := by
      have : tms v s' / k ≤ (tms u s + d * k) / k := Int.ediv_le_ediv (by omega) (by
        have := Int.mul_le_mul_of_nonneg_left (show 1 ≤ k by omega) (show 0 ≤ d by omega)
        omega)
      rwa [Int.add_mul_ediv_right _ _ (by omega)] at this
    have q3 : tms v s' / k ≤ 356000000000000000 := by
      have := Int.ediv_lt_of_lt_mul (show 0 < k by omega) (show tms v s' < (356000000000000000 + 1) * k by omega)
      omega
    have := ser_mono hu huv hv (l := l) (s := 1152921504606846976 - tms u s / k) (s' := 1152921504606846976 - tms v s' / k) (fun k hk => hl k (by simp [hk])) (by omega) (by omega) (by omega) (by omega)
    simpa only [serF] using this
theorem quarX_step (t : Int) : quarX t + 1686629713 ≤ quarX (t + 1) ∧ quarX (t + 1) ≤ quarX t + 1686629714 := by
  unfold quarX
  omega
theorem sq_le {x : Int} (h : 0 ≤ x ∧ x ≤ 905502432259640355) : 0 ≤ tms x x ∧ tms x x ≤ 712000000000000000 := by
  refine ⟨(tms_le h.1 ⟨h.1, by omega⟩).1, ?_⟩
  have := Int.mul_le_mul h.2 h.2 h.1 (by omega)
  unfold tms
  omega
theorem sq_step {x y : Int} (hx : 0 ≤ x) (h : x + 1686629713 ≤ y ∧ y ≤ x + 1686629714) (hy : y ≤ 905502432259640355) : tms x x ≤ tms y y ∧ tms y y ≤ tms x x + 2649353175 := by
  obtain ⟨d, rfl⟩ : ∃ d, y = x + d := ⟨y - x, by omega⟩
  have e : (x + d) * (x + d) = x * x + (x + (x + d)) * d := by rw [Int.mul_add, Int.add_mul, Int.add_mul, Int.add_mul, Int.add_mul, Int.mul_comm d x]; omega
  have m := Int.mul_le_mul (show x + (x + d) ≤ 1811004864519280710 by omega) (show d ≤ 1686629714 by omega) (by omega) (by decide)
  have m' := Int.mul_nonneg (show 0 ≤ x + (x + d) by omega) (show 0 ≤ d by omega)
  unfold tms
  rw [e]
  generalize x * x = A at *
  generalize (x + (x + d)) * d = B at *
  omega
/-- The sine in units of 2^-60. -/
def lowF (t : Int) : Int := tms (quarX t) (serF (tms (quarX t) (quarX t)) lows 1152921504606846976)
def highF (t : Int) : Int := serF (tms (quarX t) (quarX t)) highs 1152921504606846976
theorem low_step {t : Int} (h : 0 ≤ t ∧ t < 536870912) : lowF t + 1150000000 ≤ lowF (t + 1) := by
  have x0 := quarX_in (t := t) (by omega)
  have x1 := quarX_in (t := t + 1) (by omega)
  have st := quarX_step t
  unfold lowF
  generalize quarX t = x at *
  generalize quarX (t + 1) = y at *
  have u0 := sq_le x0
  have u1 := sq_le x1
  have us := sq_step x0.1 st x1.2
  generalize tms x x = u at *
  generalize tms y y = v at *
  have es : ∀ u, serF u lows 1152921504606846976 = 1152921504606846976 - tms u (serF u [156, 110, 72, 42, 20] 1152921504606846976) / 6 := fun _ => rfl
  have m := ser_mono u0.1 us.1 u1.2 (l := [156, 110, 72, 42, 20]) (s := 1152921504606846976) (s' := 1152921504606846976) (by decide) (by decide) (by decide) (by decide) (by omega)
  rw [es, es]
  generalize serF u [156, 110, 72, 42, 20] 1152921504606846976 = s at *
  generalize serF v [156, 110, 72, 42, 20] 1152921504606846976 = s' at *
  have t1 := tms_step u0.1 us.1 (by omega) m.2.1 m.2.2.1 m.2.2.2
  have t2 := tms_le u1.1 (b := s') (by omega)
  have t3 := tms_le u0.1 (b := s) (by omega)
  obtain ⟨a, ha⟩ : ∃ a, a = 1152921504606846976 - tms u s / 6 := ⟨_, rfl⟩
  obtain ⟨b, hb⟩ : ∃ b, b = 1152921504606846976 - tms v s' / 6 := ⟨_, rfl⟩
  rw [← ha, ← hb]
  have a1 : a ≤ b + 441558864 := by omega
  have b1 : 1034254837940180309 ≤ b := by omega
  clear ha hb t1 t2 t3 es m us u0 u1
  obtain ⟨d, rfl⟩ : ∃ d, y = x + d := ⟨y - x, by omega⟩
  have m1 := Int.mul_le_mul_of_nonneg_left a1 x0.1
  have m2 := Int.mul_le_mul (show 1686629713 ≤ d by omega) b1 (by decide) (by omega)
  have m3 := Int.mul_le_mul_of_nonneg_right x0.2 (show (0 : Int) ≤ 441558864 by decide)
  have e1 : (x + d) * b = x * b + d * b := Int.add_mul ..
  have e2 : x * (b + 441558864) = x * b + x * 441558864 := Int.mul_add ..
  unfold tms
  rw [e1]
  rw [e2] at m1
  generalize x * b = A at *
  generalize x * a = B at *
  generalize d * b = C at *
  omega
theorem high_step {t : Int} (h : 0 ≤ t ∧ t < 536870912) : highF (t + 1) ≤ highF t := by
  have x0 := quarX_in (t := t) (by omega)
  have x1 := quarX_in (t := t + 1) (by omega)
  have st := quarX_step t
  unfold highF
  have us := sq_step x0.1 st x1.2
  exact (ser_mono (sq_le x0).1 us.1 (sq_le x1).2 (l := highs) (s := 1152921504606846976) (s' := 1152921504606846976) (by decide) (by decide) (by decide) (by decide) (by omega)).2.1
theorem quarF_low {t : Int} (h : t ≤ 536870912) : quarF t = (lowF t + 536870912) / 1073741824 := by rw [quarF, if_neg (by omega)]; rfl
theorem quarF_high {t : Int} (h : t < 536870912) : quarF (1073741824 - t) = (highF t + 536870912) / 1073741824 := by
  rw [quarF, if_pos (by omega), show 1073741824 - (1073741824 - t) = t by omega]; rfl
theorem quar_up {t : Int} (h : 0 ≤ t ∧ t < 536870912) : quarF t ≤ quarF (t + 1) := by
  have := low_step h
  rw [quarF_low (by omega), quarF_low (by omega)]
  omega
theorem quar_down {t : Int} (h : 0 ≤ t ∧ t < 536870912) : quarF (1073741824 - (t + 1)) ≤ quarF (1073741824 - t) := by
  by_cases e : t = 536870911
  · subst e; decide +kernel
  · have := high_step h
    rw [quarF_high (by omega), quarF_high (by omega)]
    omega
/-- An angle up to an eighth is not beyond the direction (x, y). -/
def notB (y x a : Int) : Prop := quarF a * x ≤ quarF (1073741824 - a) * y
theorem notB_down {y x a : Int} (hy : 0 ≤ y) (hx : 0 ≤ x) (h : 0 ≤ a ∧ a < 536870912) (hb : notB y x (a + 1)) : notB y x a := by
  have m1 := Int.mul_le_mul_of_nonneg_right (quar_up h) hx
  have m2 := Int.mul_le_mul_of_nonneg_right (quar_down h) hy
  unfold notB at *
  omega
theorem notB_le {y x : Int} (hy : 0 ≤ y) (hx : 0 ≤ x) : ∀ (n : Nat) (a : Int), 0 ≤ a → a + n ≤ 536870912 → notB y x (a + n) → notB y x a
  | 0, a, _, _, h => by simpa using h
  | n + 1, a, h0, h1, h => notB_le hy hx n a h0 (by omega) (notB_down hy hx (a := a + n) (by omega) (by rw [Int.add_assoc]; exact h))
theorem notB_sin {y x a : Int} (h : 0 ≤ a ∧ a ≤ 536870912) : sinF a * x ≤ sinF (a + 1073741824) * y ↔ notB y x a := by
  have e1 : sinF a = quarF a := by
    rw [sinF, Int.emod_eq_of_lt (by omega) (by omega), if_pos (by omega)]
  have e2 : sinF (a + 1073741824) = quarF (1073741824 - a) := by
    rw [sinF, Int.emod_eq_of_lt (by omega) (by omega)]
    by_cases e : a = 0
    · rw [if_pos (by omega), e]; rfl
    · rw [if_neg (by omega), if_pos (by omega), show 2147483648 - (a + 1073741824) = 1073741824 - a by omega]
  rw [e1, e2]; rfl
theorem octF_spec {y x : Int} (hy : 0 ≤ y) (hx : 0 ≤ x) : ∀ (n : Nat) (lo hi : Int), 0 ≤ lo → lo < hi → hi ≤ 536870913 → hi - lo ≤ 2 ^ n → notB y x lo → (hi = 536870913 ∨ ¬ notB y x hi) →
    notB y x (octF y x n lo hi) ∧ 0 ≤ octF y x n lo hi ∧ octF y x n lo hi ≤ 536870912 ∧ (octF y x n lo hi = 536870912 ∨ ¬ notB y x (octF y x n lo hi + 1))
  | 0, lo, hi, h0, h1, h2, h3, h4, h5 => by
    have : hi = lo + 1 := by simp at h3; omega
    subst this
    refine ⟨h4, h0, by simp only [octF]; omega, ?_⟩
    simp only [octF]
    rcases h5 with h | h
    · left; omega
    · right; exact h
  | n + 1, lo, hi, h0, h1, h2, h3, h4, h5 => by
    rw [Int.pow_succ] at h3
    unfold octF
    split
    · split
      · next g => exact octF_spec hy hx n _ _ (by omega) (by omega) h2 (by omega) ((notB_sin (by omega)).1 g) h5
      · next g => exact octF_spec hy hx n _ _ h0 (by omega) (by omega) (by omega) h4 (.inr fun k => g ((notB_sin (by omega)).2 k))
    · have : hi = lo + 1 := by omega
      subst this
      refine ⟨h4, h0, by omega, ?_⟩
      rcases h5 with h | h
      · left; omega
      · right; exact h
theorem notB_0 {y x : Int} (hy : 0 ≤ y) : notB y x 0 := by
  unfold notB
  rw [show quarF 0 = 0 by decide +kernel, show quarF (1073741824 - 0) = 1073741824 by decide +kernel]
  omega
theorem oct_spec {y x : Int} (hy : 0 ≤ y) (hx : 0 ≤ x) : notB y x (octA y x) ∧ 0 ≤ octA y x ∧ octA y x ≤ 536870912 ∧ (octA y x = 536870912 ∨ ¬ notB y x (octA y x + 1)) :=
  octF_spec hy hx 30 0 536870913 (by decide) (by decide) (by decide) (by decide) (notB_0 hy) (.inl rfl)
theorem oct_iff {y x a : Int} (hy : 0 ≤ y) (hx : 0 ≤ x) (h : 0 ≤ a ∧ a ≤ 536870912) : notB y x a ↔ a ≤ octA y x := by
  obtain ⟨s1, s2, s3, s4⟩ := oct_spec hy hx
  constructor
  · intro g
    refine Decidable.byContradiction fun hlt => ?_
    rcases s4 with h' | h'
    · omega
    · refine h' (notB_le hy hx (a - (octA y x + 1)).toNat _ (by omega) (by omega) ?_)
      rwa [show octA y x + 1 + ((a - (octA y x + 1)).toNat : Nat) = a by omega]
  · intro g
    refine notB_le hy hx (octA y x - a).toNat _ (by omega) (by omega) ?_
    rwa [show a + ((octA y x - a).toNat : Nat) = octA y x by omega]
end Go.Proofs.YtciigfeecmnghaaRRRRGreatRR.Sv
