/- Sums of fractions: the plain law of the greatest divisors. No condition. -/
import Derived.Test.YtjeafcngljbdlaaWc
namespace Go.Proofs.Ytjeafcngljbdlaa.Sv
set_option linter.unusedVariables false
set_option linter.unusedSimpArgs false

theorem cop_dvd {k n m : Int} (h : Int.gcd k n = 1) (hd : k ∣ n * m) : k ∣ m := by
  have := Int.dvd_gcd_mul_iff_dvd_mul.2 hd
  rw [h] at this
  simpa using this
theorem gcd_one_of {k n : Int} (h : (Int.gcd k n : Int) ∣ 1) : Int.gcd k n = 1 := by
  have := Int.le_of_dvd (by decide) h
  have h3 : Int.gcd k n ≠ 0 := fun h0 => by rw [h0] at h; simp at h
  omega
/-- A divisor of one of two numbers without a common divisor has none with the other. -/
theorem cop_sub {k n m : Int} (h : Int.gcd n m = 1) (hk : k ∣ n) : Int.gcd k m = 1 := by
  refine gcd_one_of ?_
  have : (Int.gcd k m : Int) ∣ (Int.gcd n m : Int) := Int.dvd_coe_gcd (Int.dvd_trans (Int.gcd_dvd_left ..) hk) (Int.gcd_dvd_right ..)
  rw [h] at this
  exact this
/-- The numerator of a sum has no divisor in common with a denominator's own part. -/
theorem sum_cop {p r q' s' q : Int} (h1 : Int.gcd q' s' = 1) (h2 : Int.gcd p q = 1) (hq : q' ∣ q) : Int.gcd (p * s' + r * q') q' = 1 := by
  refine gcd_one_of ?_
  obtain ⟨c, hc⟩ : ∃ c : Int, c = (Int.gcd (p * s' + r * q') q' : Int) := ⟨_, rfl⟩
  have d1 : c ∣ p * s' + r * q' := by rw [hc]; exact Int.gcd_dvd_left ..
  have d2 : c ∣ q' := by rw [hc]; exact Int.gcd_dvd_right ..
  rw [← hc]
  have d3 : c ∣ p * s' := by
    have := Int.dvd_sub d1 (Int.dvd_trans d2 (Int.dvd_mul_left r q'))
    rwa [show p * s' + r * q' - r * q' = p * s' by omega] at this
  have d4 : Int.gcd c p = 1 := cop_sub (n := q) (by rw [Int.gcd_comm]; exact h2) (Int.dvd_trans d2 hq)
  have d5 : c ∣ s' := cop_dvd d4 d3
  have d6 : c ∣ (Int.gcd q' s' : Int) := Int.dvd_coe_gcd d2 d5
  rw [h1] at d6
  exact d6
/-- The greatest divisor of a sum of fractions p/(q'g) and r/(s'g). -/
theorem sum_gcd {p r q' s' g : Int} (h1 : Int.gcd q' s' = 1) (h2 : Int.gcd p (q' * g) = 1) (h3 : Int.gcd r (s' * g) = 1) :
    Int.gcd (p * s' + r * q') (q' * (s' * g)) = Int.gcd (p * s' + r * q') g := by
  have c1 := sum_cop (r := r) h1 h2 (Int.dvd_mul_right q' g)
  have c2 := sum_cop (p := r) (r := p) (q' := s') (s' := q') (by rw [Int.gcd_comm]; exact h1) h3 (Int.dvd_mul_right s' g)
  rw [Int.add_comm] at c2
  generalize p * s' + r * q' = t at *
  obtain ⟨e, he⟩ : ∃ e : Int, e = (Int.gcd t (q' * (s' * g)) : Int) := ⟨_, rfl⟩
  have e1 : e ∣ t := by rw [he]; exact Int.gcd_dvd_left ..
  have e2 : e ∣ q' * (s' * g) := by rw [he]; exact Int.gcd_dvd_right ..
  have e3 : e ∣ s' * g := cop_dvd (cop_sub c1 e1) e2
  have e4 : e ∣ g := cop_dvd (cop_sub c2 e1) e3
  have e5 : e ∣ (Int.gcd t g : Int) := Int.dvd_coe_gcd e1 e4
  have f1 : (Int.gcd t g : Int) ∣ e := by
    rw [he]
    exact Int.dvd_coe_gcd (Int.gcd_dvd_left ..) (Int.dvd_trans (Int.gcd_dvd_right ..) (Int.dvd_trans (Int.dvd_mul_left s' g) (Int.dvd_mul_left q' (s' * g))))
  rw [he] at e5 f1
  have e5' : Int.gcd t (q' * (s' * g)) ∣ Int.gcd t g := by exact_mod_cast e5
  have f1' : Int.gcd t g ∣ Int.gcd t (q' * (s' * g)) := by exact_mod_cast f1
  exact Nat.dvd_antisymm e5' f1'
/-- The sum in lowest terms. -/
theorem sum_low {p q r s g t h q' s' : Int} (hq : q = q' * g) (hs : s = s' * g) (hg : 0 < g) (h1 : Int.gcd q' s' = 1) (h2 : Int.gcd p q = 1) (h3 : Int.gcd r s = 1) (ht : t = p * s' + r * q') (hh : h = (Int.gcd t g : Int)) (hq0 : 0 < q) (hs0 : 0 < s) :
    0 < h ∧ (p * s + r * q) / (Int.gcd (p * s + r * q) (q * s) : Int) = t / h ∧ (q * s) / (Int.gcd (p * s + r * q) (q * s) : Int) = q' * (s / h) := by
  have e1 : p * s + r * q = g * t := by rw [hq, hs, ht]; grind
  have e2 : q * s = g * (q' * s) := by rw [hq]; grind
  have e3 : (Int.gcd (p * s + r * q) (q * s) : Int) = g * h := by
    have h4 := sum_gcd h1 (by rw [← hq]; exact h2) (by rw [← hs]; exact h3)
    rw [e1, e2, Int.gcd_mul_left, hh, hs, ht, h4]
    have : (g.natAbs : Int) = g := by omega
    rw [Int.natCast_mul, this]
  have h0 : 0 < h := by
    rw [hh]
    have := Int.gcd_pos_of_ne_zero_right t (show g ≠ 0 by omega)
    omega
  have hd : h ∣ s := by rw [hs, hh]; exact Int.dvd_trans (Int.gcd_dvd_right ..) (Int.dvd_mul_left ..)
  refine ⟨h0, ?_, ?_⟩
  · rw [e3, e1, Int.mul_ediv_mul_of_pos _ _ hg]
  · rw [e3, e2, Int.mul_ediv_mul_of_pos _ _ hg, Int.mul_ediv_assoc _ hd]
theorem cop_mul {a b c : Int} (h1 : Int.gcd c a = 1) (h2 : Int.gcd b c = 1) : Int.gcd (a * b) c = 1 := by
  refine gcd_one_of ?_
  have d1 : (Int.gcd (a * b) c : Int) ∣ b := cop_dvd (cop_sub h1 (Int.gcd_dvd_right ..)) (Int.gcd_dvd_left ..)
  have d2 : (Int.gcd (a * b) c : Int) ∣ (Int.gcd b c : Int) := Int.dvd_coe_gcd d1 (Int.gcd_dvd_right ..)
  rw [h2] at d2
  exact d2
/-- The product in lowest terms: p/q times r/s. -/
theorem mul_low {p q r s g h : Int} (hg : g = (Int.gcd p s : Int)) (hh : h = (Int.gcd r q : Int)) (h1 : Int.gcd p q = 1) (h2 : Int.gcd r s = 1) (hq : 0 < q) (hs : 0 < s) :
    0 < g ∧ 0 < h ∧ (p * r) / (Int.gcd (p * r) (q * s) : Int) = p / g * (r / h) ∧ (q * s) / (Int.gcd (p * r) (q * s) : Int) = q / h * (s / g) := by
  have g0 : 0 < g := by
    have := Int.gcd_pos_of_ne_zero_right p (show s ≠ 0 by omega)
    omega
  have h0 : 0 < h := by
    have := Int.gcd_pos_of_ne_zero_right r (show q ≠ 0 by omega)
    omega
  have gp : g ∣ p := by rw [hg]; exact Int.gcd_dvd_left ..
  have gs : g ∣ s := by rw [hg]; exact Int.gcd_dvd_right ..
  have hr : h ∣ r := by rw [hh]; exact Int.gcd_dvd_left ..
  have hq' : h ∣ q := by rw [hh]; exact Int.gcd_dvd_right ..
  have c1 : Int.gcd (p / g) (s / g) = 1 := by rw [hg]; exact Int.gcd_ediv_gcd_ediv_gcd (by omega)
  have c2 : Int.gcd (r / h) (q / h) = 1 := by rw [hh]; exact Int.gcd_ediv_gcd_ediv_gcd (by omega)
  have ep := Int.ediv_mul_cancel gp
  have es := Int.ediv_mul_cancel gs
  have er := Int.ediv_mul_cancel hr
  have eq := Int.ediv_mul_cancel hq'
  generalize p / g = p' at *
  generalize s / g = s' at *
  generalize r / h = r' at *
  generalize q / h = q' at *
  have pp : p' ∣ p := ⟨g, by omega⟩
  have rr : r' ∣ r := ⟨h, by omega⟩
  have qq : q' ∣ q := ⟨h, by omega⟩
  have ss : s' ∣ s := ⟨g, by omega⟩
  have c3 : Int.gcd q' p' = 1 := by
    have := cop_sub h1 pp
    rw [Int.gcd_comm] at this
    exact cop_sub this qq
  have c4 : Int.gcd r' s' = 1 := by
    have := cop_sub h2 rr
    rw [Int.gcd_comm] at this ⊢
    exact cop_sub this ss
  have c5 : Int.gcd (p' * r') q' = 1 := cop_mul c3 c2
  have c6 : Int.gcd (p' * r') s' = 1 := cop_mul (by rw [Int.gcd_comm]; exact c1) c4
  have c7 : Int.gcd (p' * r') (q' * s') = 1 := by
    rw [Int.gcd_comm]
    exact cop_mul c5 (by rw [Int.gcd_comm]; exact c6)
  have e1 : p * r = g * h * (p' * r') := by rw [← ep, ← er]; grind
  have e2 : q * s = g * h * (q' * s') := by rw [← eq, ← es]; grind
  have gh := Int.mul_pos g0 h0
  have e3 : (Int.gcd (p * r) (q * s) : Int) = g * h := by
    rw [e1, e2, Int.gcd_mul_left, c7]
    have : ((g * h).natAbs : Int) = g * h := by omega
    rw [Nat.mul_one, this]
  refine ⟨g0, h0, ?_, ?_⟩
  · rw [e3, e1, Int.mul_ediv_cancel_left _ (by omega)]
  · rw [e3, e2, Int.mul_ediv_cancel_left _ (by omega)]
end Go.Proofs.Ytjeafcngljbdlaa.Sv
