/- The point of a sine and a cosine lies, made a little shorter, within the circle. No condition. -/
import Derived.Test.YtciigfeecmnghaaRRRRGreatRRQu
namespace Go.Proofs.YtciigfeecmnghaaRRRRGreatRR.Sv
open Go Go.RowKit
set_option linter.unusedVariables false
set_option linter.unusedSimpArgs false
set_option maxRecDepth 100000

def mulP : List Rat → List Rat → List Rat
  | [], _ => []
  | c :: p, q => addP (scaP c q) (0 :: mulP p q)
theorem ev_mul (x : Rat) (q : List Rat) : ∀ p : List Rat, ev (mulP p q) x = ev p x * ev q x
  | [] => by simp only [mulP, ev]; grind
  | c :: p => by simp only [mulP, ev_add, ev_sca, ev, ev_mul x q p]; grind
theorem circ_poly {Y : Rat} (h : 0 ≤ Y ∧ Y ≤ 7855 / 10000) : ev (sinL 7 1) Y * ev (sinL 7 1) Y + ev (cosL 8 0) Y * ev (cosL 8 0) Y ≤ 1 + 1 / 100000000000 ∧ 2 / 3 ≤ ev (cosL 8 0) Y ∧ -(1 / 1000) ≤ ev (sinL 7 1) Y := by
  have b1 : bnd (subP (addP (mulP (sinL 7 1) (sinL 7 1)) (mulP (cosL 8 0) (cosL 8 0))) [1]) (7855 / 10000) ≤ 1 / 100000000000 := by decide +kernel
  have b2 : bnd (subP (cosL 8 0) [1]) (7855 / 10000) ≤ 1 / 3 := by decide +kernel
  have b3 : bnd (subP (sinL 7 1).tail [1]) (7855 / 10000) ≤ 1 / 2 := by decide +kernel
  have hx : -(7855 / 10000 : Rat) ≤ Y ∧ Y ≤ 7855 / 10000 := ⟨by grind, h.2⟩
  have n1 := ev_near hx b1
  have n2 := ev_near hx b2
  have n3 := ev_near hx b3
  rw [ev_add, ev_mul, ev_mul] at n1
  have e1 : ev [1] Y = 1 := by simp only [ev]; grind
  rw [e1] at n1 n2 n3
  have e3 : ev (sinL 7 1) Y = Y * ev (sinL 7 1).tail Y := by
    show ev (0 :: (sinL 7 1).tail) Y = _
    rw [ev]; grind
  have m := Rat.mul_nonneg h.1 (show 0 ≤ ev (sinL 7 1).tail Y by grind)
  rw [← e3] at m
  refine ⟨by grind, by grind, by grind⟩
theorem circ_0 {t : Int} (h : 0 ≤ t ∧ t < 536870912) (hS : 1 ≤ quarF t) (hC : 1 ≤ quarF (1073741824 - t)) : (quarF t - 1) * (quarF t - 1) + (quarF (1073741824 - t) - 1) * (quarF (1073741824 - t) - 1) ≤ 1152921504606846976 := by
  have e1 := quarF_low (t := t) (by omega)
  have e2 := quarF_high (t := t) h.2
  have l1 := low_near (t := t) ⟨h.1, by omega⟩
  have l2 := high_near (t := t) ⟨h.1, by omega⟩
  have yy := qY_in (t := t) ⟨h.1, by omega⟩
  obtain ⟨c1, c2, c3⟩ := circ_poly ⟨yy.1, yy.2.1⟩
  obtain ⟨S, gS⟩ : ∃ S, S = quarF t - 1 := ⟨_, rfl⟩
  obtain ⟨C, gC⟩ : ∃ C, C = quarF (1073741824 - t) - 1 := ⟨_, rfl⟩
  rw [← gS, ← gC]
  have s1 : S * 1073741824 ≤ lowF t - 536870912 := by omega
  have s2 : C * 1073741824 ≤ highF t - 536870912 := by omega
  have s1' : (S : Rat) * 1073741824 ≤ (lowF t : Rat) - 536870912 := by
    have := Rat.intCast_le_intCast.2 s1
    simpa [Rat.intCast_mul, Rat.intCast_sub] using this
  have s2' : (C : Rat) * 1073741824 ≤ (highF t : Rat) - 536870912 := by
    have := Rat.intCast_le_intCast.2 s2
    simpa [Rat.intCast_mul, Rat.intCast_sub] using this
  have p1 : (0 : Rat) ≤ S := by have := Rat.intCast_le_intCast.2 (show 0 ≤ S by omega); simpa using this
  have p2 : (0 : Rat) ≤ C := by have := Rat.intCast_le_intCast.2 (show 0 ≤ C by omega); simpa using this
  have goal : (S : Rat) * S + C * C ≤ 1152921504606846976 := by
    generalize (S : Rat) = s at *
    generalize (C : Rat) = c at *
    generalize (lowF t : Rat) = l at *
    generalize (highF t : Rat) = g at *
    generalize ev (sinL 7 1) (qY t) = P at *
    generalize ev (cosL 8 0) (qY t) = Q at *
    have k1 : s ≤ 1073741824 * (P - 1 / 4294967296) := by grind
    have k2 : c ≤ 1073741824 * (Q - 1 / 4294967296) := by grind
    have q1 : 0 ≤ P - 1 / 4294967296 := by grind
    have m1 := Rat.mul_le_mul_of_nonneg_left k1 p1
    have m2 := Rat.mul_le_mul_of_nonneg_left k2 p2
    have m3 := Rat.mul_le_mul_of_nonneg_right k1 q1
    have m4 := Rat.mul_le_mul_of_nonneg_right k2 (show 0 ≤ Q - 1 / 4294967296 by grind)
    grind
  have e : ((S * S + C * C : Int) : Rat) ≤ ((1152921504606846976 : Int) : Rat) := by
    rw [Rat.intCast_add, Rat.intCast_mul, Rat.intCast_mul]; exact goal
  exact Rat.intCast_le_intCast.1 e
/-- Nearer to 0 by 1. -/
def shr (v : Int) : Int := if v > 0 then v - 1 else if v < 0 then v + 1 else 0
theorem shr_neg (v : Int) : shr (-v) = -shr v := by unfold shr; split <;> (try split) <;> (try split) <;> omega
theorem shr_sq {v : Int} (h : -1073741824 ≤ v ∧ v ≤ 1073741824) : shr v * shr v ≤ 1152921504606846976 := by
  have : -1073741824 ≤ shr v ∧ shr v ≤ 1073741824 := by unfold shr; split <;> (try split) <;> omega
  have a := Int.mul_nonneg (show 0 ≤ 1073741824 - shr v by omega) (show 0 ≤ 1073741824 + shr v by omega)
  grind
theorem circ_low {t : Int} (h : 0 ≤ t ∧ t < 536870912) : shr (quarF t) * shr (quarF t) + shr (quarF (1073741824 - t)) * shr (quarF (1073741824 - t)) ≤ 1152921504606846976 := by
  have i1 := quarF_in (t := t) (by omega)
  have i2 := quarF_in (t := 1073741824 - t) (by omega)
  by_cases hS : 1 ≤ quarF t
  · by_cases hC : 1 ≤ quarF (1073741824 - t)
    · have := circ_0 h hS hC
      rw [shr, if_pos (by omega), shr, if_pos (by omega)]
      exact this
    · have e : quarF (1073741824 - t) = 0 := by omega
      have := shr_sq (v := quarF t) (by omega)
      rw [e]
      simpa [shr] using this
  · have e : quarF t = 0 := by omega
    have := shr_sq (v := quarF (1073741824 - t)) (by omega)
    rw [e]
    simpa [shr] using this
theorem circ_q {t : Int} (h : 0 ≤ t ∧ t ≤ 1073741824) : shr (quarF t) * shr (quarF t) + shr (quarF (1073741824 - t)) * shr (quarF (1073741824 - t)) ≤ 1152921504606846976 := by
  by_cases h1 : t < 536870912
  · exact circ_low ⟨h.1, h1⟩
  by_cases h2 : t = 536870912
  · subst h2
    decide +kernel
  have := circ_low (t := 1073741824 - t) ⟨by omega, by omega⟩
  rw [show 1073741824 - (1073741824 - t) = t by omega] at this
  omega
theorem circ (a : Int) : shr (sinF a) * shr (sinF a) + shr (sinF (a + 1073741824)) * shr (sinF (a + 1073741824)) ≤ 1152921504606846976 := by
  obtain ⟨r, hr⟩ : ∃ r, r = a % 4294967296 := ⟨_, rfl⟩
  have hb : 0 ≤ r ∧ r < 4294967296 := by omega
  have q : ∀ t u v : Int, 0 ≤ t ∧ t ≤ 1073741824 → (u = quarF t ∨ u = -quarF t) → (v = quarF (1073741824 - t) ∨ v = -quarF (1073741824 - t)) → shr u * shr u + shr v * shr v ≤ 1152921504606846976 := by
    intro t u v ht hu hv
    have := circ_q ht
    rcases hu with rfl | rfl <;> rcases hv with rfl | rfl <;> (try simp only [shr_neg, Int.neg_mul_neg]) <;> exact this
  have z : quarF 0 = 0 := by decide +kernel
  by_cases h1 : r ≤ 1073741824
  · refine q r _ _ ⟨hb.1, h1⟩ (.inl ?_) (.inl ?_)
    · simp only [sinF, ← hr]; rw [if_pos h1]
    · have e : (a + 1073741824) % 4294967296 = r + 1073741824 := by omega
      simp only [sinF, e]
      by_cases h0 : r = 0
      · subst h0; rw [if_pos (by decide)]; rfl
      · rw [if_neg (by omega), if_pos (by omega), show 2147483648 - (r + 1073741824) = 1073741824 - r by omega]
  by_cases h2 : r ≤ 2147483648
  · refine q (2147483648 - r) _ _ ⟨by omega, by omega⟩ (.inl ?_) (.inr ?_)
    · simp only [sinF, ← hr]; rw [if_neg h1, if_pos h2]
    · have e : (a + 1073741824) % 4294967296 = r + 1073741824 := by omega
      simp only [sinF, e]
      rw [if_neg (by omega), if_neg (by omega), if_pos (by omega), show r + 1073741824 - 2147483648 = 1073741824 - (2147483648 - r) by omega]
  by_cases h3 : r ≤ 3221225472
  · refine q (r - 2147483648) _ _ ⟨by omega, by omega⟩ (.inr ?_) (.inr ?_)
    · simp only [sinF, ← hr]; rw [if_neg h1, if_neg h2, if_pos h3]
    · by_cases h4 : r = 3221225472
      · have e : (a + 1073741824) % 4294967296 = 0 := by omega
        simp only [sinF, e]
        rw [if_pos (by decide), h4]
        show quarF 0 = -quarF 0
        omega
      · have e : (a + 1073741824) % 4294967296 = r + 1073741824 := by omega
        simp only [sinF, e]
        rw [if_neg (by omega), if_neg (by omega), if_neg (by omega), show 4294967296 - (r + 1073741824) = 1073741824 - (r - 2147483648) by omega]
  · refine q (4294967296 - r) _ _ ⟨by omega, by omega⟩ (.inr ?_) (.inl ?_)
    · simp only [sinF, ← hr]; rw [if_neg h1, if_neg h2, if_neg h3]
    · have e : (a + 1073741824) % 4294967296 = r - 3221225472 := by omega
      simp only [sinF, e]
      rw [if_pos (by omega), show 1073741824 - (4294967296 - r) = r - 3221225472 by omega]
end Go.Proofs.YtciigfeecmnghaaRRRRGreatRR.Sv
