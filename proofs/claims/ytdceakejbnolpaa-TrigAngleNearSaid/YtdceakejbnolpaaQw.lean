/- The angle of a direction lies within 2 units of the real one: the plain law. No condition. -/
import Derived.Test.YtdceakejbnolpaaQu
namespace Go.Proofs.Ytdceakejbnolpaa.Sv
open Go Go.RowKit
set_option linter.unusedVariables false
set_option linter.unusedSimpArgs false
set_option maxRecDepth 100000


theorem join2 {l r : Int} {S T U : Rat} (h2 : -5 ≤ (l : Rat) - 1152921504606846976 * S ∧ (l : Rat) - 1152921504606846976 * S ≤ 5) (h3 : -(1 / 10000000000000 : Rat) ≤ S - T ∧ S - T ≤ 1 / 10000000000000)
    (h4 : -(100 / 1152921504606846976 : Rat) ≤ T - U ∧ T - U ≤ 100 / 1152921504606846976) (h5 : -(1 / 10000000000000000000 : Rat) * 1427247692705959881058285969449495136382746624 ≤ (r : Rat) - 1427247692705959881058285969449495136382746624 * U ∧ (r : Rat) - 1427247692705959881058285969449495136382746624 * U ≤ (1 / 10000000000000000000 : Rat) * 1427247692705959881058285969449495136382746624) :
    (l - 120000) * 1427247692705959881058285969449495136382746624 ≤ r * 1152921504606846976 ∧ r * 1152921504606846976 ≤ (l + 120000) * 1427247692705959881058285969449495136382746624 := by
  have eB : ((1427247692705959881058285969449495136382746624 : Int) : Rat) = (1427247692705959881058285969449495136382746624 : Rat) := rfl
  have eE : ((1152921504606846976 : Int) : Rat) = (1152921504606846976 : Rat) := rfl
  have eH : ((120000 : Int) : Rat) = (120000 : Rat) := rfl
  constructor
  · refine Rat.intCast_le_intCast.1 ?_
    rw [Rat.intCast_mul, Rat.intCast_sub, Rat.intCast_mul, eB, eE, eH]
    generalize (l : Rat) = L at *
    generalize (r : Rat) = R at *
    grind
  · refine Rat.intCast_le_intCast.1 ?_
    rw [Rat.intCast_mul, Rat.intCast_mul, Rat.intCast_add, eB, eE, eH]
    generalize (l : Rat) = L at *
    generalize (r : Rat) = R at *
    grind
theorem low_real {t : Int} (h : 0 ≤ t ∧ t ≤ 536870912) : (lowF t - 120000) * 1427247692705959881058285969449495136382746624 ≤ realS t * 1152921504606846976 ∧ realS t * 1152921504606846976 ≤ (lowF t + 120000) * 1427247692705959881058285969449495136382746624 := by
  obtain ⟨y0, y1, ym, v0, v1⟩ := qY_in h
  obtain ⟨x0, x1, xm⟩ := rX_in (t := t) ⟨h.1, by omega⟩
  have b1 : bnd (subP (sinL 7 1) (sinL 12 1)) (7855 / 10000) ≤ 1 / 10000000000000 := by decide +kernel
  have b2 : 2 / 1152921504606846976 * lip (sinL 12 1) 2 ≤ 100 / 1152921504606846976 := by decide +kernel
  have n1 := ev_near (x := qY t) (R := 7855 / 10000) ⟨by grind, y1⟩ b1
  have n2 := ev_lip (a := qY t) (b := rX t) (R := 2) ⟨by grind, by grind⟩ ⟨by grind, by grind⟩ (place_low h) (sinL 12 1)
  exact join2 (low_near h) n1 ⟨by grind, by grind⟩ (realS_near ⟨h.1, by omega⟩)
theorem high_real {t : Int} (h : 0 ≤ t ∧ t ≤ 536870912) : (highF t - 120000) * 1427247692705959881058285969449495136382746624 ≤ realS (1073741824 - t) * 1152921504606846976 ∧ realS (1073741824 - t) * 1152921504606846976 ≤ (highF t + 120000) * 1427247692705959881058285969449495136382746624 := by
  obtain ⟨y0, y1, ym, v0, v1⟩ := qY_in (t := t) ⟨h.1, by omega⟩
  obtain ⟨x0, x1, xm⟩ := rX_in (t := 1073741824 - t) ⟨by omega, by omega⟩
  have b1 : bnd (subP (cosL 8 0) (compP (1811004864519280710 / 1152921504606846976) (sinL 12 1))) (7855 / 10000) ≤ 1 / 10000000000000 := by decide +kernel
  have b2 : 3 / 1152921504606846976 * lip (sinL 12 1) 2 ≤ 100 / 1152921504606846976 := by decide +kernel
  have n1 := ev_near (x := qY t) (R := 7855 / 10000) ⟨by grind, y1⟩ b1
  rw [ev_comp] at n1
  have hp : (1811004864519280710 / 1152921504606846976 : Rat) ≤ 16 / 10 := by decide +kernel
  have hp0 : (0 : Rat) ≤ 1811004864519280710 / 1152921504606846976 := by decide +kernel
  have pl := place_high (t := t) ⟨h.1, by omega⟩
  generalize (1811004864519280710 / 1152921504606846976 : Rat) = P at *
  have n2 := ev_lip (a := P - qY t) (b := rX (1073741824 - t)) (R := 2) ⟨by grind, by grind⟩ ⟨by grind, by grind⟩ pl (sinL 12 1)
  exact join2 (high_near ⟨h.1, by omega⟩) n1 ⟨by grind, by grind⟩ (realS_near ⟨by omega, by omega⟩)
theorem high_pos {t : Int} (h : 0 ≤ t ∧ t ≤ 536870912) : 700000000000000000 ≤ highF t := by
  have x0 := quarX_in h
  unfold highF
  have u0 := sq_le x0
  have := (ser_mono u0.1 (Int.le_refl _) u0.2 (l := highs) (s := 1152921504606846976) (s' := 1152921504606846976) (by decide) (by decide) (by decide) (by decide) (by omega)).1
  omega
theorem side_pos {x y s c l h q q' : Int} (hx : 0 < x) (hy : 0 ≤ y) (hyx : y ≤ x) (hs : (l - 120000) * 1427247692705959881058285969449495136382746624 ≤ s * 1152921504606846976) (hc : c * 1152921504606846976 ≤ (h + 120000) * 1427247692705959881058285969449495136382746624)
    (hl : q * 1073741824 - 536870912 + 1150000000 ≤ l) (hh : h ≤ q' * 1073741824 + 536870912) (hq : q' * y < q * x) : y * c < x * s := by
  have s1 : (q * 1073741824 + 613009088) * 1427247692705959881058285969449495136382746624 ≤ s * 1152921504606846976 := by omega
  have c1 : c * 1152921504606846976 ≤ (q' * 1073741824 + 536990912) * 1427247692705959881058285969449495136382746624 := by omega
  have m1 := Int.mul_le_mul_of_nonneg_right s1 (show 0 ≤ x by omega)
  have m2 := Int.mul_le_mul_of_nonneg_right c1 hy
  have e1 : (q * 1073741824 + 613009088) * 1427247692705959881058285969449495136382746624 * x = (q * x) * (1073741824 * 1427247692705959881058285969449495136382746624) + x * (613009088 * 1427247692705959881058285969449495136382746624) := by grind
  have e2 : (q' * 1073741824 + 536990912) * 1427247692705959881058285969449495136382746624 * y = (q' * y) * (1073741824 * 1427247692705959881058285969449495136382746624) + y * (536990912 * 1427247692705959881058285969449495136382746624) := by grind
  have e3 : s * 1152921504606846976 * x = x * s * 1152921504606846976 := by grind
  have e4 : c * 1152921504606846976 * y = y * c * 1152921504606846976 := by grind
  rw [e1, e3] at m1
  rw [e2, e4] at m2
  generalize q * x = A at *
  generalize q' * y = C at *
  generalize x * s = F at *
  generalize y * c = G at *
  omega
theorem side_neg {x y s c l h q q' : Int} (hx : 0 < x) (hy : 0 ≤ y) (hyx : y ≤ x) (hs : s * 1152921504606846976 ≤ (l + 120000) * 1427247692705959881058285969449495136382746624) (hc : (h - 120000) * 1427247692705959881058285969449495136382746624 ≤ c * 1152921504606846976)
    (hl : l + 2300000000 ≤ q * 1073741824 + 536870912) (hh : q' * 1073741824 - 536870912 ≤ h) (hq : q * x ≤ q' * y) : x * s < y * c := by
  have s1 : s * 1152921504606846976 ≤ (q * 1073741824 - 1700000000) * 1427247692705959881058285969449495136382746624 := by omega
  have c1 : (q' * 1073741824 - 537000000) * 1427247692705959881058285969449495136382746624 ≤ c * 1152921504606846976 := by omega
  have m1 := Int.mul_le_mul_of_nonneg_right s1 (show 0 ≤ x by omega)
  have m2 := Int.mul_le_mul_of_nonneg_right c1 hy
  have e1 : (q * 1073741824 - 1700000000) * 1427247692705959881058285969449495136382746624 * x = (q * x) * (1073741824 * 1427247692705959881058285969449495136382746624) - x * (1700000000 * 1427247692705959881058285969449495136382746624) := by grind
  have e2 : (q' * 1073741824 - 537000000) * 1427247692705959881058285969449495136382746624 * y = (q' * y) * (1073741824 * 1427247692705959881058285969449495136382746624) - y * (537000000 * 1427247692705959881058285969449495136382746624) := by grind
  have e3 : s * 1152921504606846976 * x = x * s * 1152921504606846976 := by grind
  have e4 : c * 1152921504606846976 * y = y * c * 1152921504606846976 := by grind
  rw [e1, e3] at m1
  rw [e2, e4] at m2
  generalize q * x = A at *
  generalize q' * y = C at *
  generalize x * s = F at *
  generalize y * c = G at *
  omega
/-! ### The real sine's turns -/
theorem realF_mod {a b : Int} (h : a % 4294967296 = b % 4294967296) : realF a = realF b := by unfold realF; rw [h]
theorem realS_0 : realS 0 = 0 := by decide +kernel
theorem realF_q {a : Int} (h : 0 ≤ a ∧ a ≤ 1073741824) : realF a = realS a := by
  unfold realF foldR
  rw [Int.emod_eq_of_lt (by omega) (by omega), if_neg (by omega), if_neg (by omega)]
theorem realF_half (a : Int) : realF (a + 2147483648) = -realF a := by
  have hr : 0 ≤ a % 4294967296 ∧ a % 4294967296 < 4294967296 := by omega
  have e : (a + 2147483648) % 4294967296 = if a % 4294967296 < 2147483648 then a % 4294967296 + 2147483648 else a % 4294967296 - 2147483648 := by split <;> omega
  unfold realF
  rw [e]
  generalize a % 4294967296 = r at *
  by_cases h0 : r = 0
  · subst h0; decide +kernel
  by_cases h1 : r < 2147483648
  · rw [if_pos h1, if_pos (by omega), if_neg (by omega), show r + 2147483648 - 2147483648 = r by omega]
  · rw [if_neg h1, if_neg (by omega)]
    by_cases h2 : r = 2147483648
    · subst h2; decide +kernel
    · rw [if_pos (by omega)]; omega
theorem realF_neg (a : Int) : realF (-a) = -realF a := by
  have hr : 0 ≤ a % 4294967296 ∧ a % 4294967296 < 4294967296 := by omega
  have e : (-a) % 4294967296 = if a % 4294967296 = 0 then 0 else 4294967296 - a % 4294967296 := by split <;> omega
  unfold realF
  rw [e]
  generalize a % 4294967296 = r at *
  by_cases h0 : r = 0
  · subst h0; decide +kernel
  rw [if_neg h0]
  by_cases h2 : r = 2147483648
  · subst h2; decide +kernel
  have f : ∀ z : Int, 0 < z → z < 2147483648 → foldR (2147483648 - z) = foldR z := fun z h1 h2 => by unfold foldR; split <;> split <;> omega
  by_cases h1 : r < 2147483648
  · rw [if_pos (by omega), if_neg (by omega), show 4294967296 - r - 2147483648 = 2147483648 - r by omega, f r (by omega) h1]
  · rw [if_neg (by omega), if_pos (by omega)]
    have := f (r - 2147483648) (by omega) (by omega)
    rw [show 2147483648 - (r - 2147483648) = 4294967296 - r by omega] at this
    rw [this]; omega
/-- The side of the direction (x, y) on which the angle b lies. -/
def sideF (x y b : Int) : Int := x * realF b - y * realF (b + 1073741824)
theorem cos_neg (b : Int) : realF (-b + 1073741824) = realF (b + 1073741824) := by
  have h1 := realF_half (-b - 1073741824)
  have h2 := realF_neg (b + 1073741824)
  rw [show -b - 1073741824 + 2147483648 = -b + 1073741824 by omega] at h1
  rw [show -(b + 1073741824) = -b - 1073741824 by omega] at h2
  omega
theorem side_mod {x y a b : Int} (h : a % 4294967296 = b % 4294967296) : sideF x y a = sideF x y b := by
  unfold sideF
  rw [realF_mod h, realF_mod (a := a + 1073741824) (b := b + 1073741824) (by omega)]
theorem side_flip (x y b : Int) : sideF x y (-b) = -sideF x (-y) b := by
  unfold sideF
  rw [realF_neg, cos_neg, Int.mul_neg, Int.neg_mul]
  omega
theorem side_half (x y b : Int) : sideF x y (2147483648 - b) = -sideF (-x) y b := by
  unfold sideF
  have h1 := realF_half (-b)
  have h2 := realF_half (-b + 1073741824)
  rw [cos_neg] at h2
  rw [realF_neg] at h1
  rw [show 2147483648 - b = -b + 2147483648 by omega, h1, show -b + 2147483648 + 1073741824 = -b + 1073741824 + 2147483648 by omega, h2]
  simp only [Int.neg_mul, Int.mul_neg]
  omega
theorem side_quart (x y b : Int) : sideF x y (1073741824 - b) = -sideF y x b := by
  unfold sideF
  have h1 := cos_neg b
  have h2 := realF_half (-b)
  rw [realF_neg, Int.neg_neg] at h2
  rw [show 1073741824 - b = -b + 1073741824 by omega, h1, show -b + 1073741824 + 1073741824 = -b + 2147483648 by omega, h2]
  omega
theorem side_q {x y b : Int} (h : 0 ≤ b ∧ b ≤ 1073741824) : sideF x y b = x * realS b - y * realS (1073741824 - b) := by
  have h1 := cos_neg (-b)
  rw [Int.neg_neg] at h1
  unfold sideF
  rw [realF_q h, h1, realF_q (a := -b + 1073741824) (by omega), show -b + 1073741824 = 1073741824 - b by omega]
/-- The law for a direction in the first eighth. -/
theorem oct_near {y x : Int} (hx : 0 < x) (hy : 0 ≤ y) (hyx : y ≤ x) : 0 < sideF x y (octA y x + 2) ∧ sideF x y (octA y x - 2) < 0 := by
  obtain ⟨s1, s2, s3, s4⟩ := oct_spec hy (show 0 ≤ x by omega)
  generalize octA y x = a at *
  constructor
  · rw [side_q (by omega)]
    have ev : ∀ b : Int, (b = 536870913 ∨ b = 536870914) → 0 ≤ realS (1073741824 - b) ∧ realS (1073741824 - b) < realS b := fun b hb => by rcases hb with rfl | rfl <;> decide +kernel
    by_cases h : a < 536870911
    · rcases s4 with s4 | s4
      · omega
      have l1 := low_step (t := a + 1) (by omega)
      have h1 := high_step (t := a + 1) (by omega)
      have r1 := low_real (t := a + 2) (by omega)
      have r2 := high_real (t := a + 2) (by omega)
      rw [show a + 1 + 1 = a + 2 by omega] at l1 h1
      unfold notB at s4
      rw [quarF_low (by omega), quarF_high (by omega)] at s4
      have := side_pos (q := (lowF (a + 1) + 536870912) / 1073741824) (q' := (highF (a + 1) + 536870912) / 1073741824) hx hy hyx r1.1 r2.2 (by omega) (by omega) (by omega)
      omega
    · have e := ev (a + 2) (by omega)
      have m1 := Int.mul_le_mul_of_nonneg_right hyx e.1
      have m2 := Int.mul_lt_mul_of_pos_left e.2 hx
      omega
  · by_cases h : 2 ≤ a
    · rw [side_q (by omega)]
      have l1 := low_step (t := a - 1) (by omega)
      have l2 := low_step (t := a - 2) (by omega)
      have h1 := high_step (t := a - 1) (by omega)
      have h2 := high_step (t := a - 2) (by omega)
      have r1 := low_real (t := a - 2) (by omega)
      have r2 := high_real (t := a - 2) (by omega)
      rw [show a - 1 + 1 = a by omega] at l1 h1
      rw [show a - 2 + 1 = a - 1 by omega] at l2 h2
      have n : (lowF a + 536870912) / 1073741824 * x ≤ (highF a + 536870912) / 1073741824 * y := by
        have e1 := quarF_low (t := a) (by omega)
        have e2 : quarF (1073741824 - a) = (highF a + 536870912) / 1073741824 := by
          by_cases g : a < 536870912
          · exact quarF_high g
          · obtain rfl : a = 536870912 := by omega
            decide +kernel
        rw [← e1, ← e2]; exact s1
      have := side_neg (q := (lowF a + 536870912) / 1073741824) (q' := (highF a + 536870912) / 1073741824) hx hy hyx r1.2 r2.1 (by omega) (by omega) n
      omega
    · have ev : ∀ b : Int, (b = 1 ∨ b = 2) → 0 ≤ realS (1073741824 - b) ∧ 0 < realS b := fun b hb => by rcases hb with rfl | rfl <;> decide +kernel
      have e := ev (2 - a) (by omega)
      have f := side_flip x y (2 - a)
      rw [show -(2 - a) = a - 2 by omega] at f
      rw [f, side_q (by omega)]
      have m1 := Int.mul_nonneg hy e.1
      have m2 := Int.mul_pos hx e.2
      rw [Int.neg_mul]
      omega
theorem angle_near {y x : Int} (h : ¬(x = 0 ∧ y = 0)) : 0 < sideF x y (atanF y x + 2) ∧ sideF x y (atanF y x - 2) < 0 := by
  -- the first quarter
  have q1 : ∀ v u : Int, 0 ≤ v → 0 ≤ u → ¬(u = 0 ∧ v = 0) → ∀ a, a = (if v ≤ u then octA v u else 1073741824 - octA u v) → 0 < sideF u v (a + 2) ∧ sideF u v (a - 2) < 0 := fun v u hv hu hn a ha => by
    by_cases g : v ≤ u
    · rw [if_pos g] at ha
      subst ha
      exact oct_near (by omega) hv g
    · rw [if_neg g] at ha
      have := oct_near (y := u) (x := v) (by omega) hu (by omega)
      have f1 := side_quart u v (octA u v - 2)
      have f2 := side_quart u v (octA u v + 2)
      rw [show 1073741824 - (octA u v - 2) = a + 2 by omega] at f1
      rw [show 1073741824 - (octA u v + 2) = a - 2 by omega] at f2
      omega
  -- the upper half
  have q2 : ∀ v x : Int, 0 ≤ v → ¬(x = 0 ∧ v = 0) → ∀ b a, a = (if v ≤ x.natAbs then octA v x.natAbs else 1073741824 - octA x.natAbs v) → b = (if x < 0 then 2147483648 - a else a) → 0 < sideF x v (b + 2) ∧ sideF x v (b - 2) < 0 := fun v x hv hn b a ha hb => by
    have q := q1 v x.natAbs hv (by omega) (by omega) a ha
    by_cases g : x < 0
    · rw [if_pos g] at hb
      have f1 := side_half x v (a - 2)
      have f2 := side_half x v (a + 2)
      rw [show 2147483648 - (a - 2) = b + 2 by omega, show -x = (x.natAbs : Int) by omega] at f1
      rw [show 2147483648 - (a + 2) = b - 2 by omega, show -x = (x.natAbs : Int) by omega] at f2
      omega
    · rw [if_neg g] at hb
      subst hb
      rw [show (x.natAbs : Int) = x by omega] at q
      exact q
  obtain ⟨a, ha⟩ : ∃ a, a = (if (y.natAbs : Int) ≤ x.natAbs then octA y.natAbs x.natAbs else 1073741824 - octA x.natAbs y.natAbs) := ⟨_, rfl⟩
  obtain ⟨b, hb⟩ : ∃ b, b = (if x < 0 then 2147483648 - a else a) := ⟨_, rfl⟩
  have q := q2 y.natAbs x (by omega) (by omega) b a ha hb
  have eF : atanF y x = (if y < 0 then 4294967296 - b else b) % 4294967296 := by rw [hb, ha]; rfl
  by_cases g : y < 0
  · rw [if_pos g] at eF
    have f1 := side_flip x y (b - 2)
    have f2 := side_flip x y (b + 2)
    rw [show -y = (y.natAbs : Int) by omega] at f1 f2
    rw [side_mod (a := atanF y x + 2) (b := -(b - 2)) (by omega), side_mod (a := atanF y x - 2) (b := -(b + 2)) (by omega)]
    omega
  · rw [if_neg g] at eF
    rw [show (y.natAbs : Int) = y by omega] at q
    rw [side_mod (a := atanF y x + 2) (b := b + 2) (by omega), side_mod (a := atanF y x - 2) (b := b - 2) (by omega)]
    exact q
end Go.Proofs.Ytdceakejbnolpaa.Sv
