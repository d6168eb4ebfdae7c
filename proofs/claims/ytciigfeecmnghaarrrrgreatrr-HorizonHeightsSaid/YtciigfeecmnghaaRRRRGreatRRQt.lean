/- The program's sine lies within 0.51 units of the real sine. No condition. -/
import Derived.Test.YtciigfeecmnghaaRRRRGreatRRQs
import Derived.Test.YtciigfeecmnghaaRRRRGreatRRQd
namespace Go.Proofs.YtciigfeecmnghaaRRRRGreatRR.Sv
open Go Go.RowKit
set_option linter.unusedVariables false
set_option linter.unusedSimpArgs false
set_option maxRecDepth 100000


/-! ### The real side -/
theorem fac_ne (n : Nat) : (fac n : Rat) ≠ 0 := by
  have : 0 < fac n := by
    induction n with
    | zero => decide
    | succ n ih => exact Nat.mul_pos (by omega) ih
  intro h
  have h2 : fac n = 0 := by exact_mod_cast h
  omega
theorem serQ_ev (X : Rat) : ∀ (n k : Nat) (P : Rat), serQ (X * X) n k (P * X / (fac k : Rat)) = P * ev (sinL n k) X
  | 0, k, P => by simp only [serQ, sinL, ev]; grind
  | n + 1, k, P => by
    have hf := fac_ne k
    have e2 : (fac (k + 2) : Rat) = ((k + 1) * (k + 2) : Nat) * (fac k : Rat) := by
      rw [show fac (k + 2) = ((k + 1) * (k + 2)) * fac k by rw [Nat.mul_comm (k + 1) (k + 2), Nat.mul_assoc]; rfl]
      exact Rat.natCast_mul ..
    have hc : (((k + 1) * (k + 2) : Nat) : Rat) ≠ 0 := by
      intro h
      have h2 : (k + 1) * (k + 2) = 0 := by exact_mod_cast h
      simp at h2
    have hn : P * X / (fac k : Rat) * (X * X) / (((k + 1) * (k + 2) : Nat) : Rat) = (P * X * X) * X / (fac (k + 2) : Rat) := by
      rw [e2]
      generalize (((k + 1) * (k + 2) : Nat) : Rat) = c at *
      generalize (fac k : Rat) = f at *
      grind
    have ih := serQ_ev X n (k + 2) (P * X * X)
    rw [serQ, hn, ih]
    simp only [sinL, ev]
    generalize ev (sinL n (k + 2)) X = Z
    generalize (fac k : Rat) = f at *
    split <;> grind
theorem lastQ_le {v w : Rat} (hv : 0 ≤ v ∧ v ≤ w) : ∀ (n k : Nat) (y z : Rat), 0 ≤ y → y ≤ z → 0 ≤ lastQ v n k y ∧ lastQ v n k y ≤ lastQ w n k z
  | 0, k, y, z, h0, h1 => ⟨h0, h1⟩
  | n + 1, k, y, z, h0, h1 => by
    have hc : (0 : Rat) < (((k + 1) * (k + 2) : Nat) : Rat) := by
      have : 0 < (k + 1) * (k + 2) := Nat.mul_pos (by omega) (by omega)
      exact_mod_cast this
    simp only [lastQ]
    generalize (((k + 1) * (k + 2) : Nat) : Rat) = c at *
    have m1 := Rat.mul_nonneg h0 hv.1
    have m2 := Rat.mul_le_mul_of_nonneg_right h1 hv.1
    have m3 := Rat.mul_le_mul_of_nonneg_left hv.2 (show 0 ≤ z by grind)
    obtain ⟨p, hp⟩ : ∃ p, p = y * v / c := ⟨_, rfl⟩
    obtain ⟨q, hq⟩ : ∃ q, q = z * w / c := ⟨_, rfl⟩
    have hpc : p * c = y * v := by rw [hp]; grind
    have hqc : q * c = z * w := by rw [hq]; grind
    rw [← hp, ← hq]
    exact lastQ_le hv n (k + 2) p q (Rat.le_of_mul_le_mul_right (c := c) (by grind) hc) (Rat.le_of_mul_le_mul_right (c := c) (by grind) hc)
/-- The place on the circle, as a number of radians. -/
def rX (t : Int) : Rat := (realX t : Rat) / 1427247692705959881058285969449495136382746624
theorem rX_in {t : Int} (h : 0 ≤ t ∧ t ≤ 1073741824) : 0 ≤ rX t ∧ rX t ≤ 158 / 100 ∧ rX t * 1427247692705959881058285969449495136382746624 = (realX t : Rat) := by
  have hx := realX_in h
  have h1 : (0 : Rat) ≤ realX t := by exact_mod_cast hx.1
  have h2 : (realX t : Rat) ≤ ((2241915433129013145207424413937163636940505376 : Int) : Rat) := Rat.intCast_le_intCast.2 hx.2
  have e : ((2241915433129013145207424413937163636940505376 : Int) : Rat) = (2241915433129013145207424413937163636940505376 : Rat) := rfl
  rw [e] at h2
  have hm : rX t * 1427247692705959881058285969449495136382746624 = (realX t : Rat) := by unfold rX; grind
  refine ⟨?_, ?_, hm⟩ <;> grind
theorem realS_near {t : Int} (h : 0 ≤ t ∧ t ≤ 1073741824) : -(1 / 10000000000000000000 : Rat) * 1427247692705959881058285969449495136382746624 ≤ (realS t : Rat) - 1427247692705959881058285969449495136382746624 * ev (sinL 12 1) (rX t) ∧ (realS t : Rat) - 1427247692705959881058285969449495136382746624 * ev (sinL 12 1) (rX t) ≤ (1 / 10000000000000000000 : Rat) * 1427247692705959881058285969449495136382746624 := by
  obtain ⟨x0, x1, xm⟩ := rX_in h
  have hx := realX_in h
  have hu := realU_in h
  obtain ⟨X, hX⟩ : ∃ X, X = rX t := ⟨_, rfl⟩
  rw [← hX] at x0 x1 xm ⊢
  have sq := Rat.mul_le_mul_of_nonneg_left x1 x0
  have sq0 := Rat.mul_nonneg x0 x0
  have du := rfl_div (realX t * realX t) 1427247692705959881058285969449495136382746624 (by decide)
  rw [Rat.intCast_mul, ← xm] at du
  have eB : ((1427247692705959881058285969449495136382746624 : Int) : Rat) = (1427247692705959881058285969449495136382746624 : Rat) := rfl
  rw [eB] at du
  have hU : (realU t : Rat) ≤ 1427247692705959881058285969449495136382746624 * (X * X) ∧ 1427247692705959881058285969449495136382746624 * (X * X) - 1 ≤ (realU t : Rat) := by
    have eU : (realU t : Rat) = ((realX t * realX t / 1427247692705959881058285969449495136382746624 : Int) : Rat) := rfl
    rw [eU]
    generalize ((realX t * realX t / 1427247692705959881058285969449495136382746624 : Int) : Rat) = z at *
    constructor <;> grind
  have sn := serN_near hu hU ⟨sq0, by grind⟩ 140 12 1 (realX t) 0 X (by decide) hx.1 ⟨x0, by grind⟩ ⟨by grind, by grind⟩
  have eN : serN (realU t) (12 + 140) ((1 : Nat) : Int) (realX t) 0 = realS t := by
    unfold realS
    exact (serR_N hu 152 1 (realX t) 0 (by decide) hx.1).symm
  rw [eN] at sn
  have eQ := serQ_ev X 12 1 1
  have e1 : 1 * X / (fac 1 : Rat) = X := by
    have : (fac 1 : Rat) = 1 := rfl
    rw [this]; grind
  rw [e1] at eQ
  rw [eQ] at sn
  have lq := lastQ_le (v := X * X) (w := 5 / 2) ⟨sq0, by grind⟩ 12 1 X 2 x0 (by grind)
  have lv : lastQ (5 / 2) 12 1 2 ≤ 1 / 100000000000000000000 := by decide +kernel
  have e12 : ((12 : Nat) : Rat) = 12 := rfl
  have e0 : ((0 : Int) : Rat) = 0 := rfl
  rw [e12, e0] at sn
  generalize ev (sinL 12 1) X = Z at *
  generalize lastQ (X * X) 12 1 X = L at *
  generalize lastQ (5 / 2) 12 1 2 = L' at *
  generalize (realS t : Rat) = R at *
  constructor <;> grind
/-! ### The program's side -/
def serP (u : Rat) : List Int → Rat → Rat
  | [], s => s
  | k :: l, s => serP u l (1 - u * s / (k : Rat))
theorem serF_near {u : Int} {v : Rat} (hu : (u : Rat) ≤ 1152921504606846976 * v ∧ 1152921504606846976 * v - 1 ≤ u) (hu0 : 0 ≤ u) (hv : 0 ≤ v ∧ v ≤ 62 / 100) : ∀ (l : List Int) (s : Int) (z : Rat), (∀ k ∈ l, 2 ≤ k) → 0 ≤ z ∧ z ≤ 1 → 0 ≤ s ∧ s ≤ 1152921504606846976 → -4 ≤ (s : Rat) - 1152921504606846976 * z ∧ (s : Rat) - 1152921504606846976 * z ≤ 4 →
    -4 ≤ ((serF u l s : Int) : Rat) - 1152921504606846976 * serP v l z ∧ ((serF u l s : Int) : Rat) - 1152921504606846976 * serP v l z ≤ 4 ∧ 0 ≤ serP v l z ∧ serP v l z ≤ 1 ∧ 0 ≤ serF u l s ∧ serF u l s ≤ 1152921504606846976
  | [], s, z, _, hz, hs, h => ⟨h.1, h.2, hz.1, hz.2, hs⟩
  | k :: l, s, z, hl, hz, hs, h => by
    have hk := hl k (by simp)
    have hkq : (2 : Rat) ≤ (k : Rat) := by exact_mod_cast hk
    have hu1 : u ≤ 1152921504606846976 := by
      have h1 : (u : Rat) ≤ ((1152921504606846976 : Int) : Rat) := by
        have e : ((1152921504606846976 : Int) : Rat) = (1152921504606846976 : Rat) := rfl
        rw [e]; grind
      exact Rat.intCast_le_intCast.1 h1
    have st := ser_step ⟨hu0, hu1⟩ hs hk
    have d1 := rfl_div (u * s) 1152921504606846976 (by decide)
    have d2 := rfl_div (tms u s) k (by omega)
    rw [Rat.intCast_mul] at d1
    have eE : ((1152921504606846976 : Int) : Rat) = (1152921504606846976 : Rat) := rfl
    rw [eE] at d1
    have et : ((tms u s : Int) : Rat) = ((u * s / 1152921504606846976 : Int) : Rat) := rfl
    rw [et] at d2
    have hu' : (0 : Rat) ≤ u := by exact_mod_cast hu0
    have a1 := Rat.mul_le_mul_of_nonneg_left h.1 hu'
    have a2 := Rat.mul_le_mul_of_nonneg_left h.2 hu'
    have b1 := Rat.mul_le_mul_of_nonneg_right hu.1 hz.1
    have b2 := Rat.mul_le_mul_of_nonneg_right hu.2 hz.1
    have c1 := Rat.mul_nonneg hv.1 hz.1
    have c2 := Rat.mul_le_mul_of_nonneg_left hz.2 hv.1
    obtain ⟨q, hq⟩ : ∃ q, q = v * z / (k : Rat) := ⟨_, rfl⟩
    have hqk : q * (k : Rat) = v * z := by rw [hq]; grind
    have hd : ((1152921504606846976 - tms u s / k : Int) : Rat) = 1152921504606846976 - ((tms u s / k : Int) : Rat) := by rw [Rat.intCast_sub]; rfl
    have k0 : (0 : Rat) < (k : Rat) := by grind
    obtain ⟨w, hw⟩ : ∃ w, w = ((u * s / 1152921504606846976 : Int) : Rat) := ⟨_, rfl⟩
    obtain ⟨p, hp⟩ : ∃ p, p = ((tms u s / k : Int) : Rat) := ⟨_, rfl⟩
    rw [← hw] at d1 d2
    rw [← hp] at d2 hd
    have w1 : w ≤ 1152921504606846976 * (v * z) + 348 / 100 := Rat.le_of_mul_le_mul_right (c := 1152921504606846976) (by grind) (by decide)
    have w2 : 1152921504606846976 * (v * z) - 448 / 100 ≤ w := Rat.le_of_mul_le_mul_right (c := 1152921504606846976) (by grind) (by decide)
    have p1 : p ≤ 1152921504606846976 * q + 174 / 100 := Rat.le_of_mul_le_mul_right (c := (k : Rat)) (by grind) k0
    have p2 : 1152921504606846976 * q - 324 / 100 ≤ p := Rat.le_of_mul_le_mul_right (c := (k : Rat)) (by grind) k0
    have q0 : 0 ≤ q := Rat.le_of_mul_le_mul_right (c := (k : Rat)) (by grind) k0
    have q1 : q ≤ 1 := Rat.le_of_mul_le_mul_right (c := (k : Rat)) (by grind) k0
    have ih := serF_near hu hu0 hv l (1152921504606846976 - tms u s / k) (1 - q) (fun x hx => hl x (by simp [hx])) ⟨by grind, by grind⟩ ⟨by omega, by omega⟩ ⟨by grind, by grind⟩
    have eP : serP v (k :: l) z = serP v l (1 - q) := by rw [serP, ← hq]
    rw [eP]
    exact ih
theorem lows_ev (Y : Rat) : Y * serP (Y * Y) lows 1 = ev (sinL 7 1) Y := by
  simp only [lows, serP, sinL, ev, fac]
  simp
  grind
theorem highs_ev (Y : Rat) : serP (Y * Y) highs 1 = ev (cosL 8 0) Y := by
  simp only [highs, serP, cosL, ev, fac]
  simp
  grind
end Go.Proofs.YtciigfeecmnghaaRRRRGreatRR.Sv
