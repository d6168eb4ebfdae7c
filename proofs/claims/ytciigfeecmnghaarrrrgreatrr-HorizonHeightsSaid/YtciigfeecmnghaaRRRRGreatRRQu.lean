/- The program's sine lies within 0.51 units of the real sine: joined. No condition. -/
import Derived.Test.YtciigfeecmnghaaRRRRGreatRRQt
namespace Go.Proofs.YtciigfeecmnghaaRRRRGreatRR.Sv
open Go Go.RowKit
set_option linter.unusedVariables false
set_option linter.unusedSimpArgs false
set_option maxRecDepth 100000


def qY (t : Int) : Rat := (quarX t : Rat) / 1152921504606846976
theorem qY_in {t : Int} (h : 0 ≤ t ∧ t ≤ 536870912) : 0 ≤ qY t ∧ qY t ≤ 7855 / 10000 ∧ qY t * 1152921504606846976 = (quarX t : Rat) ∧ 0 ≤ qY t * qY t ∧ qY t * qY t ≤ 62 / 100 := by
  have hx := quarX_in h
  have h1 : (0 : Rat) ≤ quarX t := by exact_mod_cast hx.1
  have h2 : (quarX t : Rat) ≤ ((905502432259640355 : Int) : Rat) := Rat.intCast_le_intCast.2 hx.2
  have e : ((905502432259640355 : Int) : Rat) = (905502432259640355 : Rat) := rfl
  rw [e] at h2
  have hm : qY t * 1152921504606846976 = (quarX t : Rat) := by unfold qY; grind
  generalize qY t = Y at *
  have y0 : 0 ≤ Y := by grind
  have y1 : Y ≤ 7855 / 10000 := by grind
  have m := Rat.mul_le_mul_of_nonneg_left y1 y0
  have m0 := Rat.mul_nonneg y0 y0
  exact ⟨y0, y1, hm, m0, by grind⟩
theorem qU {t : Int} (h : 0 ≤ t ∧ t ≤ 536870912) : ((tms (quarX t) (quarX t) : Int) : Rat) ≤ 1152921504606846976 * (qY t * qY t) ∧ 1152921504606846976 * (qY t * qY t) - 1 ≤ ((tms (quarX t) (quarX t) : Int) : Rat) ∧ 0 ≤ tms (quarX t) (quarX t) := by
  obtain ⟨y0, y1, ym, _, _⟩ := qY_in h
  have d := rfl_div (quarX t * quarX t) 1152921504606846976 (by decide)
  rw [Rat.intCast_mul, ← ym] at d
  have eE : ((1152921504606846976 : Int) : Rat) = (1152921504606846976 : Rat) := rfl
  rw [eE] at d
  have eT : ((tms (quarX t) (quarX t) : Int) : Rat) = ((quarX t * quarX t / 1152921504606846976 : Int) : Rat) := rfl
  rw [eT]
  refine ⟨?_, ?_, (sq_le (quarX_in h)).1⟩ <;> generalize ((quarX t * quarX t / 1152921504606846976 : Int) : Rat) = z at * <;> grind
theorem low_near {t : Int} (h : 0 ≤ t ∧ t ≤ 536870912) : -5 ≤ (lowF t : Rat) - 1152921504606846976 * ev (sinL 7 1) (qY t) ∧ (lowF t : Rat) - 1152921504606846976 * ev (sinL 7 1) (qY t) ≤ 5 := by
  obtain ⟨y0, y1, ym, v0, v1⟩ := qY_in h
  obtain ⟨u1, u2, u0⟩ := qU h
  have sn := serF_near ⟨u1, u2⟩ u0 ⟨v0, v1⟩ lows 1152921504606846976 1 (by decide) ⟨by decide, by decide⟩ ⟨by decide, by decide⟩ ⟨by decide +kernel, by decide +kernel⟩
  rw [← lows_ev]
  obtain ⟨s, hs⟩ : ∃ s, s = serF (tms (quarX t) (quarX t)) lows 1152921504606846976 := ⟨_, rfl⟩
  rw [← hs] at sn
  have d := rfl_div (quarX t * s) 1152921504606846976 (by decide)
  rw [Rat.intCast_mul, ← ym] at d
  have eE : ((1152921504606846976 : Int) : Rat) = (1152921504606846976 : Rat) := rfl
  rw [eE] at d
  have eL : (lowF t : Rat) = ((quarX t * s / 1152921504606846976 : Int) : Rat) := by rw [hs]; rfl
  rw [eL]
  generalize ((quarX t * s / 1152921504606846976 : Int) : Rat) = z at *
  generalize serP (qY t * qY t) lows 1 = P at *
  generalize qY t = Y at *
  have a1 := Rat.mul_le_mul_of_nonneg_left sn.1 y0
  have a2 := Rat.mul_le_mul_of_nonneg_left sn.2.1 y0
  constructor <;> grind
theorem high_near {t : Int} (h : 0 ≤ t ∧ t ≤ 536870912) : -5 ≤ (highF t : Rat) - 1152921504606846976 * ev (cosL 8 0) (qY t) ∧ (highF t : Rat) - 1152921504606846976 * ev (cosL 8 0) (qY t) ≤ 5 := by
  obtain ⟨y0, y1, ym, v0, v1⟩ := qY_in h
  obtain ⟨u1, u2, u0⟩ := qU h
  have sn := serF_near ⟨u1, u2⟩ u0 ⟨v0, v1⟩ highs 1152921504606846976 1 (by decide) ⟨by decide, by decide⟩ ⟨by decide, by decide⟩ ⟨by decide +kernel, by decide +kernel⟩
  rw [← highs_ev]
  have eL : (highF t : Rat) = ((serF (tms (quarX t) (quarX t)) highs 1152921504606846976 : Int) : Rat) := rfl
  rw [eL]
  constructor <;> grind
/-- How near the places are. -/
theorem place_low {t : Int} (h : 0 ≤ t ∧ t ≤ 536870912) : -(2 / 1152921504606846976 : Rat) ≤ qY t - rX t ∧ qY t - rX t ≤ 2 / 1152921504606846976 := by
  have h1 := (qY_in h).2.2.1
  have h2 := (rX_in (t := t) ⟨h.1, by omega⟩).2.2
  have hz : -(2 * 1427247692705959881058285969449495136382746624) ≤ quarX t * 1427247692705959881058285969449495136382746624 - realX t * 1152921504606846976 ∧ quarX t * 1427247692705959881058285969449495136382746624 - realX t * 1152921504606846976 ≤ 2 * 1427247692705959881058285969449495136382746624 := by
    unfold quarX realX
    omega
  have g1 : ((-(2 * 1427247692705959881058285969449495136382746624) : Int) : Rat) ≤ ((quarX t * 1427247692705959881058285969449495136382746624 - realX t * 1152921504606846976 : Int) : Rat) := Rat.intCast_le_intCast.2 hz.1
  have g2 : ((quarX t * 1427247692705959881058285969449495136382746624 - realX t * 1152921504606846976 : Int) : Rat) ≤ ((2 * 1427247692705959881058285969449495136382746624 : Int) : Rat) := Rat.intCast_le_intCast.2 hz.2
  rw [Rat.intCast_sub, Rat.intCast_mul, Rat.intCast_mul] at g1 g2
  have eE : ((1152921504606846976 : Int) : Rat) = (1152921504606846976 : Rat) := rfl
  have eB : ((1427247692705959881058285969449495136382746624 : Int) : Rat) = (1427247692705959881058285969449495136382746624 : Rat) := by decide +kernel
  have e1 : ((-(2 * 1427247692705959881058285969449495136382746624) : Int) : Rat) = -(2 * 1427247692705959881058285969449495136382746624 : Rat) := by decide +kernel
  have e2 : ((2 * 1427247692705959881058285969449495136382746624 : Int) : Rat) = (2 * 1427247692705959881058285969449495136382746624 : Rat) := by decide +kernel
  rw [eE, eB, e1] at g1
  rw [eE, eB, e2] at g2
  rw [← h1, ← h2] at g1 g2
  constructor <;> grind
theorem place_high {t : Int} (h : 0 ≤ t ∧ t ≤ 536870912) : -(3 / 1152921504606846976 : Rat) ≤ (1811004864519280710 / 1152921504606846976 - qY t) - rX (1073741824 - t) ∧ (1811004864519280710 / 1152921504606846976 - qY t) - rX (1073741824 - t) ≤ 3 / 1152921504606846976 := by
  have h1 := (qY_in h).2.2.1
  have h2 := (rX_in (t := 1073741824 - t) ⟨by omega, by omega⟩).2.2
  have hz : -(3 * 1427247692705959881058285969449495136382746624) ≤ (1811004864519280710 - quarX t) * 1427247692705959881058285969449495136382746624 - realX (1073741824 - t) * 1152921504606846976 ∧ (1811004864519280710 - quarX t) * 1427247692705959881058285969449495136382746624 - realX (1073741824 - t) * 1152921504606846976 ≤ 3 * 1427247692705959881058285969449495136382746624 := by
    unfold quarX realX
    omega
  have g1 : ((-(3 * 1427247692705959881058285969449495136382746624) : Int) : Rat) ≤ (((1811004864519280710 - quarX t) * 1427247692705959881058285969449495136382746624 - realX (1073741824 - t) * 1152921504606846976 : Int) : Rat) := Rat.intCast_le_intCast.2 hz.1
  have g2 : (((1811004864519280710 - quarX t) * 1427247692705959881058285969449495136382746624 - realX (1073741824 - t) * 1152921504606846976 : Int) : Rat) ≤ ((3 * 1427247692705959881058285969449495136382746624 : Int) : Rat) := Rat.intCast_le_intCast.2 hz.2
  rw [Rat.intCast_sub, Rat.intCast_mul, Rat.intCast_mul, Rat.intCast_sub] at g1 g2
  have eE : ((1152921504606846976 : Int) : Rat) = (1152921504606846976 : Rat) := rfl
  have eB : ((1427247692705959881058285969449495136382746624 : Int) : Rat) = (1427247692705959881058285969449495136382746624 : Rat) := by decide +kernel
  have eP : ((1811004864519280710 : Int) : Rat) = (1811004864519280710 : Rat) := rfl
  have e1 : ((-(3 * 1427247692705959881058285969449495136382746624) : Int) : Rat) = -(3 * 1427247692705959881058285969449495136382746624 : Rat) := by decide +kernel
  have e2 : ((3 * 1427247692705959881058285969449495136382746624 : Int) : Rat) = (3 * 1427247692705959881058285969449495136382746624 : Rat) := by decide +kernel
  rw [eE, eB, eP, e1] at g1
  rw [eE, eB, eP, e2] at g2
  rw [← h1, ← h2] at g1 g2
  constructor <;> grind
theorem near_join {q l r : Int} {S T U : Rat} (h1 : q = (l + 536870912) / 1073741824) (h2 : -5 ≤ (l : Rat) - 1152921504606846976 * S ∧ (l : Rat) - 1152921504606846976 * S ≤ 5) (h3 : -(1 / 10000000000000 : Rat) ≤ S - T ∧ S - T ≤ 1 / 10000000000000)
    (h4 : -(100 / 1152921504606846976 : Rat) ≤ T - U ∧ T - U ≤ 100 / 1152921504606846976) (h5 : -(1 / 10000000000000000000 : Rat) * 1427247692705959881058285969449495136382746624 ≤ (r : Rat) - 1427247692705959881058285969449495136382746624 * U ∧ (r : Rat) - 1427247692705959881058285969449495136382746624 * U ≤ (1 / 10000000000000000000 : Rat) * 1427247692705959881058285969449495136382746624) :
    -(51 * 1427247692705959881058285969449495136382746624) ≤ (q * 1427247692705959881058285969449495136382746624 - r * 1073741824) * 100 ∧ (q * 1427247692705959881058285969449495136382746624 - r * 1073741824) * 100 ≤ 51 * 1427247692705959881058285969449495136382746624 := by
  have hz : -536870912 ≤ l - q * 1073741824 ∧ l - q * 1073741824 ≤ 536870912 := by omega
  have g1 : ((-536870912 : Int) : Rat) ≤ ((l - q * 1073741824 : Int) : Rat) := Rat.intCast_le_intCast.2 hz.1
  have g2 : ((l - q * 1073741824 : Int) : Rat) ≤ ((536870912 : Int) : Rat) := Rat.intCast_le_intCast.2 hz.2
  rw [Rat.intCast_sub, Rat.intCast_mul] at g1 g2
  have eP : ((1073741824 : Int) : Rat) = (1073741824 : Rat) := rfl
  have e1 : ((-536870912 : Int) : Rat) = (-536870912 : Rat) := rfl
  have e2 : ((536870912 : Int) : Rat) = (536870912 : Rat) := rfl
  rw [eP, e1] at g1
  rw [eP, e2] at g2
  have eB : ((1427247692705959881058285969449495136382746624 : Int) : Rat) = (1427247692705959881058285969449495136382746624 : Rat) := by decide +kernel
  have eH : ((100 : Int) : Rat) = (100 : Rat) := rfl
  have f1 : ((-(51 * 1427247692705959881058285969449495136382746624) : Int) : Rat) = -(51 * 1427247692705959881058285969449495136382746624 : Rat) := by decide +kernel
  have f2 : ((51 * 1427247692705959881058285969449495136382746624 : Int) : Rat) = (51 * 1427247692705959881058285969449495136382746624 : Rat) := by decide +kernel
  constructor
  · refine Rat.intCast_le_intCast.1 ?_
    rw [Rat.intCast_mul, Rat.intCast_sub, Rat.intCast_mul, Rat.intCast_mul, eB, eP, eH, f1]
    generalize (l : Rat) = L at *
    generalize (q : Rat) = Q at *
    generalize (r : Rat) = R at *
    grind
  · refine Rat.intCast_le_intCast.1 ?_
    rw [Rat.intCast_mul, Rat.intCast_sub, Rat.intCast_mul, Rat.intCast_mul, eB, eP, eH, f2]
    generalize (l : Rat) = L at *
    generalize (q : Rat) = Q at *
    generalize (r : Rat) = R at *
    grind
theorem near_low {t : Int} (h : 0 ≤ t ∧ t ≤ 536870912) : -(51 * 1427247692705959881058285969449495136382746624) ≤ (quarF t * 1427247692705959881058285969449495136382746624 - realS t * 1073741824) * 100 ∧ (quarF t * 1427247692705959881058285969449495136382746624 - realS t * 1073741824) * 100 ≤ 51 * 1427247692705959881058285969449495136382746624 := by
  obtain ⟨y0, y1, ym, v0, v1⟩ := qY_in h
  obtain ⟨x0, x1, xm⟩ := rX_in (t := t) ⟨h.1, by omega⟩
  have b1 : bnd (subP (sinL 7 1) (sinL 12 1)) (7855 / 10000) ≤ 1 / 10000000000000 := by decide +kernel
  have b2 : 2 / 1152921504606846976 * lip (sinL 12 1) 2 ≤ 100 / 1152921504606846976 := by decide +kernel
  have n1 := ev_near (x := qY t) (R := 7855 / 10000) ⟨by grind, y1⟩ b1
  have n2 := ev_lip (a := qY t) (b := rX t) (R := 2) ⟨by grind, by grind⟩ ⟨by grind, by grind⟩ (place_low h) (sinL 12 1)
  exact near_join (quarF_low h.2) (low_near h) n1 ⟨by grind, by grind⟩ (realS_near ⟨h.1, by omega⟩)
theorem near_high {t : Int} (h : 0 ≤ t ∧ t < 536870912) : -(51 * 1427247692705959881058285969449495136382746624) ≤ (quarF (1073741824 - t) * 1427247692705959881058285969449495136382746624 - realS (1073741824 - t) * 1073741824) * 100 ∧ (quarF (1073741824 - t) * 1427247692705959881058285969449495136382746624 - realS (1073741824 - t) * 1073741824) * 100 ≤ 51 * 1427247692705959881058285969449495136382746624 := by
  obtain ⟨y0, y1, ym, v0, v1⟩ := qY_in (t := t) ⟨h.1, by omega⟩
  obtain ⟨x0, x1, xm⟩ := rX_in (t := 1073741824 - t) ⟨by omega, by omega⟩
  have b1 : bnd (subP (cosL 8 0) (compP (1811004864519280710 / 1152921504606846976) (sinL 12 1))) (7855 / 10000) ≤ 1 / 10000000000000 := by decide +kernel
  have b2 : 3 / 1152921504606846976 * lip (sinL 12 1) 2 ≤ 100 / 1152921504606846976 := by decide +kernel
  have n1 := ev_near (x := qY t) (R := 7855 / 10000) ⟨by grind, y1⟩ b1
  rw [ev_comp] at n1
  have hp : (1811004864519280710 / 1152921504606846976 : Rat) ≤ 16 / 10 := by decide +kernel
  have hp0 : (0 : Rat) ≤ 1811004864519280710 / 1152921504606846976 := by decide +kernel
  have pl := place_high (t := t) ⟨h.1, by omega⟩
  generalize (1811004864519280710 / 1152921504606846976 : Rat) = P at *
  have n2 := ev_lip (a := P - qY t) (b := rX (1073741824 - t)) (R := 2) ⟨by grind, by grind⟩ ⟨by grind, by grind⟩ pl (sinL 12 1)
  exact near_join (quarF_high h.2) (high_near ⟨h.1, by omega⟩) n1 ⟨by grind, by grind⟩ (realS_near ⟨by omega, by omega⟩)
theorem near_main {t : Int} (h : 0 ≤ t ∧ t ≤ 1073741824) : -(51 * 1427247692705959881058285969449495136382746624) ≤ (quarF t * 1427247692705959881058285969449495136382746624 - realS t * 1073741824) * 100 ∧ (quarF t * 1427247692705959881058285969449495136382746624 - realS t * 1073741824) * 100 ≤ 51 * 1427247692705959881058285969449495136382746624 := by
  by_cases hl : t ≤ 536870912
  · exact near_low ⟨h.1, hl⟩
  · have := near_high (t := 1073741824 - t) ⟨by omega, by omega⟩
    rw [show 1073741824 - (1073741824 - t) = t by omega] at this
    exact this
end Go.Proofs.YtciigfeecmnghaaRRRRGreatRR.Sv
