/- How high a direction stands: the reference's bound. No condition. -/
import Derived.Test.YtciigfeecmnghaaRRRRGreatRRHm
namespace Go.Proofs.YtciigfeecmnghaaRRRRGreatRR.Sv
open Go Go.RowKit
set_option linter.unusedVariables false
set_option linter.unusedSimpArgs false
set_option maxRecDepth 100000

theorem zb_mm {k : Nat} {a b : Int} (ha : zb k a) (hb : zb k b) : zb k (min a b) ∧ zb k (max a b) := by
  constructor
  · rcases min_or a b with h | h <;> rw [h] <;> assumption
  · rcases max_or a b with h | h <;> rw [h] <;> assumption
theorem clip_some {q1 q2 a b : Int} (ha : a = max (-1073741824) q1) (hb : b = min 1073741824 q2) (hv : bval (max (-1073741824) q1) (min 1073741824 q2)) : mkB a b = some (max (-1073741824) q1, min 1073741824 q2) := by
  rw [ha, hb]
  exact mkB_some hv
set_option maxHeartbeats 8000000 in
theorem heightOf_ok (lat lon lo hi : Int) (u : Bool) (x y z s : Int) (hs : vecErr x y z = 0 → rootS s (sqN (growV x y z).1 (growV x y z).2.1 (growV x y z).2.2)) :
    Pure Tryz.prog 11 [siteV lat lon, bdV lo hi u, vecV x y z] (encB (hgtF lat lon x y z s (normB lo hi u))) := by
  obtain ⟨r, hr⟩ : ∃ r, r = hgtF lat lon x y z s (normB lo hi u) := ⟨_, rfl⟩
  rw [← hr]
  unfold hgtF at hr
  refine pure_of_wp of11 (Nat.le_of_ble_eq_true rfl) ?_
  refine OptK.mk _ rfl ?_
  refine CallK.mk _ (sidesArc lo hi u) rfl ?_
  refine OptK.mk _ rfl ?_
  refine OptK.mk _ rfl ?_
  rcases bd_cases lo hi u with ⟨g1, g2⟩ | ⟨g1, rfl, g3, g2⟩
  · rw [g1] at hr ⊢
    obtain rfl : r = none := by rw [hr]; split <;> rfl
    refine DecK.yes rfl ?_
    repeat' (refine DecK.tt ?_)
    refine OptK.mk _ rfl ?_
    ((repeat' first | refine DecK.tt ?_ | refine DecK.ff ?_ | refine DecK.beq (fun _ => ?_) (fun _ => ?_) | refine DecK.bne (fun _ => ?_) (fun _ => ?_) | refine DecK.dec (fun _ => ?_) (fun _ => ?_) | refine OptK.mk _ rfl ?_ | refine endV (by rfl) ?_) <;> (try with_reducible rfl))
    rfl
  rw [g1] at hr ⊢
  have hx := g3
  unfold bval at hx
  refine DecK.no rfl ?_
  refine CallK.mk _ (site2 lat lon) rfl ?_
  refine DecK.bne (fun h => ?_) (fun h => ?_)
  · rw [if_pos (.inl h)] at hr
    subst hr
    repeat' (refine DecK.tt ?_)
    refine OptK.mk _ rfl ?_
    ((repeat' first | refine DecK.tt ?_ | refine DecK.ff ?_ | refine DecK.beq (fun _ => ?_) (fun _ => ?_) | refine DecK.bne (fun _ => ?_) (fun _ => ?_) | refine DecK.dec (fun _ => ?_) (fun _ => ?_) | refine OptK.mk _ rfl ?_ | refine endV (by rfl) ?_) <;> (try with_reducible rfl))
    rfl
  refine CallK.mk _ (vecErr2 x y z) rfl ?_
  refine DecK.bne (fun h2 => ?_) (fun h2 => ?_)
  · rw [if_pos (.inr h2)] at hr
    subst hr
    refine OptK.mk _ rfl ?_
    ((repeat' first | refine DecK.tt ?_ | refine DecK.ff ?_ | refine DecK.beq (fun _ => ?_) (fun _ => ?_) | refine DecK.bne (fun _ => ?_) (fun _ => ?_) | refine DecK.dec (fun _ => ?_) (fun _ => ?_) | refine OptK.mk _ rfl ?_ | refine endV (by rfl) ?_) <;> (try with_reducible rfl))
    rfl
  rw [if_neg (by omega)] at hr
  have hl : -1073741824 ≤ lat ∧ lat ≤ 1073741824 ∧ 0 ≤ lon ∧ lon < 4294967296 := by unfold siteErr at h; omega
  have hg : vecErr (growV x y z).1 (growV x y z).2.1 (growV x y z).2.2 = 0 := by rw [growV, if_pos h2]; exact growF_ok h2
  have hs' := hs h2
  have tg := grown_ok x y z
  generalize (growV x y z).1 = X at *
  generalize (growV x y z).2.1 = Y at *
  generalize (growV x y z).2.2 = Z at *
  have vi := vecErr_in hg
  have si := sqN_in hg
  rw [mkB_some (show bval lon lon by unfold bval; omega)] at hr
  rw [show addB (some (lo, hi)) (some (lon, lon)) = mkB (lo + lon) (hi + lon) from rfl] at hr
  refine CallK.mk _ (I_ok lon (by omega)) rfl ?_
  refine OptK.mk _ rfl ?_
  refine CallK.mk _ (Plus_ok lo lon (by first | exact (zb_64 (by omega)).mono (by decide) | exact ((zb_64 (by omega)).mul (zb_64 (by omega))).mono (by decide)) (by first | exact (zb_64 (by omega)).mono (by decide) | exact ((zb_64 (by omega)).mul (zb_64 (by omega))).mono (by decide))) rfl ?_
  refine CallK.mk _ (Plus_ok hi lon (by first | exact (zb_64 (by omega)).mono (by decide) | exact ((zb_64 (by omega)).mul (zb_64 (by omega))).mono (by decide)) (by first | exact (zb_64 (by omega)).mono (by decide) | exact ((zb_64 (by omega)).mul (zb_64 (by omega))).mono (by decide))) rfl ?_
  refine CallK.mk _ (boundedArc (lo + lon) (hi + lon) (by first | exact (zb_64 (by omega)).mono (by decide) | exact ((zb_64 (by omega)).mul (zb_64 (by omega))).mono (by decide)) (by first | exact (zb_64 (by omega)).mono (by decide) | exact ((zb_64 (by omega)).mul (zb_64 (by omega))).mono (by decide))) rfl ?_
  refine OptK.mk _ rfl ?_
  have hb : bdOk (mkB (lo + lon) (hi + lon)) := mk_ok _ _
  generalize mkB (lo + lon) (hi + lon) = l at *
  rcases l with _ | p
  · simp only at hr
    subst hr
    refine DecK.tt ?_
    refine OptK.mk _ rfl ?_
    ((repeat' first | refine DecK.tt ?_ | refine DecK.ff ?_ | refine DecK.beq (fun _ => ?_) (fun _ => ?_) | refine DecK.bne (fun _ => ?_) (fun _ => ?_) | refine DecK.dec (fun _ => ?_) (fun _ => ?_) | refine OptK.mk _ rfl ?_ | refine endV (by rfl) ?_) <;> (try with_reducible rfl))
    rfl
  simp only at hr
  refine DecK.ff ?_
  refine CallK.mk _ tg rfl ?_
  refine OptK.mk _ rfl ?_
  have i1 := waveE_in (F := cosG) (fun a => sinF_in _) 0 p
  have i2 := waveE_in (F := sinF) sinF_in 1073741824 p
  have i3 := waveE_in (F := sinF) sinF_in 1073741824 (lat, lat)
  have i4 := waveE_in (F := cosG) (fun a => sinF_in _) 0 (lat, lat)
  have el : normB lat lat false = some (lat, lat) := mkB_some (by unfold bval; omega)
  have ep : normB p.1 p.2 false = some p := mkB_some hb
  have t3 := waved_ok 53 sinF sine_ok sinF_in lat lat false 1073741824 (by decide)
  have t4 := waved_ok 54 cosG cosine_ok (fun a => sinF_in _) lat lat false 0 (by decide)
  have t1 := waved_ok 54 cosG cosine_ok (fun a => sinF_in _) p.1 p.2 false 0 (by decide)
  have t2 := waved_ok 53 sinF sine_ok sinF_in p.1 p.2 false 1073741824 (by decide)
  rw [el, wave_some] at t3 t4
  rw [ep, wave_some] at t1 t2
  have q := (hgt_mid (p := p) (lat := lat) hg hs').2
  simp only [hgtR] at hr q
  have eu : upF (waveE cosG 0 p) (waveE sinF 1073741824 p) (waveE sinF 1073741824 (lat, lat)) (waveE cosG 0 (lat, lat)) X Y Z = ((prodF (waveE sinF 1073741824 (lat, lat)) (Z, Z)).1 + (prodF (waveE cosG 0 (lat, lat)) ((prodF (waveE cosG 0 p) (X, X)).1 + (prodF (waveE sinF 1073741824 p) (Y, Y)).1, (prodF (waveE cosG 0 p) (X, X)).2 + (prodF (waveE sinF 1073741824 p) (Y, Y)).2)).1 / 1073741824,
    (prodF (waveE sinF 1073741824 (lat, lat)) (Z, Z)).2 + cdiv (prodF (waveE cosG 0 (lat, lat)) ((prodF (waveE cosG 0 p) (X, X)).1 + (prodF (waveE sinF 1073741824 p) (Y, Y)).1, (prodF (waveE cosG 0 p) (X, X)).2 + (prodF (waveE sinF 1073741824 p) (Y, Y)).2)).2 1073741824) := rfl
  generalize waveE cosG 0 p = c at *
  generalize waveE sinF 1073741824 p = d at *
  generalize waveE sinF 1073741824 (lat, lat) = a at *
  generalize waveE cosG 0 (lat, lat) = b at *
  have z100 : ∀ v : Int, -18446744073709551616 ≤ v ∧ v ≤ 18446744073709551616 → zb 100 v := fun v h => (zb_64 h).mono (by decide)
  have p1 := prod_in (a := c) (b := (X, X)) (A := 1073741824) (B := 1048576) ⟨i1.1, i1.2.1, i1.2.2.1⟩ ⟨by simp only; omega, Int.le_refl _, by simp only; omega⟩
  have p2 := prod_in (a := d) (b := (Y, Y)) (A := 1073741824) (B := 1048576) ⟨i2.1, i2.2.1, i2.2.2.1⟩ ⟨by simp only; omega, Int.le_refl _, by simp only; omega⟩
  have p3 := prod_in (a := a) (b := (Z, Z)) (A := 1073741824) (B := 1048576) ⟨i3.1, i3.2.1, i3.2.2.1⟩ ⟨by simp only; omega, Int.le_refl _, by simp only; omega⟩
  have r1 := products_ok c (X, X) ⟨z100 _ (by omega), z100 _ (by omega)⟩ ⟨z100 _ (by simp only; omega), z100 _ (by simp only; omega)⟩
  have r2 := products_ok d (Y, Y) ⟨z100 _ (by omega), z100 _ (by omega)⟩ ⟨z100 _ (by simp only; omega), z100 _ (by simp only; omega)⟩
  have r3 := products_ok a (Z, Z) ⟨z100 _ (by omega), z100 _ (by omega)⟩ ⟨z100 _ (by simp only; omega), z100 _ (by simp only; omega)⟩
  generalize prodF c (X, X) = P1 at *
  generalize prodF d (Y, Y) = P2 at *
  generalize prodF a (Z, Z) = P3 at *
  have p4 := prod_in (a := b) (b := (P1.1 + P2.1, P1.2 + P2.2)) (A := 1073741824) (B := 2251799813685248) ⟨i4.1, i4.2.1, i4.2.2.1⟩ ⟨by simp only; omega, by simp only; omega, by simp only; omega⟩
  have r4 := products_ok b (P1.1 + P2.1, P1.2 + P2.2) ⟨z100 _ (by omega), z100 _ (by omega)⟩ ⟨z100 _ (by simp only; omega), z100 _ (by simp only; omega)⟩
  generalize prodF b (P1.1 + P2.1, P1.2 + P2.2) = P4 at *
  rw [eu] at hr q
  repeat' (refine OptK.mk _ rfl ?_)
  refine CallK.mk _ t3 rfl ?_
  repeat' (refine OptK.mk _ rfl ?_)
  refine CallK.mk _ t4 rfl ?_
  repeat' (refine OptK.mk _ rfl ?_)
  refine CallK.mk _ t1 rfl ?_
  repeat' (refine OptK.mk _ rfl ?_)
  refine CallK.mk _ t2 rfl ?_
  repeat' (refine OptK.mk _ rfl ?_)
  refine CallK.mk _ (two_ok c.1 c.2 false (by unfold fits; omega) (by unfold fits; omega)) rfl ?_
  repeat' (refine OptK.mk _ rfl ?_)
  refine CallK.mk _ (whole_ok X (by unfold fits; omega)) rfl ?_
  repeat' (refine OptK.mk _ rfl ?_)
  refine CallK.mk _ r1 rfl ?_
  repeat' (refine OptK.mk _ rfl ?_)
  refine CallK.mk _ (two_ok d.1 d.2 false (by unfold fits; omega) (by unfold fits; omega)) rfl ?_
  repeat' (refine OptK.mk _ rfl ?_)
  refine CallK.mk _ (whole_ok Y (by unfold fits; omega)) rfl ?_
  repeat' (refine OptK.mk _ rfl ?_)
  refine CallK.mk _ r2 rfl ?_
  repeat' (refine OptK.mk _ rfl ?_)
  refine CallK.mk _ (two_ok a.1 a.2 false (by unfold fits; omega) (by unfold fits; omega)) rfl ?_
  repeat' (refine OptK.mk _ rfl ?_)
  refine CallK.mk _ (whole_ok Z (by unfold fits; omega)) rfl ?_
  repeat' (refine OptK.mk _ rfl ?_)
  refine CallK.mk _ r3 rfl ?_
  repeat' (refine OptK.mk _ rfl ?_)
  refine CallK.mk _ (two_ok b.1 b.2 false (by unfold fits; omega) (by unfold fits; omega)) rfl ?_
  repeat' (refine OptK.mk _ rfl ?_)
  refine CallK.mk _ (Plus_ok P1.1 P2.1 (by first | exact (zb_64 (by omega)).mono (by decide) | exact ((zb_64 (by omega)).mul (zb_64 (by omega))).mono (by decide)) (by first | exact (zb_64 (by omega)).mono (by decide) | exact ((zb_64 (by omega)).mul (zb_64 (by omega))).mono (by decide))) rfl ?_
  repeat' (refine OptK.mk _ rfl ?_)
  refine CallK.mk _ (Plus_ok P1.2 P2.2 (by first | exact (zb_64 (by omega)).mono (by decide) | exact ((zb_64 (by omega)).mul (zb_64 (by omega))).mono (by decide)) (by first | exact (zb_64 (by omega)).mono (by decide) | exact ((zb_64 (by omega)).mul (zb_64 (by omega))).mono (by decide))) rfl ?_
  repeat' (refine OptK.mk _ rfl ?_)
  refine CallK.mk _ r4 rfl ?_
  repeat' (refine OptK.mk _ rfl ?_)
  have w1 : IntKind.i64.wrap (X * X) = X * X := w64 (by omega)
  have w2 : IntKind.i64.wrap (Y * Y) = Y * Y := w64 (by omega)
  have w3 : IntKind.i64.wrap (Z * Z) = Z * Z := w64 (by omega)
  have eN : sqN X Y Z = X * X + Y * Y + Z * Z := rfl
  have ix := I_ok (X * X) (by omega)
  have iy := I_ok (Y * Y) (by omega)
  have iz := I_ok (Z * Z) (by omega)
  have rin := root_in ⟨si.1, si.2.1⟩ hs'
  have n1 := Plus_ok (X * X) (Y * Y) (by first | exact (zb_64 (by omega)).mono (by decide) | exact ((zb_64 (by omega)).mul (zb_64 (by omega))).mono (by decide)) (by first | exact (zb_64 (by omega)).mono (by decide) | exact ((zb_64 (by omega)).mul (zb_64 (by omega))).mono (by decide))
  have n2 := Plus_ok (X * X + Y * Y) (Z * Z) (by first | exact (zb_64 (by omega)).mono (by decide) | exact ((zb_64 (by omega)).mul (zb_64 (by omega))).mono (by decide)) (by first | exact (zb_64 (by omega)).mono (by decide) | exact ((zb_64 (by omega)).mul (zb_64 (by omega))).mono (by decide))
  have n3 := Times_ok (X * X + Y * Y + Z * Z) 1099511627776 (by first | exact (zb_64 (by omega)).mono (by decide) | exact ((zb_64 (by omega)).mul (zb_64 (by omega))).mono (by decide)) (by first | exact (zb_64 (by omega)).mono (by decide) | exact ((zb_64 (by omega)).mul (zb_64 (by omega))).mono (by decide))
  have n4 := Root_ok ((X * X + Y * Y + Z * Z) * 1099511627776) s ((zb_64' (by omega)).mono (by decide)) (by omega) hs'.1 hs'.2.1 hs'.2.2
  have n5 := Times_ok s s (by first | exact (zb_64 (by omega)).mono (by decide) | exact ((zb_64 (by omega)).mul (zb_64 (by omega))).mono (by decide)) (by first | exact (zb_64 (by omega)).mono (by decide) | exact ((zb_64 (by omega)).mul (zb_64 (by omega))).mono (by decide))
  have n6 := Cmp_ok (s * s) ((X * X + Y * Y + Z * Z) * 1099511627776) (((zb_64 (by omega)).mul (zb_64 (by omega))).mono (by decide)) ((zb_64' (by omega)).mono (by decide))
  rw [← eN] at n2 n3 n4 n6
  refine CallK.mk _ two30 rfl ?_
  repeat' (refine OptK.mk _ rfl ?_)
  refine CallK.mk _ (Floor_ok P4.1 1073741824 ((zb_64' (by omega)).mono (by decide)) (by first | exact (zb_64 (by omega)).mono (by decide) | exact ((zb_64 (by omega)).mul (zb_64 (by omega))).mono (by decide)) (by omega)) rfl ?_
  repeat' (refine OptK.mk _ rfl ?_)
  refine CallK.mk _ (Plus_ok P3.1 (P4.1 / 1073741824) (by first | exact (zb_64 (by omega)).mono (by decide) | exact ((zb_64 (by omega)).mul (zb_64 (by omega))).mono (by decide)) (by first | exact (zb_64 (by omega)).mono (by decide) | exact ((zb_64 (by omega)).mul (zb_64 (by omega))).mono (by decide))) rfl ?_
  repeat' (refine OptK.mk _ rfl ?_)
  refine CallK.mk _ two30 rfl ?_
  repeat' (refine OptK.mk _ rfl ?_)
  refine CallK.mk _ (Ceil_ok P4.2 1073741824 ((zb_64' (by omega)).mono (by decide)) (by first | exact (zb_64 (by omega)).mono (by decide) | exact ((zb_64 (by omega)).mul (zb_64 (by omega))).mono (by decide)) (by omega)) rfl ?_
  repeat' (refine OptK.mk _ rfl ?_)
  refine CallK.mk _ (Plus_ok P3.2 (cdiv P4.2 1073741824) (by first | exact (zb_64 (by omega)).mono (by decide) | exact ((zb_64 (by omega)).mul (zb_64 (by omega))).mono (by decide)) (zb_64 (by unfold cdiv; omega) |>.mono (by decide))) rfl ?_
  repeat' (refine OptK.mk _ rfl ?_)
  refine CallK.mk _ (ix.args (by rw [w1])) rfl ?_
  repeat' (refine OptK.mk _ rfl ?_)
  refine CallK.mk _ (iy.args (by rw [w2])) rfl ?_
  repeat' (refine OptK.mk _ rfl ?_)
  refine CallK.mk _ n1 rfl ?_
  repeat' (refine OptK.mk _ rfl ?_)
  refine CallK.mk _ (iz.args (by rw [w3])) rfl ?_
  repeat' (refine OptK.mk _ rfl ?_)
  refine CallK.mk _ n2 rfl ?_
  repeat' (refine OptK.mk _ rfl ?_)
  refine CallK.mk _ (Two_ok 40 (by decide)) rfl ?_
  repeat' (refine OptK.mk _ rfl ?_)
  refine CallK.mk _ n3 rfl ?_
  repeat' (refine OptK.mk _ rfl ?_)
  refine CallK.mk _ n4 rfl ?_
  repeat' (refine OptK.mk _ rfl ?_)
  refine CallK.mk _ n5 rfl ?_
  repeat' (refine OptK.mk _ rfl ?_)
  refine CallK.mk _ n6 rfl ?_
  repeat' (refine OptK.mk _ rfl ?_)
  have u0 := q.2.2.2
  obtain ⟨U, hU⟩ : ∃ U : Int × Int, U = (P3.1 + P4.1 / 1073741824, P3.2 + cdiv P4.2 1073741824) := ⟨_, rfl⟩
  rw [← hU] at hr q
  have hU1 : P3.1 + P4.1 / 1073741824 = U.1 := by rw [hU]
  have hU2 : P3.2 + cdiv P4.2 1073741824 = U.2 := by rw [hU]
  have mone := Minus_ok 1073741824 (by first | exact (zb_64 (by omega)).mono (by decide) | exact ((zb_64 (by omega)).mul (zb_64 (by omega))).mono (by decide))
  refine dec_lt (fun k => ?_) (fun k => ?_)
  · have eL : rootL s (sqN X Y Z) = s + 1 := if_pos k
    repeat' (refine OptK.mk _ rfl ?_)
    refine CallK.mk _ (I_ok 1 (by decide)) rfl ?_
    repeat' (refine OptK.mk _ rfl ?_)
    refine CallK.mk _ (Plus_ok s 1 (by first | exact (zb_64 (by omega)).mono (by decide) | exact ((zb_64 (by omega)).mul (zb_64 (by omega))).mono (by decide)) (by first | exact (zb_64 (by omega)).mono (by decide) | exact ((zb_64 (by omega)).mul (zb_64 (by omega))).mono (by decide))) rfl ?_
    repeat' (refine OptK.mk _ rfl ?_)
    simp only [hU1, hU2]
    rw [eL] at hr q
    obtain ⟨q1, hq1⟩ : ∃ q1, q1 = (quoE U (s, s + 1)).1 := ⟨_, rfl⟩
    obtain ⟨q2, hq2⟩ : ∃ q2, q2 = (quoE U (s, s + 1)).2 := ⟨_, rfl⟩
    rw [← hq1, ← hq2] at hr
    have qb := q.1
    rw [← hq1, ← hq2] at qb
    unfold bval at qb
    have qc := q.2.2.1
    rw [← hq1, ← hq2] at qc
    refine loop_unroll ?_
    refine DecK.yes rfl ?_
    repeat' (refine OptK.mk _ rfl ?_)
    refine loop_eq (st' := ⟨inC U.1 U.2 s (s + 1) U.1 0 0, inO s (s + 1) U.1 [.b false, .sl 0 [] true, .b false, .sl 0 [] true]⟩) rfl ?_
    refine inner_ok U.1 U.2 s (s + 1) U.1 0 0 0 (min (U.1 * 1048576 / s) (U.1 * 1048576 / (s + 1))) (max (cdiv (U.1 * 1048576) s) (cdiv (U.1 * 1048576) (s + 1))) _ (.inl ⟨rfl, rfl⟩) (by omega) (by omega) (zb_64 (by decide) |>.mono (by decide)) (zb_64 (by decide) |>.mono (by decide)) rfl rfl ?_
    refine inBlk ?_
    refine loop_unroll ?_
    refine DecK.yes rfl ?_
    repeat' (refine OptK.mk _ rfl ?_)
    refine loop_eq (st' := ⟨inC U.1 U.2 s (s + 1) U.2 1 0, inO s (s + 1) U.2 (zC (min (U.1 * 1048576 / s) (U.1 * 1048576 / (s + 1))) ++ zC (max (cdiv (U.1 * 1048576) s) (cdiv (U.1 * 1048576) (s + 1))))⟩) rfl ?_
    have zv : zb 8 (U.1 * 1048576) := zb_64' (by omega)
    refine inner_ok U.1 U.2 s (s + 1) U.2 1 (min (U.1 * 1048576 / s) (U.1 * 1048576 / (s + 1))) (max (cdiv (U.1 * 1048576) s) (cdiv (U.1 * 1048576) (s + 1))) q1 q2 _ (.inr ⟨rfl, rfl⟩) (by omega) (by omega)
      ((zb_mm (zv.div (by omega)) (zv.div (by omega))).1.mono (by decide)) ((zb_mm (zv.cdiv (by omega)) (zv.cdiv (by omega))).2.mono (by decide)) (by rw [hq1, if_neg (by decide)]; rfl) (by rw [hq2, if_neg (by decide)]; rfl) ?_
    refine inBlk ?_
    refine loop_unroll ?_
    refine DecK.no rfl ?_
    repeat' (refine OptK.mk _ rfl ?_)
    refine CallK.mk _ (I_ok 1073741824 (by decide)) rfl ?_
    repeat' (refine OptK.mk _ rfl ?_)
    refine CallK.mk _ mone rfl ?_
    repeat' (refine OptK.mk _ rfl ?_)
    refine CallK.mk _ (Cmp_ok q1 (-1073741824) (by first | exact (zb_64 (by omega)).mono (by decide) | exact ((zb_64 (by omega)).mul (zb_64 (by omega))).mono (by decide)) (by first | exact (zb_64 (by omega)).mono (by decide) | exact ((zb_64 (by omega)).mul (zb_64 (by omega))).mono (by decide))) rfl ?_
    repeat' (refine OptK.mk _ rfl ?_)
    refine dec_lt (fun j => ?_) (fun j => ?_)
    · repeat' (refine OptK.mk _ rfl ?_)
      refine CallK.mk _ mone rfl ?_
      repeat' (refine OptK.mk _ rfl ?_)
      refine CallK.mk _ (Cmp_ok q2 1073741824 (by first | exact (zb_64 (by omega)).mono (by decide) | exact ((zb_64 (by omega)).mul (zb_64 (by omega))).mono (by decide)) (by first | exact (zb_64 (by omega)).mono (by decide) | exact ((zb_64 (by omega)).mul (zb_64 (by omega))).mono (by decide))) rfl ?_
      repeat' (refine OptK.mk _ rfl ?_)
      refine dec_gt (fun i => ?_) (fun i => ?_)
      · repeat' (refine OptK.mk _ rfl ?_)
        refine CallK.mk _ (boundedFix (-1073741824) 1073741824 (by first | exact (zb_64 (by omega)).mono (by decide) | exact ((zb_64 (by omega)).mul (zb_64 (by omega))).mono (by decide)) (by first | exact (zb_64 (by omega)).mono (by decide) | exact ((zb_64 (by omega)).mul (zb_64 (by omega))).mono (by decide))) rfl ?_
        repeat' (refine OptK.mk _ rfl ?_)
        rw [clip_some (q1 := q1) (q2 := q2) (by omega) (by omega) qc, ← hr]
        rfl
      · repeat' (refine OptK.mk _ rfl ?_)
        refine CallK.mk _ (boundedFix (-1073741824) q2 (by first | exact (zb_64 (by omega)).mono (by decide) | exact ((zb_64 (by omega)).mul (zb_64 (by omega))).mono (by decide)) (by first | exact (zb_64 (by omega)).mono (by decide) | exact ((zb_64 (by omega)).mul (zb_64 (by omega))).mono (by decide))) rfl ?_
        repeat' (refine OptK.mk _ rfl ?_)
        rw [clip_some (q1 := q1) (q2 := q2) (by omega) (by omega) qc, ← hr]
        rfl
    · repeat' (refine OptK.mk _ rfl ?_)
      refine CallK.mk _ (Cmp_ok q2 1073741824 (by first | exact (zb_64 (by omega)).mono (by decide) | exact ((zb_64 (by omega)).mul (zb_64 (by omega))).mono (by decide)) (by first | exact (zb_64 (by omega)).mono (by decide) | exact ((zb_64 (by omega)).mul (zb_64 (by omega))).mono (by decide))) rfl ?_
      repeat' (refine OptK.mk _ rfl ?_)
      refine dec_gt (fun i => ?_) (fun i => ?_)
      · repeat' (refine OptK.mk _ rfl ?_)
        refine CallK.mk _ (boundedFix q1 1073741824 (by first | exact (zb_64 (by omega)).mono (by decide) | exact ((zb_64 (by omega)).mul (zb_64 (by omega))).mono (by decide)) (by first | exact (zb_64 (by omega)).mono (by decide) | exact ((zb_64 (by omega)).mul (zb_64 (by omega))).mono (by decide))) rfl ?_
        repeat' (refine OptK.mk _ rfl ?_)
        rw [clip_some (q1 := q1) (q2 := q2) (by omega) (by omega) qc, ← hr]
        rfl
      · repeat' (refine OptK.mk _ rfl ?_)
        refine CallK.mk _ (boundedFix q1 q2 (by first | exact (zb_64 (by omega)).mono (by decide) | exact ((zb_64 (by omega)).mul (zb_64 (by omega))).mono (by decide)) (by first | exact (zb_64 (by omega)).mono (by decide) | exact ((zb_64 (by omega)).mul (zb_64 (by omega))).mono (by decide))) rfl ?_
        repeat' (refine OptK.mk _ rfl ?_)
        rw [clip_some (q1 := q1) (q2 := q2) (by omega) (by omega) qc, ← hr]
        rfl
  · have eL : rootL s (sqN X Y Z) = s := if_neg k
    repeat' (refine OptK.mk _ rfl ?_)
    simp only [hU1, hU2]
    rw [eL] at hr q
    obtain ⟨q1, hq1⟩ : ∃ q1, q1 = (quoE U (s, s)).1 := ⟨_, rfl⟩
    obtain ⟨q2, hq2⟩ : ∃ q2, q2 = (quoE U (s, s)).2 := ⟨_, rfl⟩
    rw [← hq1, ← hq2] at hr
    have qb := q.1
    rw [← hq1, ← hq2] at qb
    unfold bval at qb
    have qc := q.2.2.1
    rw [← hq1, ← hq2] at qc
    refine loop_unroll ?_
    refine DecK.yes rfl ?_
    repeat' (refine OptK.mk _ rfl ?_)
    refine loop_eq (st' := ⟨inC U.1 U.2 s (s) U.1 0 0, inO s (s) U.1 [.b false, .sl 0 [] true, .b false, .sl 0 [] true]⟩) rfl ?_
    refine inner_ok U.1 U.2 s (s) U.1 0 0 0 (min (U.1 * 1048576 / s) (U.1 * 1048576 / (s))) (max (cdiv (U.1 * 1048576) s) (cdiv (U.1 * 1048576) (s))) _ (.inl ⟨rfl, rfl⟩) (by omega) (by omega) (zb_64 (by decide) |>.mono (by decide)) (zb_64 (by decide) |>.mono (by decide)) rfl rfl ?_
    refine inBlk ?_
    refine loop_unroll ?_
    refine DecK.yes rfl ?_
    repeat' (refine OptK.mk _ rfl ?_)
    refine loop_eq (st' := ⟨inC U.1 U.2 s (s) U.2 1 0, inO s (s) U.2 (zC (min (U.1 * 1048576 / s) (U.1 * 1048576 / (s))) ++ zC (max (cdiv (U.1 * 1048576) s) (cdiv (U.1 * 1048576) (s))))⟩) rfl ?_
    have zv : zb 8 (U.1 * 1048576) := zb_64' (by omega)
    refine inner_ok U.1 U.2 s (s) U.2 1 (min (U.1 * 1048576 / s) (U.1 * 1048576 / (s))) (max (cdiv (U.1 * 1048576) s) (cdiv (U.1 * 1048576) (s))) q1 q2 _ (.inr ⟨rfl, rfl⟩) (by omega) (by omega)
      ((zb_mm (zv.div (by omega)) (zv.div (by omega))).1.mono (by decide)) ((zb_mm (zv.cdiv (by omega)) (zv.cdiv (by omega))).2.mono (by decide)) (by rw [hq1, if_neg (by decide)]; rfl) (by rw [hq2, if_neg (by decide)]; rfl) ?_
    refine inBlk ?_
    refine loop_unroll ?_
    refine DecK.no rfl ?_
    repeat' (refine OptK.mk _ rfl ?_)
    refine CallK.mk _ (I_ok 1073741824 (by decide)) rfl ?_
    repeat' (refine OptK.mk _ rfl ?_)
    refine CallK.mk _ mone rfl ?_
    repeat' (refine OptK.mk _ rfl ?_)
    refine CallK.mk _ (Cmp_ok q1 (-1073741824) (by first | exact (zb_64 (by omega)).mono (by decide) | exact ((zb_64 (by omega)).mul (zb_64 (by omega))).mono (by decide)) (by first | exact (zb_64 (by omega)).mono (by decide) | exact ((zb_64 (by omega)).mul (zb_64 (by omega))).mono (by decide))) rfl ?_
    repeat' (refine OptK.mk _ rfl ?_)
    refine dec_lt (fun j => ?_) (fun j => ?_)
    · repeat' (refine OptK.mk _ rfl ?_)
      refine CallK.mk _ mone rfl ?_
      repeat' (refine OptK.mk _ rfl ?_)
      refine CallK.mk _ (Cmp_ok q2 1073741824 (by first | exact (zb_64 (by omega)).mono (by decide) | exact ((zb_64 (by omega)).mul (zb_64 (by omega))).mono (by decide)) (by first | exact (zb_64 (by omega)).mono (by decide) | exact ((zb_64 (by omega)).mul (zb_64 (by omega))).mono (by decide))) rfl ?_
      repeat' (refine OptK.mk _ rfl ?_)
      refine dec_gt (fun i => ?_) (fun i => ?_)
      · repeat' (refine OptK.mk _ rfl ?_)
        refine CallK.mk _ (boundedFix (-1073741824) 1073741824 (by first | exact (zb_64 (by omega)).mono (by decide) | exact ((zb_64 (by omega)).mul (zb_64 (by omega))).mono (by decide)) (by first | exact (zb_64 (by omega)).mono (by decide) | exact ((zb_64 (by omega)).mul (zb_64 (by omega))).mono (by decide))) rfl ?_
        repeat' (refine OptK.mk _ rfl ?_)
        rw [clip_some (q1 := q1) (q2 := q2) (by omega) (by omega) qc, ← hr]
        rfl
      · repeat' (refine OptK.mk _ rfl ?_)
        refine CallK.mk _ (boundedFix (-1073741824) q2 (by first | exact (zb_64 (by omega)).mono (by decide) | exact ((zb_64 (by omega)).mul (zb_64 (by omega))).mono (by decide)) (by first | exact (zb_64 (by omega)).mono (by decide) | exact ((zb_64 (by omega)).mul (zb_64 (by omega))).mono (by decide))) rfl ?_
        repeat' (refine OptK.mk _ rfl ?_)
        rw [clip_some (q1 := q1) (q2 := q2) (by omega) (by omega) qc, ← hr]
        rfl
    · repeat' (refine OptK.mk _ rfl ?_)
      refine CallK.mk _ (Cmp_ok q2 1073741824 (by first | exact (zb_64 (by omega)).mono (by decide) | exact ((zb_64 (by omega)).mul (zb_64 (by omega))).mono (by decide)) (by first | exact (zb_64 (by omega)).mono (by decide) | exact ((zb_64 (by omega)).mul (zb_64 (by omega))).mono (by decide))) rfl ?_
      repeat' (refine OptK.mk _ rfl ?_)
      refine dec_gt (fun i => ?_) (fun i => ?_)
      · repeat' (refine OptK.mk _ rfl ?_)
        refine CallK.mk _ (boundedFix q1 1073741824 (by first | exact (zb_64 (by omega)).mono (by decide) | exact ((zb_64 (by omega)).mul (zb_64 (by omega))).mono (by decide)) (by first | exact (zb_64 (by omega)).mono (by decide) | exact ((zb_64 (by omega)).mul (zb_64 (by omega))).mono (by decide))) rfl ?_
        repeat' (refine OptK.mk _ rfl ?_)
        rw [clip_some (q1 := q1) (q2 := q2) (by omega) (by omega) qc, ← hr]
        rfl
      · repeat' (refine OptK.mk _ rfl ?_)
        refine CallK.mk _ (boundedFix q1 q2 (by first | exact (zb_64 (by omega)).mono (by decide) | exact ((zb_64 (by omega)).mul (zb_64 (by omega))).mono (by decide)) (by first | exact (zb_64 (by omega)).mono (by decide) | exact ((zb_64 (by omega)).mul (zb_64 (by omega))).mono (by decide))) rfl ?_
        repeat' (refine OptK.mk _ rfl ?_)
        rw [clip_some (q1 := q1) (q2 := q2) (by omega) (by omega) qc, ← hr]
        rfl
end Go.Proofs.YtciigfeecmnghaaRRRRGreatRR.Sv
