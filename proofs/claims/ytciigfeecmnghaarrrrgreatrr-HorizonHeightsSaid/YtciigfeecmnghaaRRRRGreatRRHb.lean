/- The pose that a mount aims at: the program's and the reference's. No condition. -/
import Derived.Test.YtciigfeecmnghaaRRRRGreatRRHa
namespace Go.Proofs.YtciigfeecmnghaaRRRRGreatRR.Sv
open Go Go.RowKit
set_option linter.unusedVariables false
set_option linter.unusedSimpArgs false
set_option maxRecDepth 100000

abbrev siteV (lat lon : Int) : V := .agg [.n .i64 lat, .n .i64 lon]
def siteErr (lat lon : Int) : Int := if lat < -1073741824 ∨ lat > 1073741824 ∨ lon < 0 ∨ lon ≥ 4294967296 then 4 else 0
theorem site1 (lat lon : Int) : Pure Tryz.prog 8 [siteV lat lon] (.n .i64 (siteErr lat lon)) := by
  refine pure_of_wp of8 (Nat.le_of_ble_eq_true rfl) ?_
  unfold siteErr
  ((repeat' first | refine DecK.tt ?_ | refine DecK.ff ?_ | refine DecK.beq (fun _ => ?_) (fun _ => ?_) | refine DecK.bne (fun _ => ?_) (fun _ => ?_) | refine DecK.dec (fun _ => ?_) (fun _ => ?_) | refine OptK.mk _ rfl ?_ | refine endV (by rfl) ?_) <;> (try with_reducible rfl))
  all_goals simp only [V.tup.injEq, V.agg.injEq, V.n.injEq, V.b.injEq, V.s.injEq, List.cons.injEq, true_and, and_true]
  all_goals omega
theorem site2 (lat lon : Int) : Pure Tryz.prog 9 [siteV lat lon] (.n .i64 (siteErr lat lon)) := by
  refine pure_of_wp of9 (Nat.le_of_ble_eq_true rfl) ?_
  unfold siteErr
  ((repeat' first | refine DecK.tt ?_ | refine DecK.ff ?_ | refine DecK.beq (fun _ => ?_) (fun _ => ?_) | refine DecK.bne (fun _ => ?_) (fun _ => ?_) | refine DecK.dec (fun _ => ?_) (fun _ => ?_) | refine OptK.mk _ rfl ?_ | refine endV (by rfl) ?_) <;> (try with_reducible rfl))
  all_goals simp only [V.tup.injEq, V.agg.injEq, V.n.injEq, V.b.injEq, V.s.injEq, List.cons.injEq, true_and, and_true]
  all_goals omega
theorem aim1_ok (g : Nat) (F : Int → Int) (hF : ∀ a, fits a → Pure Tryz.prog g [.n .i64 a] (.n .i64 (F a))) (a : Int) (ha : fits a) : Pure Tryz.prog 95 [.clo (.func g) [] [], .n .i64 a] (.n .i64 (F a)) := by
  refine pure_of_wp of95 (Nat.le_of_ble_eq_true rfl) ?_
  refine CallK.mk _ (hF a ha) rfl ?_
  ((repeat' first | refine DecK.tt ?_ | refine DecK.ff ?_ | refine DecK.beq (fun _ => ?_) (fun _ => ?_) | refine DecK.bne (fun _ => ?_) (fun _ => ?_) | refine DecK.dec (fun _ => ?_) (fun _ => ?_) | refine OptK.mk _ rfl ?_ | refine endV (by rfl) ?_) <;> (try with_reducible rfl))
def at2 (y x : Int) : Int := if atanErr y x = 0 then atanF y x else 0
theorem at2_in (y x : Int) : 0 ≤ at2 y x ∧ at2 y x < 4294967296 ∧ (0 ≤ x → at2 y x ≤ 1073741824 ∨ 3221225472 ≤ at2 y x) := by
  unfold at2
  split
  · rename_i h
    have ref := atanF_ref y x (by unfold atanErr at h; split at h <;> first | assumption | cases h) rfl
    have o1 := octA_in (y.natAbs : Int) x.natAbs
    have o2 := octA_in (x.natAbs : Int) y.natAbs
    have h8 : ¬ (x = 0 ∧ y = 0) := by
      unfold atanErr at h
      split at h
      · cases h
      · split at h
        · cases h
        · assumption
    rw [ref]
    have o3 : (x.natAbs : Int) < y.natAbs → 0 < 1073741824 - octA (x.natAbs : Int) y.natAbs := fun _ => by omega
    generalize octA (y.natAbs : Int) x.natAbs = A at *
    generalize octA (x.natAbs : Int) y.natAbs = B at *
    by_cases hxy : (x.natAbs : Int) < y.natAbs
    · simp only [hxy, if_true]
      split
      · omega
      · split
        · omega
        · split <;> omega
    · simp only [hxy, if_false]
      split
      · omega
      · split
        · refine ⟨by omega, by omega, by omega⟩
        · split <;> omega
  · exact ⟨by decide, by decide, fun _ => .inl (by decide)⟩
def aimErr (lat lon x y z : Int) : Int := if siteErr lat lon ≠ 0 then siteErr lat lon else vecErr x y z
/-- The pose, r the root of the sum of squares. -/
structure AimP where
  o : Int
  e : Int
  n : Int
  u : Int
def aimP (lat lon turn x y z : Int) : AimP :=
  let c := sinF (turn % 4294967296 + lon + 1073741824)
  let d := sinF (turn % 4294967296 + lon)
  let g := growV x y z
  let o := aimOut g.1 g.2.1 c d
  ⟨o, aimEast g.1 g.2.1 c d, aimNorth g.2.2 o (sinF (lat + 1073741824)) (sinF lat), aimUp g.2.2 o (sinF (lat + 1073741824)) (sinF lat)⟩
def aimAlt (p : AimP) (r : Int) : Int := if at2 p.u r > 2147483648 then at2 p.u r - 4294967296 else at2 p.u r
def aimV (lat lon turn x y z r : Int) : V := if aimErr lat lon x y z = 0 then .agg [.n .i64 (at2 (aimP lat lon turn x y z).e (aimP lat lon turn x y z).n), .n .i64 (aimAlt (aimP lat lon turn x y z) r)] else .agg [.n .i64 0, .n .i64 0]
def aimSq (p : AimP) : Int := p.n * p.n + p.e * p.e
theorem rd20 (v : Int) (h : fits v) : Pure Tryz.prog 98 [.n .i64 v, .n .i64 1048576] (.n .i64 (rnd v 1048576)) := by
  have := roundDiv_ok v 1048576 h (by decide)
  rwa [if_neg (by decide)] at this
theorem rd30 (v : Int) (h : fits v) : Pure Tryz.prog 98 [.n .i64 v, .n .i64 1073741824] (.n .i64 (rnd v 1073741824)) := by
  have := roundDiv_ok v 1073741824 h (by decide)
  rwa [if_neg (by decide)] at this
set_option maxHeartbeats 2000000 in
theorem aim_ok (lat lon turn x y z r : Int) (ht : fits turn) (hr : 0 ≤ r ∧ r * r ≤ aimSq (aimP lat lon turn x y z) ∧ aimSq (aimP lat lon turn x y z) < (r + 1) * (r + 1)) :
    Pure Tryz.prog 30 [siteV lat lon, .n .i64 turn, vecV x y z] (.tup [aimV lat lon turn x y z r, .n .i64 (aimErr lat lon x y z)]) := by
  refine pure_of_wp of30 (Nat.le_of_ble_eq_true rfl) ?_
  refine CallK.mk _ (site1 lat lon) rfl ?_
  refine CallK.mk _ (vecCheck x y z) rfl ?_
  refine CallK.mk _ (orE_ok [siteErr lat lon, vecErr x y z] true (by simp)) rfl ?_
  have eE : or0 [siteErr lat lon, vecErr x y z] = aimErr lat lon x y z := by
    unfold aimErr or0 or0 or0
    split
    · rfl
    · split <;> omega
  rw [eE]
  refine DecK.bne (fun h => ?_) (fun h => ?_)
  · ((repeat' first | refine DecK.tt ?_ | refine DecK.ff ?_ | refine DecK.beq (fun _ => ?_) (fun _ => ?_) | refine DecK.bne (fun _ => ?_) (fun _ => ?_) | refine DecK.dec (fun _ => ?_) (fun _ => ?_) | refine OptK.mk _ rfl ?_ | refine endV (by rfl) ?_) <;> (try with_reducible rfl))
    rw [aimV, if_neg h]
    rfl
  have h1 : siteErr lat lon = 0 := by unfold aimErr at h; split at h <;> omega
  have h2 : vecErr x y z = 0 := by unfold aimErr at h; split at h <;> omega
  have eV : aimV lat lon turn x y z r = .agg [.n .i64 (at2 (aimP lat lon turn x y z).e (aimP lat lon turn x y z).n), .n .i64 (aimAlt (aimP lat lon turn x y z) r)] := by rw [aimV, if_pos h]
  rw [eV, h]
  have hg : vecErr (growV x y z).1 (growV x y z).2.1 (growV x y z).2.2 = 0 := by rw [growV, if_pos h2]; exact growF_ok h2
  have hs : -1073741824 ≤ lat ∧ lat ≤ 1073741824 ∧ 0 ≤ lon ∧ lon < 4294967296 := by unfold siteErr at h1; omega
  refine CallK.mk _ (grow_ok x y z) rfl ?_
  have m1 : IntKind.i64.wrap ((BitVec.ofInt IntKind.i64.bits turn &&& BitVec.ofInt IntKind.i64.bits 4294967295).toNat : Nat) = turn % 4294967296 := and_mask ht 32 (by decide)
  have w : IntKind.i64.wrap (turn % 4294967296 + lon) = turn % 4294967296 + lon := w64 (by omega)
  have hP : aimP lat lon turn x y z = ⟨aimOut (growV x y z).1 (growV x y z).2.1 (sinF (turn % 4294967296 + lon + 1073741824)) (sinF (turn % 4294967296 + lon)), aimEast (growV x y z).1 (growV x y z).2.1 (sinF (turn % 4294967296 + lon + 1073741824)) (sinF (turn % 4294967296 + lon)),
    aimNorth (growV x y z).2.2 (aimOut (growV x y z).1 (growV x y z).2.1 (sinF (turn % 4294967296 + lon + 1073741824)) (sinF (turn % 4294967296 + lon))) (sinF (lat + 1073741824)) (sinF lat), aimUp (growV x y z).2.2 (aimOut (growV x y z).1 (growV x y z).2.1 (sinF (turn % 4294967296 + lon + 1073741824)) (sinF (turn % 4294967296 + lon))) (sinF (lat + 1073741824)) (sinF lat)⟩ := rfl
  have hK := sin_sq (turn % 4294967296 + lon)
  have hK' := sin_sq lat
  have b1 := sinF_in (turn % 4294967296 + lon + 1073741824)
  have b2 := sinF_in (turn % 4294967296 + lon)
  have b3 := sinF_in (lat + 1073741824)
  have b4 := sinF_in lat
  have c1 := aim1_ok 96 (fun a => sinF (a + 1073741824)) cos_ok (turn % 4294967296 + lon) (by unfold fits; omega)
  have c2 := aim1_ok 97 sinF sin_ok (turn % 4294967296 + lon) (by unfold fits; omega)
  have c3 := aim1_ok 96 (fun a => sinF (a + 1073741824)) cos_ok lat (by unfold fits; omega)
  have c4 := aim1_ok 97 sinF sin_ok lat (by unfold fits; omega)

  rw [hP] at hr ⊢
  generalize sinF (turn % 4294967296 + lon + 1073741824) = c at *
  generalize sinF (turn % 4294967296 + lon) = d at *
  generalize sinF (lat + 1073741824) = c' at *
  generalize sinF lat = d' at *
  generalize hX : (growV x y z).1 = X at *
  generalize hY : (growV x y z).2.1 = Y at *
  generalize hZ : (growV x y z).2.2 = Z at *
  obtain ⟨f1, f2, f3, f4, f5⟩ := aim_fits hg b1 b2 b3 b4 hK hK'
  have hb := vecErr_in hg
  have p1 := mulI (a := X) (A := 1048576) (by omega) b1
  have p2 := mulI (a := Y) (A := 1048576) (by omega) b2
  have p3 := mulI (a := Y) (A := 1048576) (by omega) b1
  have p4 := mulI (a := X) (A := 1048576) (by omega) b2
  refine OptK.mk _ rfl ?_
  refine CallK.mk _ (c1.args (by rw [m1, w]; rfl)) rfl ?_
  refine CallK.mk _ (c2.args (by rw [m1, w]; rfl)) rfl ?_
  have e1 : IntKind.i64.wrap (IntKind.i64.wrap (X * c) + IntKind.i64.wrap (Y * d)) = X * c + Y * d := by simp (discharger := omega) only [w64, wu64, wu8, w32, wu32, tdivC, tmodC]
  have e2 : IntKind.i64.wrap (IntKind.i64.wrap (Y * c) - IntKind.i64.wrap (X * d)) = Y * c - X * d := by simp (discharger := omega) only [w64, wu64, wu8, w32, wu32, tdivC, tmodC]
  refine CallK.mk _ ((rd20 (X * c + Y * d) (by unfold fits; omega)).args (by rw [← e1])) rfl ?_
  refine CallK.mk _ ((rd20 (Y * c - X * d) (by unfold fits; omega)).args (by rw [← e2])) rfl ?_
  refine CallK.mk _ c3 rfl ?_
  refine CallK.mk _ c4 rfl ?_
  have eo : rnd (X * c + Y * d) 1048576 = aimOut X Y c d := rfl
  have ee : rnd (Y * c - X * d) 1048576 = aimEast X Y c d := rfl
  rw [eo, ee]
  have bo := rnd_20 (X * c + Y * d)
  rw [eo] at bo
  have be := rnd_20 (Y * c - X * d)
  rw [ee] at be
  generalize aimOut X Y c d = o at *
  have wz : IntKind.i64.wrap (Z * 1024) = Z * 1024 := w64 (by omega)
  have p5 := mulI (a := Z * 1024) (A := 1073741824) (by omega) b4
  have p6 := mulI (a := o) (A := 2147483649) (by omega) b3
  have p7 := mulI (a := Z * 1024) (A := 1073741824) (by omega) b3
  have p8 := mulI (a := o) (A := 2147483649) (by omega) b4
  have e3 : IntKind.i64.wrap (IntKind.i64.wrap (IntKind.i64.wrap (Z * 1024) * d') + IntKind.i64.wrap (o * c')) = Z * 1024 * d' + o * c' := by rw [wz]; simp (discharger := omega) only [w64, wu64, wu8, w32, wu32, tdivC, tmodC]
  have e4 : IntKind.i64.wrap (IntKind.i64.wrap (IntKind.i64.wrap (Z * 1024) * c') - IntKind.i64.wrap (o * d')) = Z * 1024 * c' - o * d' := by rw [wz]; simp (discharger := omega) only [w64, wu64, wu8, w32, wu32, tdivC, tmodC]
  refine CallK.mk _ ((rd30 (Z * 1024 * d' + o * c') (by unfold fits; omega)).args (by rw [← e3])) rfl ?_
  refine CallK.mk _ ((rd30 (Z * 1024 * c' - o * d') (by unfold fits; omega)).args (by rw [← e4])) rfl ?_
  have eu : rnd (Z * 1024 * d' + o * c') 1073741824 = aimUp Z o c' d' := rfl
  have en : rnd (Z * 1024 * c' - o * d') 1073741824 = aimNorth Z o c' d' := rfl
  rw [eu, en]
  generalize aimUp Z o c' d' = u at *
  generalize aimNorth Z o c' d' = n at *
  generalize aimEast X Y c d = e at *
  refine CallK.mk _ (atan2_ok e n) rfl ?_
  have sn := sq0 n
  have se := sq0 e
  unfold aimSq at hr
  simp only at hr
  have e5 : IntKind.i64.wrap (IntKind.i64.wrap (n * n) + IntKind.i64.wrap (e * e)) = n * n + e * e := by simp (discharger := omega) only [w64, wu64, wu8, w32, wu32, tdivC, tmodC]
  refine CallK.mk _ ((sqrt_ok (n * n + e * e) r (by unfold fits; omega) (by omega) hr.1 hr.2.1 hr.2.2).args (by rw [← e5])) rfl ?_
  refine CallK.mk _ (atan2_ok u r) rfl ?_
  have ha := at2_in u r
  unfold aimAlt
  simp only
  rw [show (if atanErr e n = 0 then atanF e n else 0) = at2 e n from rfl, show (if atanErr u r = 0 then atanF u r else 0) = at2 u r from rfl]
  generalize at2 u r = A at *
  refine DecK.dec (fun g => ?_) (fun g => ?_)
  · ((repeat' first | refine DecK.tt ?_ | refine DecK.ff ?_ | refine DecK.beq (fun _ => ?_) (fun _ => ?_) | refine DecK.bne (fun _ => ?_) (fun _ => ?_) | refine DecK.dec (fun _ => ?_) (fun _ => ?_) | refine OptK.mk _ rfl ?_ | refine endV (by rfl) ?_) <;> (try with_reducible rfl))
    rw [if_pos g, w64 (by omega)]
    rfl
  · ((repeat' first | refine DecK.tt ?_ | refine DecK.ff ?_ | refine DecK.beq (fun _ => ?_) (fun _ => ?_) | refine DecK.bne (fun _ => ?_) (fun _ => ?_) | refine DecK.dec (fun _ => ?_) (fun _ => ?_) | refine OptK.mk _ rfl ?_ | refine endV (by rfl) ?_) <;> (try with_reducible rfl))
    rw [if_neg g]
    rfl
theorem two10 : Pure Tryz.prog 59 [.n .i64 10] (zV 1024) := Two_ok 10 (by decide)
theorem two20 : Pure Tryz.prog 59 [.n .i64 20] (zV 1048576) := Two_ok 20 (by decide)
theorem aim_root (lat lon turn x y z : Int) : ∃ r : Int, 0 ≤ r ∧ r * r ≤ aimSq (aimP lat lon turn x y z) ∧ aimSq (aimP lat lon turn x y z) < (r + 1) * (r + 1) :=
  sqrt_int _ (by unfold aimSq; have := sq0 (aimP lat lon turn x y z).n; have := sq0 (aimP lat lon turn x y z).e; omega)
theorem eqPose {objs : List (Nat × List V)} (a b : Int) : (SO.po (.veq false [(0, .n), (1, .n)])).rdx objs [.v (.agg [.n .i64 a, .n .i64 b]), .v (.agg [.n .i64 a, .n .i64 b])] = some (.v (.b true)) := by
  simp [SO.rdx, SO.rd, allV, PO.run, veqV, eqLv, eqk]
theorem horizons_ok : Pure Tryz.prog 7 [] (.b true) := by
  have h := aim_ok 536870912 0 0 0 0 1 759250125 (by decide) ⟨by decide, by decide +kernel, by decide +kernel⟩
  have e1 : aimV 536870912 0 0 0 0 1 759250125 = .agg [.n .i64 0, .n .i64 536870912] := by
    have h0 : aimErr 536870912 0 0 0 1 = 0 := by decide
    have h1 : at2 (aimP 536870912 0 0 0 0 1).e (aimP 536870912 0 0 0 0 1).n = 0 := by decide +kernel
    have h2 : aimAlt (aimP 536870912 0 0 0 0 1) 759250125 = 536870912 := by decide +kernel
    rw [aimV, if_pos h0, h1, h2]
  have e2 : aimErr 536870912 0 0 0 1 = 0 := by decide
  rw [e1, e2] at h
  refine pure_of_wp of7 (Nat.le_of_ble_eq_true rfl) ?_
  refine CallK.mk _ h rfl ?_
  refine OptK.mk _ rfl ?_
  refine DecK.tt ?_
  refine OptK.mk _ (eqPose _ _) ?_
  ((repeat' first | refine DecK.tt ?_ | refine DecK.ff ?_ | refine DecK.beq (fun _ => ?_) (fun _ => ?_) | refine DecK.bne (fun _ => ?_) (fun _ => ?_) | refine DecK.dec (fun _ => ?_) (fun _ => ?_) | refine OptK.mk _ rfl ?_ | refine endV (by rfl) ?_) <;> (try with_reducible rfl))
end Go.Proofs.YtciigfeecmnghaaRRRRGreatRR.Sv
