/- How high a direction stands: the program's bound. No condition. -/
import Derived.Test.YtciigfeecmnghaaRRRRGreatRRHi
import Derived.Test.YtciigfeecmnghaaRRRRGreatRRHb
import Derived.Test.YtciigfeecmnghaaRRRRGreatRRByFix
import Derived.Test.YtciigfeecmnghaaRRRRGreatRRBcArc
namespace Go.Proofs.YtciigfeecmnghaaRRRRGreatRR.Sv
open Go Go.RowKit
set_option linter.unusedVariables false
set_option linter.unusedSimpArgs false
set_option maxRecDepth 100000
/-- spyglass/horizon.Height -/
def F10 : Fn1 := ⟨84, .seq (.reg [⟨some 3, none, .box, [.tm 0]⟩, ⟨some 4, none, .box, [.tm 1]⟩, ⟨some 5, none, .box, [.tm 2]⟩, ⟨some 6, none, .alloc [.n .i64 0, .n .i64 0, .b false], []⟩] [3, 4, 5, 6]) (.seq (.seq (.dreg [⟨some 13, none, .ld true 2 false, [.tm 3]⟩, ⟨some 14, none, .call 8, [.tm 13]⟩, ⟨some 15, none, .ld true 3 false, [.tm 5]⟩, ⟨some 16, none, .call 32, [.tm 15]⟩, ⟨some 17, none, .po (.bsl 2 [.n .i64 0] [(0, 1), (1, 1)]), [.tm 14, .tm 16]⟩, ⟨some 18, none, .call 31, [.tm 17]⟩, ⟨some 19, none, .po (.bin .neq), [.tm 18, .cn (.n .i64 0)]⟩] [] [3, 4, 5, 6, 19]) (.cond (.tm 19) (.seq (.reg [⟨some 20, none, .call 33, []⟩, ⟨none, none, .st 3, [.tm 6, .tm 20]⟩] [6]) .ret) .skip)) (.seq (.reg [⟨some 21, none, .ld true 3 false, [.tm 5]⟩, ⟨some 22, none, .call 34, [.tm 21]⟩, ⟨none, none, .st 3, [.tm 5, .tm 22]⟩] [3, 4, 5, 6]) (.seq (.dreg [⟨some 23, none, .ld true 3 false, [.tm 4]⟩, ⟨some 24, none, .fa 1, [.tm 3]⟩, ⟨some 25, none, .ld false 1 false, [.tm 24]⟩, ⟨some 26, none, .call 36, [.tm 25]⟩, ⟨some 27, none, .call 35, [.tm 23, .tm 26]⟩, ⟨some 7, none, .alloc [.n .i64 0, .n .i64 0, .b false], []⟩, ⟨none, none, .st 3, [.tm 7, .tm 27]⟩] [] [3, 5, 6, 7]) (.seq (.reg [⟨some 28, none, .fa 0, [.tm 3]⟩, ⟨some 29, none, .ld false 1 false, [.tm 28]⟩, ⟨some 30, none, .call 36, [.tm 29]⟩, ⟨some 8, none, .alloc [.n .i64 0, .n .i64 0, .b false], []⟩, ⟨none, none, .st 3, [.tm 8, .tm 30]⟩] [5, 6, 7, 8]) (.seq (.dreg [⟨some 31, none, .ld true 3 false, [.tm 7]⟩, ⟨some 32, none, .call 39, [.tm 31]⟩, ⟨some 33, none, .fa 0, [.tm 5]⟩, ⟨some 34, none, .ld false 1 false, [.tm 33]⟩, ⟨some 35, none, .call 38, [.tm 32, .tm 34, .cn (.n .i64 1)]⟩, ⟨some 36, none, .ld true 3 false, [.tm 7]⟩, ⟨some 37, none, .call 40, [.tm 36]⟩, ⟨some 38, none, .fa 1, [.tm 5]⟩, ⟨some 39, none, .ld false 1 false, [.tm 38]⟩, ⟨some 40, none, .call 38, [.tm 37, .tm 39, .cn (.n .i64 1)]⟩, ⟨some 41, none, .call 37, [.tm 35, .tm 40]⟩, ⟨some 9, none, .alloc [.n .i64 0, .n .i64 0, .b false], []⟩, ⟨none, none, .st 3, [.tm 9, .tm 41]⟩] [] [5, 6, 8, 9]) (.seq (.dreg [⟨some 42, none, .ld true 3 false, [.tm 8]⟩, ⟨some 43, none, .call 40, [.tm 42]⟩, ⟨some 44, none, .fa 2, [.tm 5]⟩, ⟨some 45, none, .ld false 1 false, [.tm 44]⟩, ⟨some 46, none, .call 38, [.tm 43, .tm 45, .cn (.n .i64 1)]⟩, ⟨some 47, none, .ld true 3 false, [.tm 8]⟩, ⟨some 48, none, .call 39, [.tm 47]⟩, ⟨some 49, none, .ld true 3 false, [.tm 9]⟩, ⟨some 50, none, .call 41, [.tm 48, .tm 49, .cn (.n .i64 1073741824)]⟩, ⟨some 51, none, .call 37, [.tm 46, .tm 50]⟩, ⟨some 10, none, .alloc [.n .i64 0, .n .i64 0, .b false], []⟩, ⟨none, none, .st 3, [.tm 10, .tm 51]⟩] [] [5, 6, 10]) (.seq (.reg [⟨some 52, none, .fa 0, [.tm 5]⟩, ⟨some 53, none, .ld false 1 false, [.tm 52]⟩, ⟨some 54, none, .fa 0, [.tm 5]⟩, ⟨some 55, none, .ld false 1 false, [.tm 54]⟩, ⟨some 56, none, .po (.bin .mul), [.tm 53, .tm 55]⟩, ⟨some 57, none, .fa 1, [.tm 5]⟩, ⟨some 58, none, .ld false 1 false, [.tm 57]⟩, ⟨some 59, none, .fa 1, [.tm 5]⟩, ⟨some 60, none, .ld false 1 false, [.tm 59]⟩, ⟨some 61, none, .po (.bin .mul), [.tm 58, .tm 60]⟩, ⟨some 62, none, .po (.bin .add), [.tm 56, .tm 61]⟩, ⟨some 63, none, .fa 2, [.tm 5]⟩, ⟨some 64, none, .ld false 1 false, [.tm 63]⟩, ⟨some 65, none, .fa 2, [.tm 5]⟩, ⟨some 66, none, .ld false 1 false, [.tm 65]⟩, ⟨some 67, none, .po (.bin .mul), [.tm 64, .tm 66]⟩, ⟨some 68, none, .po (.bin .add), [.tm 62, .tm 67]⟩, ⟨some 69, none, .call 43, [.tm 68]⟩, ⟨some 70, none, .call 42, [.tm 69, .cn (.n .i64 1099511627776)]⟩, ⟨some 11, none, .alloc [.n .i64 0, .n .i64 0, .b false], []⟩, ⟨none, none, .st 3, [.tm 11, .tm 70]⟩] [6, 10, 11]) (.seq (.reg [⟨some 71, none, .ld true 3 false, [.tm 10]⟩, ⟨some 72, none, .ld true 3 false, [.tm 11]⟩, ⟨some 73, none, .call 44, [.tm 71, .tm 72, .cn (.n .i64 1048576)]⟩, ⟨some 12, none, .alloc [.n .i64 0, .n .i64 0, .b false], []⟩, ⟨none, none, .st 3, [.tm 12, .tm 73]⟩] [6, 12]) (.seq (.seq (.reg [⟨some 74, none, .fa 2, [.tm 12]⟩, ⟨some 75, none, .ld false 1 false, [.tm 74]⟩] [6, 12, 75]) (.cond (.tm 75) (.seq (.reg [⟨some 76, none, .ld true 3 false, [.tm 12]⟩, ⟨none, none, .st 3, [.tm 6, .tm 76]⟩] [6]) .ret) .skip)) (.seq (.dreg [⟨some 78, none, .ld true 3 false, [.tm 12]⟩, ⟨some 79, none, .call 46, [.cn (.n .i64 (-1073741824)), .cn (.n .i64 1073741824)]⟩, ⟨some 80, none, .call 45, [.tm 78, .tm 79]⟩, ⟨some 77, none, .mv, [.tm 80]⟩, ⟨some 81, none, .po (.ext 0), [.tm 77]⟩, ⟨some 82, none, .po (.ext 1), [.tm 77]⟩, ⟨none, none, .st 3, [.tm 12, .tm 81]⟩] [(5, 6)] [6, 12]) (.seq (.reg [⟨some 83, none, .ld true 3 false, [.tm 12]⟩, ⟨none, none, .st 3, [.tm 6, .tm 83]⟩] [6]) .ret))))))))))), [.cell 6 true 3]⟩
theorem of10 : Fn1.of Tryz.prog 10 ⟨false, [], false⟩ [[3, 4, 5, 6], [3, 4, 5, 6, 19], [6], [3, 4, 5, 6], [3, 5, 6, 7], [5, 6, 7, 8], [5, 6, 8, 9], [5, 6, 10], [6, 10, 11], [6, 12], [6, 12, 75], [6], [6, 12], [6]] = some F10 := by kernel_rfl
theorem cosN {x : Bd} (h : bdOk x) : Pure Tryz.prog 39 [encB x] (encB (waveB cosG 0 x)) := by
  have := cosBound_ok (bLo x) (bHi x) (bUn x)
  rw [norm_enc h] at this
  exact this
theorem sinN {x : Bd} (h : bdOk x) : Pure Tryz.prog 40 [encB x] (encB (waveB sinF 1073741824 x)) := by
  have := sinBound_ok (bLo x) (bHi x) (bUn x)
  rw [norm_enc h] at this
  exact this
theorem scaleN {x : Bd} (h : bdOk x) (n : Int) : Pure Tryz.prog 38 [encB x, .n .i64 n, .n .i64 1] (encB (mulB 1 x (mkB n n))) := by
  have := scaleFix (bLo x) (bHi x) (bUn x) n 1 (by decide)
  rw [norm_enc h] at this
  exact this
theorem addN {x y : Bd} (h : bdOk x) (h' : bdOk y) : Pure Tryz.prog 37 [encB x, encB y] (encB (addB x y)) := by
  have := addFix (bLo x) (bHi x) (bUn x) (bLo y) (bHi y) (bUn y)
  rw [norm_enc h, norm_enc h'] at this
  exact this
theorem mulN {x y : Bd} (h : bdOk x) (h' : bdOk y) : Pure Tryz.prog 41 [encB x, encB y, .n .i64 1073741824] (encB (mulB 1073741824 x y)) := by
  have := mulFix (bLo x) (bHi x) (bUn x) (bLo y) (bHi y) (bUn y) 1073741824 (by decide)
  rw [norm_enc h, norm_enc h'] at this
  exact this
theorem divN {x y : Bd} (h : bdOk x) (h' : bdOk y) : Pure Tryz.prog 44 [encB x, encB y, .n .i64 1048576] (encB (divB 1048576 x y)) := by
  have := divFix (bLo x) (bHi x) (bUn x) (bLo y) (bHi y) (bUn y) 1048576 (by decide)
  rw [norm_enc h, norm_enc h'] at this
  exact this
theorem meetN {x y : Bd} (h : bdOk x) (h' : bdOk y) : Pure Tryz.prog 45 [encB x, encB y] (.tup [encB (meetB x y).1, .b (meetB x y).2]) := by
  have := meetFix (bLo x) (bHi x) (bUn x) (bLo y) (bHi y) (bUn y)
  rw [norm_enc h, norm_enc h'] at this
  exact this
abbrev rootS (s n : Int) : Prop := 0 ≤ s ∧ s * s ≤ n * 1099511627776 ∧ n * 1099511627776 < (s + 1) * (s + 1)
def rootL (s n : Int) : Int := if s * s < n * 1099511627776 then s + 1 else s
theorem rootN {n s : Int} (hn : 1 ≤ n ∧ n ≤ 3298534883328) (hs : rootS s n) : Pure Tryz.prog 42 [encB (some (n, n)), .n .i64 1099511627776] (encB (mkB s (rootL s n))) := by
  obtain ⟨r, hr, tr⟩ := rootFix n n false 1099511627776 (by decide)
  rw [show normB n n false = some (n, n) from mkB_some (by unfold bval; omega)] at hr
  rcases hr with ⟨k, _⟩ | ⟨k, a, b, ⟨a0, a1, a2⟩, ⟨b0, b1, b2⟩, hr⟩
  · simp only at k; omega
  simp only at a1 a2 b1 b2 hr
  rw [show max n 0 = n by omega] at a1 a2
  have ea := sqrt_unique a0 hs.1 a1 a2 hs.2.1 hs.2.2
  have eb := sqrt_unique b0 hs.1 b1 b2 hs.2.1 hs.2.2
  subst ea
  subst eb
  rw [hr] at tr
  exact tr
theorem root_in {n s : Int} (hn : 1 ≤ n ∧ n ≤ 3298534883328) (hs : rootS s n) : 1048575 ≤ s ∧ s ≤ rootL s n ∧ rootL s n ≤ 2199023255553 ∧ n * 1099511627776 ≤ rootL s n * rootL s n := by
  obtain ⟨h0, h1, h2⟩ := hs
  have a := root_of (W := s) (R := 2199023255552) (by decide) (by omega)
  have b : 1048576 ≤ s + 1 := by
    refine Classical.byContradiction fun g => ?_
    have := sq_mono (x := s + 1) (y := 1048575) (by omega) (by omega)
    omega
  unfold rootL
  split
  · exact ⟨by omega, by omega, by omega, by omega⟩
  · exact ⟨by omega, by omega, by omega, by omega⟩
theorem quo_some {u r : Int × Int} (hu : -4503599627370496 ≤ u.1 ∧ u.1 ≤ u.2 ∧ u.2 ≤ 4503599627370496) (hr : 1048575 ≤ r.1 ∧ r.1 ≤ r.2) :
    divB 1048576 (some u) (some r) = some (quoE u r) ∧ bval (quoE u r).1 (quoE u r).2 := by
  have q : ∀ v r : Int, 1048575 ≤ r → -4722366482869645213696 ≤ v → v ≤ 4722366482869645213696 → -1152921504606846976 ≤ v / r ∧ v / r ≤ 1152921504606846976 ∧ -1152921504606846976 ≤ cdiv v r ∧ cdiv v r ≤ 1152921504606846976 := by
    intro v r h1 h2 h3
    exact quo_in (by omega) ⟨by omega, by omega⟩
  rw [div_rat u r (by decide) hr.2 (.inl (by omega)), quF_pos (by omega), quF_pos (by omega), quF_pos (by omega), quF_pos (by omega), rat4]
  have a1 := q (u.1 * 1048576) r.1 (by omega) (by omega) (by omega)
  have a2 := q (u.1 * 1048576) r.2 (by omega) (by omega) (by omega)
  have a3 := q (u.2 * 1048576) r.1 (by omega) (by omega) (by omega)
  have a4 := q (u.2 * 1048576) r.2 (by omega) (by omega) (by omega)
  have a5 := cdiv_ge (v := u.1 * 1048576) (c := r.1) (by omega)
  have bv : bval (quoE u r).1 (quoE u r).2 := by
    unfold bval quoE
    simp only
    omega
  exact ⟨mkB_some bv, bv⟩
theorem quo_mid {u r : Int × Int} (hr : 1 ≤ r.2) (h : u.1 ≤ 1024 * r.2 ∧ -(1024 * r.2) ≤ u.2) : (quoE u r).1 ≤ 1073741824 ∧ -1073741824 ≤ (quoE u r).2 := by
  have a : u.1 * 1048576 / r.2 ≤ 1073741824 := Int.ediv_le_of_le_mul (by omega) (by omega)
  have b : -(u.2 * 1048576) / r.2 ≤ 1073741824 := Int.ediv_le_of_le_mul (by omega) (by omega)
  unfold quoE cdiv
  simp only
  omega
abbrev sqN (X Y Z : Int) : Int := X * X + Y * Y + Z * Z
/-- The height of a vector of full length, the turn at the site within p. -/
def hgtR (p : Int × Int) (lat X Y Z s : Int) : Int × Int :=
  let q := quoE (upF (waveE cosG 0 p) (waveE sinF 1073741824 p) (waveE sinF 1073741824 (lat, lat)) (waveE cosG 0 (lat, lat)) X Y Z) (s, rootL s (sqN X Y Z))
  (max (-1073741824) q.1, min 1073741824 q.2)
def hgtF (lat lon x y z s : Int) (l : Bd) : Bd :=
  if siteErr lat lon ≠ 0 ∨ vecErr x y z ≠ 0 then none else match addB l (mkB lon lon) with
    | none => none
    | some p => some (hgtR p lat (growV x y z).1 (growV x y z).2.1 (growV x y z).2.2 s)
theorem sqN_in {X Y Z : Int} (h : vecErr X Y Z = 0) : 1 ≤ sqN X Y Z ∧ sqN X Y Z ≤ 3298534883328 ∧ (0 ≤ X * X ∧ X * X ≤ 1099511627776) ∧ (0 ≤ Y * Y ∧ Y * Y ≤ 1099511627776) ∧ (0 ≤ Z * Z ∧ Z * Z ≤ 1099511627776) := by
  obtain ⟨x0, x1, y0, y1, z0, z1, nz⟩ := vecErr_in h
  have q : ∀ v : Int, -1048576 ≤ v → v ≤ 1048576 → 0 ≤ v * v ∧ v * v ≤ 1099511627776 ∧ (v ≠ 0 → 1 ≤ v * v) := by
    intro v a b
    have m := mul_in (a := v) (b := v) (A := 1048576) (B := 1048576) ⟨a, b⟩ ⟨a, b⟩
    rcases Int.lt_trichotomy v 0 with g | g | g
    · have := sq_mono (x := 1) (y := -v) (by decide) (by omega)
      rw [Int.neg_mul_neg] at this
      omega
    · subst g; exact ⟨by decide, by decide, fun h => absurd rfl h⟩
    · have := sq_mono (x := 1) (y := v) (by decide) (by omega)
      omega
  unfold sqN
  have a := q X x0 x1
  have b := q Y y0 y1
  have c := q Z z0 z1
  by_cases g1 : X = 0
  · by_cases g2 : Y = 0
    · have := c.2.2 (by omega); omega
    · have := b.2.2 g2; omega
  · have := a.2.2 g1; omega
theorem hgt_mid {p : Int × Int} {lat X Y Z s : Int} (hv : vecErr X Y Z = 0) (hs : rootS s (sqN X Y Z)) :
    let u := upF (waveE cosG 0 p) (waveE sinF 1073741824 p) (waveE sinF 1073741824 (lat, lat)) (waveE cosG 0 (lat, lat)) X Y Z
    let q := quoE u (s, rootL s (sqN X Y Z))
    divB 1048576 (some u) (some (s, rootL s (sqN X Y Z))) = some q ∧ bval q.1 q.2 ∧ meetB (some q) (some (-1073741824, 1073741824)) = (some (hgtR p lat X Y Z s), true) ∧ bval (hgtR p lat X Y Z s).1 (hgtR p lat X Y Z s).2
    ∧ -4503599627370496 ≤ u.1 ∧ u.1 ≤ u.2 ∧ u.2 ≤ 4503599627370496 := by
  have vi := vecErr_in hv
  have si := sqN_in hv
  have ri := root_in ⟨si.1, si.2.1⟩ hs
  have i1 := waveE_in (F := cosG) (fun a => sinF_in _) 0 p
  have i2 := waveE_in (F := sinF) sinF_in 1073741824 p
  have i3 := waveE_in (F := sinF) sinF_in 1073741824 (lat, lat)
  have i4 := waveE_in (F := cosG) (fun a => sinF_in _) 0 (lat, lat)
  have up := (up_some (c := waveE cosG 0 p) (d := waveE sinF 1073741824 p) (a := waveE sinF 1073741824 (lat, lat)) (b := waveE cosG 0 (lat, lat)) ⟨i1.1, i1.2.1, i1.2.2.1⟩ ⟨i2.1, i2.2.1, i2.2.2.1⟩ ⟨i3.1, i3.2.1, i3.2.2.1⟩ ⟨i4.1, i4.2.1, i4.2.2.1⟩ (X := X) (Y := Y) (Z := Z) ⟨vi.1, vi.2.1⟩ ⟨vi.2.2.1, vi.2.2.2.1⟩ ⟨vi.2.2.2.2.1, vi.2.2.2.2.2.1⟩).2
  have hm := height_mid (c := waveE cosG 0 p) (d := waveE sinF 1073741824 p) (a := waveE sinF 1073741824 (lat, lat)) (b := waveE cosG 0 (lat, lat)) (X := X) (Y := Y) (Z := Z) (r := rootL s (sqN X Y Z)) i1.2.2.2 i2.2.2.2 i3.2.2.2 i4.2.2.2 (circ lat) (circ p.1) (by omega) ri.2.2.2
  simp only [hgtR]
  generalize upF (waveE cosG 0 p) (waveE sinF 1073741824 p) (waveE sinF 1073741824 (lat, lat)) (waveE cosG 0 (lat, lat)) X Y Z = u at *
  have qs := quo_some (u := u) (r := (s, rootL s (sqN X Y Z))) up ⟨ri.1, ri.2.1⟩
  have qm := quo_mid (u := u) (r := (s, rootL s (sqN X Y Z))) (by simp only; omega) hm
  generalize quoE u (s, rootL s (sqN X Y Z)) = q at *
  obtain ⟨q1, q2⟩ := q
  obtain ⟨k1, k2⟩ := qs
  have k3 := k2
  unfold bval at k3
  simp only at *
  refine ⟨k1, k2, ?_, by unfold bval; omega, up⟩
  simp only [meetB]
  rw [if_neg (by omega)]
  simp only [Prod.mk.injEq, Option.some.injEq, and_true]
  omega
theorem height_ok (lat lon lo hi : Int) (u : Bool) (x y z s : Int) (hs : vecErr x y z = 0 → rootS s (sqN (growV x y z).1 (growV x y z).2.1 (growV x y z).2.2)) :
    Pure Tryz.prog 10 [siteV lat lon, bdV lo hi u, vecV x y z] (encB (hgtF lat lon x y z s (normB lo hi u))) := by
  have ta := addArc lo hi u (bLo (mkB lon lon)) (bHi (mkB lon lon)) (bUn (mkB lon lon))
  rw [norm_enc (mk_ok lon lon)] at ta
  obtain ⟨r, hr⟩ : ∃ r, r = hgtF lat lon x y z s (normB lo hi u) := ⟨_, rfl⟩
  rw [← hr]
  unfold hgtF at hr
  refine pure_of_wp of10 (Nat.le_of_ble_eq_true rfl) ?_
  refine CallK.mk _ (site1 lat lon) rfl ?_
  refine CallK.mk _ (vecCheck x y z) rfl ?_
  refine CallK.mk _ (orE_ok [siteErr lat lon, vecErr x y z] true (by simp)) rfl ?_
  have eE : or0 [siteErr lat lon, vecErr x y z] = aimErr lat lon x y z := by
    unfold aimErr or0 or0 or0
    split
    · rfl
    · split <;> omega
  rw [eE]
  refine DecK.bne (fun h => ?_) (fun h => ?_)
  · rw [if_pos (by unfold aimErr at h; split at h <;> omega)] at hr
    subst hr
    refine CallK.mk _ noneFix rfl ?_
    ((repeat' first | refine DecK.tt ?_ | refine DecK.ff ?_ | refine DecK.beq (fun _ => ?_) (fun _ => ?_) | refine DecK.bne (fun _ => ?_) (fun _ => ?_) | refine DecK.dec (fun _ => ?_) (fun _ => ?_) | refine OptK.mk _ rfl ?_ | refine endV (by rfl) ?_) <;> (try with_reducible rfl))
    rfl
  have h1 : siteErr lat lon = 0 := by unfold aimErr at h; split at h <;> omega
  have h2 : vecErr x y z = 0 := by unfold aimErr at h; split at h <;> omega
  rw [if_neg (by omega)] at hr
  have hg : vecErr (growV x y z).1 (growV x y z).2.1 (growV x y z).2.2 = 0 := by rw [growV, if_pos h2]; exact growF_ok h2
  have hl : -1073741824 ≤ lat ∧ lat ≤ 1073741824 ∧ 0 ≤ lon ∧ lon < 4294967296 := by unfold siteErr at h1; omega
  have hs' := hs h2
  refine CallK.mk _ (grow_ok x y z) rfl ?_
  generalize (growV x y z).1 = X at *
  generalize (growV x y z).2.1 = Y at *
  generalize (growV x y z).2.2 = Z at *
  have vi := vecErr_in hg
  have si := sqN_in hg
  have hb : bdOk (addB (normB lo hi u) (mkB lon lon)) := by
    unfold addB
    split
    · exact mk_ok _ _
    · trivial
  have tl := exactArc lat
  rw [mkB_some (by unfold bval; omega)] at tl
  have hlb : bdOk (some (lat, lat)) := by unfold bdOk bval; simp only; omega
  have tn := exactFix (sqN X Y Z)
  rw [mkB_some (by unfold bval; omega)] at tn
  have rin := root_in ⟨si.1, si.2.1⟩ hs'
  have hrb : bdOk (some (s, rootL s (sqN X Y Z))) := by unfold bdOk bval; simp only; omega
  have tr := rootN ⟨si.1, si.2.1⟩ hs'
  rw [mkB_some (show bval s (rootL s (sqN X Y Z)) by unfold bval; omega)] at tr
  have w1 : IntKind.i64.wrap (X * X) = X * X := w64 (by omega)
  have w2 : IntKind.i64.wrap (Y * Y) = Y * Y := w64 (by omega)
  have w3 : IntKind.i64.wrap (Z * Z) = Z * Z := w64 (by omega)
  have w4 : IntKind.i64.wrap (X * X + Y * Y) = X * X + Y * Y := w64 (by omega)
  have w5 : IntKind.i64.wrap (X * X + Y * Y + Z * Z) = X * X + Y * Y + Z * Z := w64 (by omega)
  have i3 := waveE_in (F := sinF) sinF_in 1073741824 (lat, lat)
  have i4 := waveE_in (F := cosG) (fun a => sinF_in _) 0 (lat, lat)
  have hv3 : bdOk (some (waveE sinF 1073741824 (lat, lat))) := by unfold bdOk bval; simp only; omega
  have hv4 : bdOk (some (waveE cosG 0 (lat, lat))) := by unfold bdOk bval; simp only; omega
  have tz := scaleN hv3 Z
  rw [scale_one ⟨i3.1, i3.2.1, i3.2.2.1⟩ (by omega)] at tz
  have p3 := prod_in (a := waveE sinF 1073741824 (lat, lat)) (b := (Z, Z)) (A := 1073741824) (B := 1048576) ⟨i3.1, i3.2.1, i3.2.2.1⟩ ⟨by simp only; omega, Int.le_refl _, by simp only; omega⟩
  have hp3 : bdOk (some (prodF (waveE sinF 1073741824 (lat, lat)) (Z, Z))) := by unfold bdOk bval; simp only; omega
  refine OptK.mk _ rfl ?_
  refine CallK.mk _ (exactArc lon) rfl ?_
  refine CallK.mk _ ta rfl ?_
  generalize addB (normB lo hi u) (mkB lon lon) = l at *
  refine OptK.mk _ rfl ?_
  refine CallK.mk _ tl rfl ?_
  refine OptK.mk _ rfl ?_
  rcases l with _ | p
  · simp only at hr
    subst hr
    refine CallK.mk _ (cosN (x := none) trivial) rfl ?_
    refine CallK.mk _ (scaleN (x := none) trivial X) rfl ?_
    refine CallK.mk _ (sinN (x := none) trivial) rfl ?_
    refine CallK.mk _ (scaleN (x := none) trivial Y) rfl ?_
    refine CallK.mk _ (addN (x := none) (y := none) trivial trivial) rfl ?_
    refine OptK.mk _ rfl ?_
    refine CallK.mk _ (sinN hlb) rfl ?_
    refine CallK.mk _ tz rfl ?_
    refine CallK.mk _ (cosN hlb) rfl ?_
    refine CallK.mk _ (mulN (y := none) hv4 trivial) rfl ?_
    refine CallK.mk _ (addN (y := none) hp3 trivial) rfl ?_
    refine OptK.mk _ rfl ?_
    refine CallK.mk _ (tn.args (by simp only [w1, w2, w3, w4, w5])) rfl ?_
    refine CallK.mk _ tr rfl ?_
    refine OptK.mk _ rfl ?_
    refine CallK.mk _ (divN (x := none) trivial hrb) rfl ?_
    refine OptK.mk _ rfl ?_
    refine DecK.yes rfl ?_
    ((repeat' first | refine DecK.tt ?_ | refine DecK.ff ?_ | refine DecK.beq (fun _ => ?_) (fun _ => ?_) | refine DecK.bne (fun _ => ?_) (fun _ => ?_) | refine DecK.dec (fun _ => ?_) (fun _ => ?_) | refine OptK.mk _ rfl ?_ | refine endV (by rfl) ?_) <;> (try with_reducible rfl))
    rfl
  · simp only at hr
    subst hr
    have i1 := waveE_in (F := cosG) (fun a => sinF_in _) 0 p
    have i2 := waveE_in (F := sinF) sinF_in 1073741824 p
    have hv1 : bdOk (some (waveE cosG 0 p)) := by unfold bdOk bval; simp only; omega
    have hv2 : bdOk (some (waveE sinF 1073741824 p)) := by unfold bdOk bval; simp only; omega
    have tx := scaleN hv1 X
    rw [scale_one ⟨i1.1, i1.2.1, i1.2.2.1⟩ (by omega)] at tx
    have ty := scaleN hv2 Y
    rw [scale_one ⟨i2.1, i2.2.1, i2.2.2.1⟩ (by omega)] at ty
    have p1 := prod_in (a := waveE cosG 0 p) (b := (X, X)) (A := 1073741824) (B := 1048576) ⟨i1.1, i1.2.1, i1.2.2.1⟩ ⟨by simp only; omega, Int.le_refl _, by simp only; omega⟩
    have p2 := prod_in (a := waveE sinF 1073741824 p) (b := (Y, Y)) (A := 1073741824) (B := 1048576) ⟨i2.1, i2.2.1, i2.2.2.1⟩ ⟨by simp only; omega, Int.le_refl _, by simp only; omega⟩
    have hp1 : bdOk (some (prodF (waveE cosG 0 p) (X, X))) := by unfold bdOk bval; simp only; omega
    have hp2 : bdOk (some (prodF (waveE sinF 1073741824 p) (Y, Y))) := by unfold bdOk bval; simp only; omega
    have to := addN hp1 hp2
    have eo : addB (some (prodF (waveE cosG 0 p) (X, X))) (some (prodF (waveE sinF 1073741824 p) (Y, Y))) = some ((prodF (waveE cosG 0 p) (X, X)).1 + (prodF (waveE sinF 1073741824 p) (Y, Y)).1, (prodF (waveE cosG 0 p) (X, X)).2 + (prodF (waveE sinF 1073741824 p) (Y, Y)).2) := mkB_some (by unfold bval; omega)
    rw [eo] at to
    have ho : bdOk (some ((prodF (waveE cosG 0 p) (X, X)).1 + (prodF (waveE sinF 1073741824 p) (Y, Y)).1, (prodF (waveE cosG 0 p) (X, X)).2 + (prodF (waveE sinF 1073741824 p) (Y, Y)).2)) := by unfold bdOk bval; simp only; omega
    have us := (up_some (c := waveE cosG 0 p) (d := waveE sinF 1073741824 p) (a := waveE sinF 1073741824 (lat, lat)) (b := waveE cosG 0 (lat, lat)) ⟨i1.1, i1.2.1, i1.2.2.1⟩ ⟨i2.1, i2.2.1, i2.2.2.1⟩ ⟨i3.1, i3.2.1, i3.2.2.1⟩ ⟨i4.1, i4.2.1, i4.2.2.1⟩ (X := X) (Y := Y) (Z := Z) ⟨vi.1, vi.2.1⟩ ⟨vi.2.2.1, vi.2.2.2.1⟩ ⟨vi.2.2.2.2.1, vi.2.2.2.2.2.1⟩).1
    rw [scale_one ⟨i3.1, i3.2.1, i3.2.2.1⟩ (by omega)] at us
    obtain ⟨m1, m2, m3, m4, m5⟩ := hgt_mid (p := p) (lat := lat) hg hs'
    have hm : bdOk (mulB 1073741824 (some (waveE cosG 0 (lat, lat))) (some ((prodF (waveE cosG 0 p) (X, X)).1 + (prodF (waveE sinF 1073741824 p) (Y, Y)).1, (prodF (waveE cosG 0 p) (X, X)).2 + (prodF (waveE sinF 1073741824 p) (Y, Y)).2))) := by
      rw [mul_rat _ _ (by decide)]
      exact mk_ok _ _
    have tu := addN hp3 hm
    rw [us] at tu
    have hu : bdOk (some (upF (waveE cosG 0 p) (waveE sinF 1073741824 p) (waveE sinF 1073741824 (lat, lat)) (waveE cosG 0 (lat, lat)) X Y Z)) := by unfold bdOk bval; simp only at m5 ⊢; omega
    have td := divN hu hrb
    rw [m1] at td
    have to1 := ofFix (-1073741824) 1073741824
    rw [mkB_some (by unfold bval; omega)] at to1
    have te := meetN (x := some (quoE (upF (waveE cosG 0 p) (waveE sinF 1073741824 p) (waveE sinF 1073741824 (lat, lat)) (waveE cosG 0 (lat, lat)) X Y Z) (s, rootL s (sqN X Y Z)))) (y := some (-1073741824, 1073741824)) m2 (by unfold bdOk bval; simp only; omega)
    rw [m3] at te
    refine CallK.mk _ (cosN hb) rfl ?_
    refine CallK.mk _ tx rfl ?_
    refine CallK.mk _ (sinN hb) rfl ?_
    refine CallK.mk _ ty rfl ?_
    refine CallK.mk _ to rfl ?_
    refine OptK.mk _ rfl ?_
    refine CallK.mk _ (sinN hlb) rfl ?_
    refine CallK.mk _ tz rfl ?_
    refine CallK.mk _ (cosN hlb) rfl ?_
    refine CallK.mk _ (mulN hv4 ho) rfl ?_
    refine CallK.mk _ tu rfl ?_
    refine OptK.mk _ rfl ?_
    refine CallK.mk _ (tn.args (by simp only [w1, w2, w3, w4, w5])) rfl ?_
    refine CallK.mk _ tr rfl ?_
    refine OptK.mk _ rfl ?_
    refine CallK.mk _ td rfl ?_
    refine OptK.mk _ rfl ?_
    refine DecK.no rfl ?_
    refine CallK.mk _ to1 rfl ?_
    refine CallK.mk _ te rfl ?_
    refine OptK.mk _ rfl ?_
    ((repeat' first | refine DecK.tt ?_ | refine DecK.ff ?_ | refine DecK.beq (fun _ => ?_) (fun _ => ?_) | refine DecK.bne (fun _ => ?_) (fun _ => ?_) | refine DecK.dec (fun _ => ?_) (fun _ => ?_) | refine OptK.mk _ rfl ?_ | refine endV (by rfl) ?_) <;> (try with_reducible rfl))
    rfl
end Go.Proofs.YtciigfeecmnghaaRRRRGreatRR.Sv
