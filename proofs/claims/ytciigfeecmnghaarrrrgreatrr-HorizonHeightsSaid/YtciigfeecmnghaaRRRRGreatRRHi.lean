/- How high a direction stands: what is known of its sine. No condition. -/
import Derived.Test.YtciigfeecmnghaaRRRRGreatRRHg
import Derived.Test.YtciigfeecmnghaaRRRRGreatRRBo
import Derived.Test.YtciigfeecmnghaaRRRRGreatRRQg
import Derived.Test.YtciigfeecmnghaaRRRRGreatRRVa
import Derived.Test.YtciigfeecmnghaaRRRRGreatRRZg
namespace Go.Proofs.YtciigfeecmnghaaRRRRGreatRR.Sv
open Go Go.RowKit
set_option linter.unusedVariables false
set_option linter.unusedSimpArgs false
set_option maxRecDepth 100000

theorem seg {p q x y : Int} (h : p ≤ x ∧ x ≤ q) : min (p * y) (q * y) ≤ x * y ∧ x * y ≤ max (p * y) (q * y) := by
  rcases Int.le_total 0 y with g | g
  · have a := Int.mul_le_mul_of_nonneg_right h.1 g
    have b := Int.mul_le_mul_of_nonneg_right h.2 g
    omega
  · have a := Int.mul_le_mul_of_nonpos_right h.1 g
    have b := Int.mul_le_mul_of_nonpos_right h.2 g
    omega
/-- The least and the greatest product. -/
def prodF (a b : Int × Int) : Int × Int := (min (min (min (a.1 * b.1) (a.1 * b.2)) (a.2 * b.1)) (a.2 * b.2), max (max (max (a.1 * b.1) (a.1 * b.2)) (a.2 * b.1)) (a.2 * b.2))
theorem prod_mem {a b : Int × Int} {x y : Int} (hx : a.1 ≤ x ∧ x ≤ a.2) (hy : b.1 ≤ y ∧ y ≤ b.2) : (prodF a b).1 ≤ x * y ∧ x * y ≤ (prodF a b).2 := by
  have h1 := seg (y := y) hx
  have h2 := seg (y := a.1) hy
  have h3 := seg (y := a.2) hy
  simp only [Int.mul_comm _ a.1, Int.mul_comm _ a.2] at h2 h3
  simp only [prodF]
  omega
theorem mul_in {a b A B : Int} (ha : -A ≤ a ∧ a ≤ A) (hb : -B ≤ b ∧ b ≤ B) : -(A * B) ≤ a * b ∧ a * b ≤ A * B := by
  have h1 := Int.mul_nonneg (show 0 ≤ A - a by omega) (show 0 ≤ B + b by omega)
  have h2 := Int.mul_nonneg (show 0 ≤ A + a by omega) (show 0 ≤ B - b by omega)
  have h3 := Int.mul_nonneg (show 0 ≤ A - a by omega) (show 0 ≤ B - b by omega)
  have h4 := Int.mul_nonneg (show 0 ≤ A + a by omega) (show 0 ≤ B + b by omega)
  simp only [Int.sub_mul, Int.add_mul, Int.mul_sub, Int.mul_add] at h1 h2 h3 h4
  omega
theorem prod_in {a b : Int × Int} {A B : Int} (ha : -A ≤ a.1 ∧ a.1 ≤ a.2 ∧ a.2 ≤ A) (hb : -B ≤ b.1 ∧ b.1 ≤ b.2 ∧ b.2 ≤ B) : -(A * B) ≤ (prodF a b).1 ∧ (prodF a b).1 ≤ (prodF a b).2 ∧ (prodF a b).2 ≤ A * B := by
  have h1 := mul_in (a := a.1) (b := b.1) (A := A) (B := B) (by omega) (by omega)
  have h2 := mul_in (a := a.1) (b := b.2) (A := A) (B := B) (by omega) (by omega)
  have h3 := mul_in (a := a.2) (b := b.1) (A := A) (B := B) (by omega) (by omega)
  have h4 := mul_in (a := a.2) (b := b.2) (A := A) (B := B) (by omega) (by omega)
  simp only [prodF]
  omega
abbrev cosG (a : Int) : Int := sinF (a + 1073741824)
/-- The ends of a wave over what lies between two angles. -/
def waveE (F : Int → Int) (peak : Int) (p : Int × Int) : Int × Int := (if hitsB p.1 p.2 (peak + 2147483648) then -1073741824 else max (-1073741824) (min (F p.1) (F p.2) - 1), if hitsB p.1 p.2 peak then 1073741824 else min 1073741824 (max (F p.1) (F p.2) + 1))
theorem wave_some (F : Int → Int) (peak : Int) (p : Int × Int) : waveB F peak (some p) = some (waveE F peak p) := rfl
theorem waveE_in {F : Int → Int} (hr : ∀ a, -1073741824 ≤ F a ∧ F a ≤ 1073741824) (peak : Int) (p : Int × Int) : -1073741824 ≤ (waveE F peak p).1 ∧ (waveE F peak p).1 ≤ (waveE F peak p).2 ∧ (waveE F peak p).2 ≤ 1073741824 ∧ (waveE F peak p).1 ≤ shr (F p.1) ∧ shr (F p.1) ≤ (waveE F peak p).2 := by
  have h1 := hr p.1
  have h2 := hr p.2
  unfold waveE shr
  simp only
  refine ⟨?_, ?_, ?_, ?_, ?_⟩ <;> (repeat' split) <;> omega
/-- The ends of what is known of the height, times the length. -/
def upF (c d a b : Int × Int) (X Y Z : Int) : Int × Int :=
  let x := prodF c (X, X)
  let y := prodF d (Y, Y)
  let z := prodF a (Z, Z)
  let e := prodF b (x.1 + y.1, x.2 + y.2)
  (z.1 + e.1 / 1073741824, z.2 + cdiv e.2 1073741824)
def quoE (u : Int × Int) (r : Int × Int) : Int × Int :=
  (min (min (min (u.1 * 1048576 / r.1) (u.1 * 1048576 / r.2)) (u.2 * 1048576 / r.1)) (u.2 * 1048576 / r.2),
   max (max (max (cdiv (u.1 * 1048576) r.1) (cdiv (u.1 * 1048576) r.2)) (cdiv (u.2 * 1048576) r.1)) (cdiv (u.2 * 1048576) r.2))
abbrev u30 (p : Int × Int) : Prop := -1073741824 ≤ p.1 ∧ p.1 ≤ p.2 ∧ p.2 ≤ 1073741824
theorem scale_one {c : Int × Int} (hc : u30 c) {X : Int} (hX : -1048576 ≤ X ∧ X ≤ 1048576) : mulB 1 (some c) (mkB X X) = some (prodF c (X, X)) := by
  have h := prod_in (a := c) (b := (X, X)) (A := 1073741824) (B := 1048576) hc ⟨hX.1, Int.le_refl _, hX.2⟩
  rw [scale_rat c (by decide) (by omega), quF_pos (by decide), quF_pos (by decide), rat2]
  simp only [prodF] at h ⊢
  have e : ∀ v : Int, v / 1 = v ∧ cdiv v 1 = v := by intro v; unfold cdiv; omega
  simp only [e]
  rw [mkB_some (by unfold bval; omega)]
  congr 2 <;> omega
theorem out_some {c d : Int × Int} (hc : u30 c) (hd : u30 d) {X Y : Int} (hX : -1048576 ≤ X ∧ X ≤ 1048576) (hY : -1048576 ≤ Y ∧ Y ≤ 1048576) :
    addB (mulB 1 (some c) (mkB X X)) (mulB 1 (some d) (mkB Y Y)) = some ((prodF c (X, X)).1 + (prodF d (Y, Y)).1, (prodF c (X, X)).2 + (prodF d (Y, Y)).2) := by
  have h1 := prod_in (a := c) (b := (X, X)) (A := 1073741824) (B := 1048576) hc ⟨hX.1, Int.le_refl _, hX.2⟩
  have h2 := prod_in (a := d) (b := (Y, Y)) (A := 1073741824) (B := 1048576) hd ⟨hY.1, Int.le_refl _, hY.2⟩
  rw [scale_one hc hX, scale_one hd hY]
  exact mkB_some (by unfold bval; omega)
theorem up_some {c d a b : Int × Int} (hc : u30 c) (hd : u30 d) (ha : u30 a) (hb : u30 b) {X Y Z : Int} (hX : -1048576 ≤ X ∧ X ≤ 1048576) (hY : -1048576 ≤ Y ∧ Y ≤ 1048576) (hZ : -1048576 ≤ Z ∧ Z ≤ 1048576) :
    addB (mulB 1 (some a) (mkB Z Z)) (mulB 1073741824 (some b) (some ((prodF c (X, X)).1 + (prodF d (Y, Y)).1, (prodF c (X, X)).2 + (prodF d (Y, Y)).2))) = some (upF c d a b X Y Z)
    ∧ -4503599627370496 ≤ (upF c d a b X Y Z).1 ∧ (upF c d a b X Y Z).1 ≤ (upF c d a b X Y Z).2 ∧ (upF c d a b X Y Z).2 ≤ 4503599627370496 := by
  have h1 := prod_in (a := c) (b := (X, X)) (A := 1073741824) (B := 1048576) hc ⟨hX.1, Int.le_refl _, hX.2⟩
  have h2 := prod_in (a := d) (b := (Y, Y)) (A := 1073741824) (B := 1048576) hd ⟨hY.1, Int.le_refl _, hY.2⟩
  have h3 := prod_in (a := a) (b := (Z, Z)) (A := 1073741824) (B := 1048576) ha ⟨hZ.1, Int.le_refl _, hZ.2⟩
  rw [scale_one ha hZ]
  simp only [upF]
  obtain ⟨o, ho⟩ : ∃ o, o = ((prodF c (X, X)).1 + (prodF d (Y, Y)).1, (prodF c (X, X)).2 + (prodF d (Y, Y)).2) := ⟨_, rfl⟩
  have ho1 : o.1 = (prodF c (X, X)).1 + (prodF d (Y, Y)).1 := by rw [ho]
  have ho2 : o.2 = (prodF c (X, X)).2 + (prodF d (Y, Y)).2 := by rw [ho]
  rw [← ho]
  generalize prodF c (X, X) = x at *
  generalize prodF d (Y, Y) = y at *
  generalize prodF a (Z, Z) = z at *
  have h4 := prod_in (a := b) (b := o) (A := 1073741824) (B := 2251799813685248) hb ⟨by omega, by omega, by omega⟩
  rw [mul_rat b o (by decide), quF_pos (by decide), quF_pos (by decide), quF_pos (by decide), quF_pos (by decide), rat4]
  have em : mkB (min (min (min (b.1 * o.1 / 1073741824) (b.1 * o.2 / 1073741824)) (b.2 * o.1 / 1073741824)) (b.2 * o.2 / 1073741824)) (max (max (max (cdiv (b.1 * o.1) 1073741824) (cdiv (b.1 * o.2) 1073741824)) (cdiv (b.2 * o.1) 1073741824)) (cdiv (b.2 * o.2) 1073741824)) = some ((prodF b o).1 / 1073741824, cdiv (prodF b o).2 1073741824) := by
    simp only [prodF] at h4 ⊢
    generalize b.1 * o.1 = p1 at *
    generalize b.1 * o.2 = p2 at *
    generalize b.2 * o.1 = p3 at *
    generalize b.2 * o.2 = p4 at *
    unfold cdiv
    rw [mkB_some (by unfold bval; omega)]
    congr 2 <;> omega
  rw [em]
  generalize prodF b o = e at *
  refine ⟨mkB_some (by unfold bval cdiv; omega), ?_⟩
  unfold cdiv
  omega
theorem quo_in {v r K : Int} (hr : 1 ≤ r) (h : -(K * r) ≤ v ∧ v ≤ K * r) : -K ≤ v / r ∧ v / r ≤ K ∧ -K ≤ cdiv v r ∧ cdiv v r ≤ K := by
  have q : ∀ w : Int, -(K * r) ≤ w → w ≤ K * r → -K ≤ w / r ∧ w / r ≤ K := fun w a b =>
    ⟨Int.le_ediv_of_mul_le (by omega) (by rw [Int.neg_mul]; exact a), Int.ediv_le_of_le_mul (by omega) b⟩
  have a := q v h.1 h.2
  have b := q (-v) (by omega) (by omega)
  unfold cdiv
  omega
theorem cauchy2 (x y a b : Int) : (x * a + y * b) * (x * a + y * b) ≤ (x * x + y * y) * (a * a + b * b) := by
  have h : 0 ≤ (x * b - y * a) * (x * b - y * a) := by
    rcases Int.le_total 0 (x * b - y * a) with g | g
    · exact Int.mul_nonneg g g
    · exact Int.mul_nonneg_of_nonpos_of_nonpos g g
  have e : (x * x + y * y) * (a * a + b * b) = (x * a + y * b) * (x * a + y * b) + (x * b - y * a) * (x * b - y * a) := by grind
  omega
theorem root_of {W R : Int} (hR : 0 ≤ R) (h : W * W ≤ R * R) : -R ≤ W ∧ W ≤ R := by
  constructor
  · refine Classical.byContradiction fun g => ?_
    have := sq_lt (x := R) (y := -W) (by omega) |> fun _ => sq_mono (x := R + 1) (y := -W) (by omega) (by omega)
    have e : (R + 1) * (R + 1) = R * R + 2 * R + 1 := by grind
    have e' : -W * -W = W * W := by grind
    omega
  · refine Classical.byContradiction fun g => ?_
    have := sq_mono (x := R + 1) (y := W) (by omega) (by omega)
    have e : (R + 1) * (R + 1) = R * R + 2 * R + 1 := by grind
    omega
/-- A height lies between -1 and 1. -/
theorem height_mid {c d a b : Int × Int} {X Y Z s1 c1 s2 c2 r : Int} (hc : c.1 ≤ c2 ∧ c2 ≤ c.2) (hd : d.1 ≤ s2 ∧ s2 ≤ d.2) (ha : a.1 ≤ s1 ∧ s1 ≤ a.2) (hb : b.1 ≤ c1 ∧ c1 ≤ b.2)
    (k1 : s1 * s1 + c1 * c1 ≤ 1152921504606846976) (k2 : s2 * s2 + c2 * c2 ≤ 1152921504606846976) (hr : 0 ≤ r) (hn : (X * X + Y * Y + Z * Z) * 1099511627776 ≤ r * r) :
    (upF c d a b X Y Z).1 ≤ 1024 * r ∧ -(1024 * r) ≤ (upF c d a b X Y Z).2 := by
  have m1 := prod_mem (a := c) (b := (X, X)) (y := X) hc ⟨Int.le_refl _, Int.le_refl _⟩
  have m2 := prod_mem (a := d) (b := (Y, Y)) (y := Y) hd ⟨Int.le_refl _, Int.le_refl _⟩
  have m3 := prod_mem (a := a) (b := (Z, Z)) (y := Z) ha ⟨Int.le_refl _, Int.le_refl _⟩
  have m4 := prod_mem (a := b) (b := ((prodF c (X, X)).1 + (prodF d (Y, Y)).1, (prodF c (X, X)).2 + (prodF d (Y, Y)).2)) (y := c2 * X + s2 * Y) hb ⟨by omega, by omega⟩
  simp only [upF]
  obtain ⟨o, ho⟩ : ∃ o, o = c2 * X + s2 * Y := ⟨_, rfl⟩
  have c0 := cauchy2 X Y c2 s2
  have c3 := cauchy2 (1073741824 * Z) o s1 c1
  have e0 : X * c2 + Y * s2 = o := by rw [ho]; grind
  rw [e0] at c0
  rw [← ho] at m4
  have n0 : ∀ v : Int, 0 ≤ v * v := fun v => by
    rcases Int.le_total 0 v with g | g
    · exact Int.mul_nonneg g g
    · exact Int.mul_nonneg_of_nonpos_of_nonpos g g
  have c0' := Int.mul_le_mul_of_nonneg_left (show c2 * c2 + s2 * s2 ≤ 1152921504606846976 by omega) (show 0 ≤ X * X + Y * Y by have := n0 X; have := n0 Y; omega)
  have c3' := Int.mul_le_mul_of_nonneg_left k1 (show 0 ≤ 1073741824 * Z * (1073741824 * Z) + o * o by have := n0 (1073741824 * Z); have := n0 o; omega)
  have eZ : 1073741824 * Z * (1073741824 * Z) = 1152921504606846976 * (Z * Z) := by grind
  have eR : 1099511627776 * r * (1099511627776 * r) = 1208925819614629174706176 * (r * r) := by grind
  have W := root_of (W := 1073741824 * Z * s1 + o * c1) (R := 1099511627776 * r) (by omega) (by omega)
  have eW : 1073741824 * Z * s1 + o * c1 = 1073741824 * (s1 * Z) + c1 * o := by grind
  rw [eW] at W
  unfold cdiv
  omega
end Go.Proofs.YtciigfeecmnghaaRRRRGreatRR.Sv
