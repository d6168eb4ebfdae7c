/- Angles: the program's Atan2; the statement that sine and cosine follow the rule. No condition. -/
import Derived.Test.YtciigfeecmnghaaRRRRGreatRRQb
namespace Go.Proofs.YtciigfeecmnghaaRRRRGreatRR.Sv
open Go Go.RowKit
set_option linter.unusedVariables false
set_option linter.unusedSimpArgs false
set_option maxRecDepth 100000
/-- live: [0, 1, 5, 6] -/
def L147_0 : SC := .seq (.seq (.reg [⟨some 8, none, .mv, [.tm 6]⟩, ⟨some 9, none, .mv, [.tm 5]⟩, ⟨some 10, none, .po (.bin .sub), [.tm 8, .tm 9]⟩, ⟨some 11, none, .po (.bin .gtr), [.tm 10, .cn (.n .i64 1)]⟩] [0, 1, 5, 6, 11]) (.cond (.tm 11) .skip (.exit 0))) (.block 1 (.seq (.reg [⟨some 12, none, .mv, [.tm 5]⟩, ⟨some 13, none, .mv, [.tm 6]⟩, ⟨some 14, none, .po (.bin .add), [.tm 12, .tm 13]⟩, ⟨some 15, none, .po (.bin .quo), [.tm 14, .cn (.n .i64 2)]⟩, ⟨some 7, none, .mv, [.tm 15]⟩] [0, 1, 5, 6, 7]) (.seq (.reg [⟨some 16, none, .mv, [.tm 7]⟩, ⟨some 17, none, .call 97, [.tm 16]⟩, ⟨some 18, none, .mv, [.tm 1]⟩, ⟨some 19, none, .po (.bin .mul), [.tm 17, .tm 18]⟩, ⟨some 20, none, .mv, [.tm 7]⟩, ⟨some 21, none, .call 96, [.tm 20]⟩, ⟨some 22, none, .mv, [.tm 0]⟩, ⟨some 23, none, .po (.bin .mul), [.tm 21, .tm 22]⟩, ⟨some 24, none, .po (.bin .leq), [.tm 19, .tm 23]⟩] [0, 1, 5, 6, 7, 24]) (.cond (.tm 24) (.reg [⟨some 25, none, .mv, [.tm 7]⟩, ⟨some 5, none, .mv, [.tm 25]⟩] [0, 1, 5, 6]) (.reg [⟨some 26, none, .mv, [.tm 7]⟩, ⟨some 6, none, .mv, [.tm 26]⟩] [0, 1, 5, 6])))))
/-- spyglass/trig.octant -/
def F147 : Fn1 := ⟨28, .seq (.reg [⟨some 4, none, .mv, [.cn (.n .i64 0)]⟩] [0, 1]) (.seq (.reg [⟨some 5, none, .mv, [.cn (.n .i64 0)]⟩, ⟨some 6, none, .mv, [.cn (.n .i64 536870913)]⟩] [0, 1, 5, 6]) (.seq (.block 0 (.loop [0, 1, 5, 6] L147_0)) (.seq (.reg [⟨some 27, none, .mv, [.tm 5]⟩, ⟨some 4, none, .mv, [.tm 27]⟩] [4]) .ret))), [.tm 4]⟩
theorem of147 : Fn1.of Tryz.prog 147 ⟨false, [], false⟩ [[0, 1], [0, 1, 5, 6], [0, 1, 5, 6], [0, 1, 5, 6, 11], [0, 1, 5, 6, 7], [0, 1, 5, 6, 7, 24], [0, 1, 5, 6], [0, 1, 5, 6], [4]] = some F147 := by kernel_rfl
/-- spyglass/trig.Atan2 -/
def F99 : Fn1 := ⟨59, .seq (.reg [⟨some 4, none, .mv, [.cn (.n .i64 0)]⟩, ⟨some 5, none, .mv, [.cn (.n .i64 0)]⟩] [0, 1]) (.seq (.block 0 (.seq (.reg [⟨some 10, none, .mv, [.tm 1]⟩, ⟨some 11, none, .po (.bin .lss), [.tm 10, .cn (.n .i64 (-4294967296))]⟩, ⟨some 12, none, .mv, [.tm 11]⟩, ⟨some 13, some (12, false), .mv, [.tm 1]⟩, ⟨some 14, some (12, false), .po (.bin .gtr), [.tm 13, .cn (.n .i64 4294967296)]⟩, ⟨some 15, none, .pick, [.tm 12, .cn (.b true), .tm 14]⟩, ⟨some 16, none, .mv, [.tm 15]⟩, ⟨some 17, some (16, false), .mv, [.tm 0]⟩, ⟨some 18, some (16, false), .po (.bin .lss), [.tm 17, .cn (.n .i64 (-4294967296))]⟩, ⟨some 19, none, .pick, [.tm 16, .cn (.b true), .tm 18]⟩, ⟨some 20, none, .mv, [.tm 19]⟩, ⟨some 21, some (20, false), .mv, [.tm 0]⟩, ⟨some 22, some (20, false), .po (.bin .gtr), [.tm 21, .cn (.n .i64 4294967296)]⟩, ⟨some 23, none, .pick, [.tm 20, .cn (.b true), .tm 22]⟩, ⟨some 9, none, .mv, [.tm 23]⟩] [0, 1, 9]) (.cond (.tm 9) (.seq (.reg [⟨some 4, none, .mv, [.cn (.n .i64 0)]⟩, ⟨some 5, none, .mv, [.cn (.n .i64 4)]⟩] [4, 5]) .ret) (.seq (.reg [⟨some 25, none, .mv, [.tm 1]⟩, ⟨some 26, none, .po (.bin .eql), [.tm 25, .cn (.n .i64 0)]⟩, ⟨some 27, none, .mv, [.tm 26]⟩, ⟨some 28, some (27, true), .mv, [.tm 0]⟩, ⟨some 29, some (27, true), .po (.bin .eql), [.tm 28, .cn (.n .i64 0)]⟩, ⟨some 30, none, .pick, [.tm 27, .tm 29, .cn (.b false)]⟩, ⟨some 24, none, .mv, [.tm 30]⟩] [0, 1, 24]) (.cond (.tm 24) (.seq (.reg [⟨some 4, none, .mv, [.cn (.n .i64 0)]⟩, ⟨some 5, none, .mv, [.cn (.n .i64 8)]⟩] [4, 5]) .ret) .skip))))) (.seq (.reg [⟨some 31, none, .mv, [.tm 1]⟩, ⟨some 32, none, .mv, [.tm 1]⟩, ⟨some 33, none, .po (.un .neg), [.tm 32]⟩, ⟨some 34, none, .po .mx, [.tm 31, .tm 33]⟩, ⟨some 35, none, .mv, [.tm 0]⟩, ⟨some 36, none, .mv, [.tm 0]⟩, ⟨some 37, none, .po (.un .neg), [.tm 36]⟩, ⟨some 38, none, .po .mx, [.tm 35, .tm 37]⟩, ⟨some 6, none, .mv, [.tm 34]⟩, ⟨some 7, none, .mv, [.tm 38]⟩] [0, 1, 6, 7]) (.seq (.reg [⟨some 8, none, .mv, [.cn (.n .i64 0)]⟩] [0, 1, 6, 7]) (.seq (.seq (.reg [⟨some 39, none, .mv, [.tm 7]⟩, ⟨some 40, none, .mv, [.tm 6]⟩, ⟨some 41, none, .po (.bin .leq), [.tm 39, .tm 40]⟩] [0, 1, 6, 7, 41]) (.cond (.tm 41) (.reg [⟨some 42, none, .mv, [.tm 7]⟩, ⟨some 43, none, .mv, [.tm 6]⟩, ⟨some 44, none, .call 147, [.tm 42, .tm 43]⟩, ⟨some 8, none, .mv, [.tm 44]⟩] [0, 1, 8]) (.reg [⟨some 45, none, .mv, [.tm 6]⟩, ⟨some 46, none, .mv, [.tm 7]⟩, ⟨some 47, none, .call 147, [.tm 45, .tm 46]⟩, ⟨some 48, none, .po (.bin .sub), [.cn (.n .i64 1073741824), .tm 47]⟩, ⟨some 8, none, .mv, [.tm 48]⟩] [0, 1, 8]))) (.seq (.seq (.reg [⟨some 49, none, .mv, [.tm 1]⟩, ⟨some 50, none, .po (.bin .lss), [.tm 49, .cn (.n .i64 0)]⟩] [0, 8, 50]) (.cond (.tm 50) (.reg [⟨some 51, none, .mv, [.tm 8]⟩, ⟨some 52, none, .po (.bin .sub), [.cn (.n .i64 2147483648), .tm 51]⟩, ⟨some 8, none, .mv, [.tm 52]⟩] [0, 8]) .skip)) (.seq (.seq (.reg [⟨some 53, none, .mv, [.tm 0]⟩, ⟨some 54, none, .po (.bin .lss), [.tm 53, .cn (.n .i64 0)]⟩] [8, 54]) (.cond (.tm 54) (.reg [⟨some 55, none, .mv, [.tm 8]⟩, ⟨some 56, none, .po (.bin .sub), [.cn (.n .i64 4294967296), .tm 55]⟩, ⟨some 8, none, .mv, [.tm 56]⟩] [8]) .skip)) (.seq (.reg [⟨some 57, none, .mv, [.tm 8]⟩, ⟨some 58, none, .po (.bin .rem), [.tm 57, .cn (.n .i64 4294967296)]⟩, ⟨some 4, none, .mv, [.tm 58]⟩, ⟨some 5, none, .mv, [.cn (.n .i64 0)]⟩] [4, 5]) .ret))))))), [.tm 4, .tm 5]⟩
theorem of99 : Fn1.of Tryz.prog 99 ⟨false, [], false⟩ [[0, 1], [0, 1, 9], [4, 5], [0, 1, 24], [4, 5], [0, 1, 6, 7], [0, 1, 6, 7], [0, 1, 6, 7, 41], [0, 1, 8], [0, 1, 8], [0, 8, 50], [0, 8], [8, 54], [8], [4, 5]] = some F99 := by kernel_rfl
def octF (y x : Int) : Nat → Int → Int → Int
  | 0, lo, _ => lo
  | n + 1, lo, hi => if hi - lo > 1 then (if sinF ((lo + hi) / 2) * x ≤ sinF ((lo + hi) / 2 + 1073741824) * y then octF y x n ((lo + hi) / 2) hi else octF y x n lo ((lo + hi) / 2)) else lo
theorem octF_in (y x : Int) : ∀ (n : Nat) (lo hi : Int), lo < hi → lo ≤ octF y x n lo hi ∧ octF y x n lo hi < hi
  | 0, lo, hi, h => ⟨Int.le_refl _, h⟩
  | n + 1, lo, hi, h => by
    unfold octF
    split
    · split
      · have := octF_in y x n ((lo + hi) / 2) hi (by omega); omega
      · have := octF_in y x n lo ((lo + hi) / 2) (by omega); omega
    · omega
/-- The greatest angle up to an eighth that is not beyond the direction. -/
def octA (y x : Int) : Int := octF y x 30 0 536870913
theorem octA_in (y x : Int) : 0 ≤ octA y x ∧ octA y x ≤ 536870912 := by have := octF_in y x 30 0 536870913 (by decide); unfold octA; omega
theorem sin_mul {a x : Int} (hx : 0 ≤ x ∧ x ≤ 4294967296) : -4611686018427387904 ≤ sinF a * x ∧ sinF a * x ≤ 4611686018427387904 := by
  have h := sinF_in a
  have h1 := Int.mul_le_mul_of_nonneg_right h.1 hx.1
  have h2 := Int.mul_le_mul_of_nonneg_right h.2 hx.1
  omega
theorem octant_ok (y x : Int) (hy : 0 ≤ y ∧ y ≤ 4294967296) (hx : 0 ≤ x ∧ x ≤ 4294967296) : Pure Tryz.prog 147 [.n .i64 y, .n .i64 x] (.n .i64 (octA y x)) := by
  refine pure_of_wp of147 (Nat.le_of_ble_eq_true rfl) ?_
  refine loop_ind3 (fun (n : Nat) (lo hi : Int) => ⟨[(0, .v (.n .i64 y)), (1, .v (.n .i64 x)), (5, .v (.n .i64 lo)), (6, .v (.n .i64 hi))], []⟩) (fun n lo hi => n)
    (fun n lo hi => 0 ≤ lo ∧ lo < hi ∧ hi ≤ 536870913 ∧ hi - lo ≤ 2 ^ n ∧ octF y x n lo hi = octA y x) 30 _ _ ⟨by decide, by decide, by decide, by decide, rfl⟩ ?_
  intro n lo hi ⟨h1, h2, h3, h4, h5⟩ ih
  have w1 : IntKind.i64.wrap (hi - lo) = hi - lo := w64 (by omega)
  refine DecK.dec (fun h => ?_) (fun h => ?_)
  · rw [w1] at h
    obtain ⟨k, rfl⟩ : ∃ k, n = k + 1 := by
      cases n with
      | zero => simp at h4; omega
      | succ k => exact ⟨k, rfl⟩
    have w2 : IntKind.i64.wrap ((IntKind.i64.wrap (lo + hi)).tdiv 2) = (lo + hi) / 2 := by simp (discharger := omega) only [w64, wu64, wu8, w32, wu32, tdivC, tmodC]; omega
    rw [octF, if_pos h] at h5
    rw [Int.pow_succ] at h4
    have m1 := sin_mul (a := (lo + hi) / 2) hx
    have m2 := sin_mul (a := (lo + hi) / 2 + 1073741824) hy
    refine CallK.mk _ (sin_ok _ (by rw [w2]; unfold fits; omega)) rfl ?_
    refine CallK.mk _ (cos_ok _ (by rw [w2]; unfold fits; omega)) rfl ?_
    refine DecK.dec (fun g => ?_) (fun g => ?_)
    · rw [w2, w64 (by omega), w64 (by omega)] at g
      rw [if_pos g] at h5
      refine ih k _ _ ⟨?_, ?_, ?_, ?_, ?_⟩ (by omega)
      all_goals try rw [w2]
      all_goals first | exact h5 | omega
    · rw [w2, w64 (by omega), w64 (by omega)] at g
      rw [if_neg g] at h5
      refine ih k _ _ ⟨?_, ?_, ?_, ?_, ?_⟩ (by omega)
      all_goals try rw [w2]
      all_goals first | exact h5 | omega
  · rw [w1] at h
    ((repeat' first | refine DecK.tt ?_ | refine DecK.ff ?_ | refine DecK.beq (fun _ => ?_) (fun _ => ?_) | refine DecK.bne (fun _ => ?_) (fun _ => ?_) | refine DecK.dec (fun _ => ?_) (fun _ => ?_) | refine OptK.mk _ rfl ?_ | refine endV (by rfl) ?_) <;> (try with_reducible rfl))
    cases n with
    | zero => rw [octF] at h5; rw [h5]
    | succ k => rw [octF, if_neg h] at h5; rw [h5]
def atanErr (y x : Int) : Int := if x < -4294967296 ∨ x > 4294967296 ∨ y < -4294967296 ∨ y > 4294967296 then 4 else if x = 0 ∧ y = 0 then 8 else 0
def atanF (y x : Int) : Int :=
  let a := if (y.natAbs : Int) ≤ x.natAbs then octA y.natAbs x.natAbs else 1073741824 - octA x.natAbs y.natAbs
  let b := if x < 0 then 2147483648 - a else a
  (if y < 0 then 4294967296 - b else b) % 4294967296
set_option maxHeartbeats 4000000 in
theorem atan2_ok (y x : Int) : Pure Tryz.prog 99 [.n .i64 y, .n .i64 x] (.tup [.n .i64 (if atanErr y x = 0 then atanF y x else 0), .n .i64 (atanErr y x)]) := by
  refine pure_of_wp of99 (Nat.le_of_ble_eq_true rfl) ?_
  by_cases h1 : x < -4294967296 ∨ x > 4294967296 ∨ y < -4294967296 ∨ y > 4294967296
  · have e : atanErr y x = 4 := if_pos h1
    have e' : (if atanErr y x = 0 then atanF y x else 0) = 0 := by rw [e, if_neg (by decide)]
    rw [e', e]
    repeat' first | (refine DecK.tt ?_) | (refine DecK.ff ?_) | (refine DecK.dec (fun _ => ?_) (fun _ => ?_)) | (refine DecK.beq (fun _ => ?_) (fun _ => (by exfalso; omega))) | (refine endV (by rfl) ?_)
    all_goals first | with_reducible rfl | (exfalso; omega)
  by_cases h2 : x = 0 ∧ y = 0
  · have e : atanErr y x = 8 := by rw [atanErr, if_neg h1, if_pos h2]
    have e' : (if atanErr y x = 0 then atanF y x else 0) = 0 := by rw [e, if_neg (by decide)]
    rw [e', e]
    obtain ⟨rfl, rfl⟩ := h2
    repeat' first | (refine DecK.yes rfl ?_) | (refine DecK.no rfl ?_) | (refine endV (by rfl) ?_)
    with_reducible rfl
  have e : atanErr y x = 0 := by rw [atanErr, if_neg h1, if_neg h2]
  have e' : (if atanErr y x = 0 then atanF y x else 0) = atanF y x := by rw [e, if_pos rfl]
  rw [e', e]
  refine DecK.no (decide_eq_false (by omega)) ?_
  refine DecK.no (decide_eq_false (by omega)) ?_
  refine DecK.no (decide_eq_false (by omega)) ?_
  refine DecK.no (decide_eq_false (by omega)) ?_
  have wx : (if IntKind.i64.wrap (0 - x) > x then IntKind.i64.wrap (0 - x) else x) = x.natAbs := by rw [w64 (by omega)]; omega
  have wy : (if IntKind.i64.wrap (0 - y) > y then IntKind.i64.wrap (0 - y) else y) = y.natAbs := by rw [w64 (by omega)]; omega
  obtain ⟨u, hu⟩ : ∃ u : Int, u = x.natAbs := ⟨_, rfl⟩
  obtain ⟨v, hv⟩ : ∃ v : Int, v = y.natAbs := ⟨_, rfl⟩
  have o1 := octA_in v u
  have o2 := octA_in u v
  rw [← hu] at wx
  rw [← hv] at wy
  have eF : atanF y x = (if y < 0 then 4294967296 - (if x < 0 then 2147483648 - (if v ≤ u then octA v u else 1073741824 - octA u v) else (if v ≤ u then octA v u else 1073741824 - octA u v)) else (if x < 0 then 2147483648 - (if v ≤ u then octA v u else 1073741824 - octA u v) else (if v ≤ u then octA v u else 1073741824 - octA u v))) % 4294967296 := by rw [hu, hv]; rfl
  rw [eF]
  have t1 : v ≤ u → Pure Tryz.prog 147 [.n .i64 v, .n .i64 u] (.n .i64 (octA v u)) := fun h => octant_ok v u (by omega) (by omega)
  have t2 : ¬ v ≤ u → Pure Tryz.prog 147 [.n .i64 u, .n .i64 v] (.n .i64 (octA u v)) := fun h => octant_ok u v (by omega) (by omega)
  have rest : ∀ a : Int, 0 ≤ a ∧ a ≤ 1073741824 → IntKind.i64.wrap (2147483648 - a) = 2147483648 - a ∧ IntKind.i64.wrap (4294967296 - a) = 4294967296 - a ∧ a.tmod 4294967296 = a % 4294967296 ∧ (2147483648 - a).tmod 4294967296 = (2147483648 - a) % 4294967296 ∧ (4294967296 - a).tmod 4294967296 = (4294967296 - a) % 4294967296 ∧
      IntKind.i64.wrap (4294967296 - (2147483648 - a)) = 4294967296 - (2147483648 - a) ∧ (4294967296 - (2147483648 - a)).tmod 4294967296 = (4294967296 - (2147483648 - a)) % 4294967296 := fun a ha =>
    ⟨w64 (by omega), w64 (by omega), Int.tmod_eq_emod_of_nonneg (by omega), Int.tmod_eq_emod_of_nonneg (by omega), Int.tmod_eq_emod_of_nonneg (by omega), w64 (by omega), Int.tmod_eq_emod_of_nonneg (by omega)⟩
  have skip : x = 0 → ¬ y = 0 := fun a b => h2 ⟨a, b⟩
  by_cases hvu : v ≤ u
  · simp only [hvu, if_true]
    obtain ⟨r1, r2, r3, r4, r5, r6, r7⟩ := rest (octA v u) (by omega)
    have t1 := t1 hvu
    clear rest t2 eF e e'
    have tC := t1.args (vs' := [.n .i64 (if IntKind.i64.wrap (0 - y) > y then IntKind.i64.wrap (0 - y) else y), .n .i64 (if IntKind.i64.wrap (0 - x) > x then IntKind.i64.wrap (0 - x) else x)]) (by rw [wx, wy])
    repeat' first
      | (refine DecK.tt ?_) | (refine DecK.ff ?_) | (refine DecK.beq (fun h => ?_) (fun h => ?_)) | (refine CallK.mk _ tC rfl ?_) | (refine endV (by rfl) ?_) | (refine DecK.yes (decide_eq_true (by rw [wx, wy]; exact hvu)) ?_) | (refine DecK.dec (fun h => ?_) (fun h => ?_))
    all_goals first | (exfalso; omega) | skip
    all_goals simp only [r1, r2, r3, r4, r5, r6, r7]
    all_goals first | (rw [if_neg (by assumption), if_neg (by assumption)]; done) | (rw [if_neg (by assumption), if_pos (by assumption)]; done) | (rw [if_pos (by assumption), if_neg (by assumption)]; done) | (rw [if_pos (by assumption), if_pos (by assumption)]; done)
  · simp only [hvu, if_false]
    obtain ⟨r1, r2, r3, r4, r5, r6, r7⟩ := rest (1073741824 - octA u v) (by omega)
    have t1 := t2 hvu
    have w9 : IntKind.i64.wrap (1073741824 - octA u v) = 1073741824 - octA u v := w64 (by omega)
    clear rest t2 eF e e'
    have tC := t1.args (vs' := [.n .i64 (if IntKind.i64.wrap (0 - x) > x then IntKind.i64.wrap (0 - x) else x), .n .i64 (if IntKind.i64.wrap (0 - y) > y then IntKind.i64.wrap (0 - y) else y)]) (by rw [wx, wy])
    repeat' first
      | (refine DecK.tt ?_) | (refine DecK.ff ?_) | (refine DecK.beq (fun h => ?_) (fun h => ?_)) | (refine CallK.mk _ tC rfl ?_) | (refine endV (by rfl) ?_) | (refine DecK.no (decide_eq_false (by rw [wx, wy]; exact hvu)) ?_) | (refine DecK.dec (fun h => ?_) (fun h => ?_))
    all_goals first | (exfalso; omega) | skip
    all_goals simp only [w9, r1, r2, r3, r4, r5, r6, r7]
    all_goals first | (rw [if_neg (by assumption), if_neg (by assumption)]; done) | (rw [if_neg (by assumption), if_pos (by assumption)]; done) | (rw [if_pos (by assumption), if_neg (by assumption)]; done) | (rw [if_pos (by assumption), if_pos (by assumption)]; done)
end Go.Proofs.YtciigfeecmnghaaRRRRGreatRR.Sv
