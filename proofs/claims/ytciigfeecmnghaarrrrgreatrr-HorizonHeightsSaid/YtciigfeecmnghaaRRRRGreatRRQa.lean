/- Sines and cosines: the program's rule and the reference's. No condition. -/
import Derived.Test.YtciigfeecmnghaaRRRRGreatRRNe
namespace Go.Proofs.YtciigfeecmnghaaRRRRGreatRR.Sv
open Go Go.RowKit
set_option linter.unusedVariables false
set_option linter.unusedSimpArgs false
set_option maxRecDepth 100000
/-- spyglass/trig.times -/
def F177 : Fn1 := ⟨14, .seq (.reg [⟨some 4, none, .mv, [.cn (.n .i64 0)]⟩] [0, 1]) (.seq (.reg [⟨some 8, none, .mv, [.tm 0]⟩, ⟨some 9, none, .mv, [.tm 1]⟩, ⟨some 10, none, .call 108, [.tm 8, .tm 9, .cn (.n .i64 1152921504606846976)]⟩, ⟨some 7, none, .mv, [.tm 10]⟩, ⟨some 11, none, .po (.ext 0), [.tm 7]⟩, ⟨some 12, none, .po (.ext 1), [.tm 7]⟩, ⟨some 5, none, .mv, [.tm 11]⟩, ⟨some 6, none, .mv, [.tm 12]⟩] [5]) (.seq (.reg [⟨some 13, none, .mv, [.tm 5]⟩, ⟨some 4, none, .mv, [.tm 13]⟩] [4]) .ret)), [.tm 4]⟩
theorem of177 : Fn1.of Tryz.prog 177 ⟨false, [], false⟩ [[0, 1], [5], [4]] = some F177 := by kernel_rfl
/-- live: [0, 5, 8, 9, 10] -/
def L178_0 : SC := .seq (.reg [⟨some 11, none, .po (.bin .lss), [.tm 10, .tm 9]⟩] [0, 5, 8, 9, 10, 11]) (.seq (.cond (.tm 11) .skip (.exit 0)) (.seq (.block 1 (.seq (.reg [⟨some 12, none, .ia none 1, [.tm 8, .tm 10]⟩, ⟨some 13, none, .ld false 1 true, [.tm 12]⟩, ⟨some 7, none, .mv, [.tm 13]⟩] [0, 5, 7, 8, 9, 10]) (.reg [⟨some 14, none, .mv, [.tm 0]⟩, ⟨some 15, none, .mv, [.tm 5]⟩, ⟨some 16, none, .call 177, [.tm 14, .tm 15]⟩, ⟨some 17, none, .mv, [.tm 7]⟩, ⟨some 18, none, .po (.bin .quo), [.tm 16, .tm 17]⟩, ⟨some 19, none, .po (.bin .sub), [.cn (.n .i64 1152921504606846976), .tm 18]⟩, ⟨some 5, none, .mv, [.tm 19]⟩] [0, 5, 8, 9, 10]))) (.reg [⟨some 20, none, .po (.bin .add), [.tm 10, .cn (.n .i64 1)]⟩, ⟨some 10, none, .mv, [.tm 20]⟩] [0, 5, 8, 9, 10])))
/-- spyglass/trig.series -/
def F178 : Fn1 := ⟨22, .seq (.reg [⟨some 4, none, .mv, [.cn (.n .i64 0)]⟩] [0, 1]) (.seq (.reg [⟨some 5, none, .mv, [.cn (.n .i64 1152921504606846976)]⟩] [0, 1, 5]) (.seq (.seq (.reg [⟨some 8, none, .mv, [.tm 1]⟩, ⟨some 9, none, .len false, [.tm 8]⟩, ⟨some 10, none, .mv, [.cn (.n .i64 0)]⟩] [0, 5, 8, 9, 10]) (.block 0 (.loop [0, 5, 8, 9, 10] L178_0))) (.seq (.reg [⟨some 21, none, .mv, [.tm 5]⟩, ⟨some 4, none, .mv, [.tm 21]⟩] [4]) .ret))), [.tm 4]⟩
theorem of178 : Fn1.of Tryz.prog 178 ⟨false, [], false⟩ [[0, 1], [0, 1, 5], [0, 5, 8, 9, 10], [0, 5, 8, 9, 10], [0, 5, 8, 9, 10, 11], [0, 5, 7, 8, 9, 10], [0, 5, 8, 9, 10], [0, 5, 8, 9, 10], [4]] = some F178 := by kernel_rfl
/-- spyglass/trig.quarter -/
def F146 : Fn1 := ⟨31, .seq (.reg [⟨some 2, none, .mv, [.cn (.n .i64 0)]⟩] [0]) (.seq (.reg [⟨some 7, none, .mv, [.tm 0]⟩, ⟨some 8, none, .po (.bin .gtr), [.tm 7, .cn (.n .i64 536870912)]⟩, ⟨some 3, none, .mv, [.tm 8]⟩] [0, 3]) (.seq (.seq (.reg [⟨some 9, none, .mv, [.tm 3]⟩] [0, 3, 9]) (.cond (.tm 9) (.reg [⟨some 10, none, .mv, [.tm 0]⟩, ⟨some 11, none, .po (.bin .sub), [.cn (.n .i64 1073741824), .tm 10]⟩, ⟨some 0, none, .mv, [.tm 11]⟩] [0, 3]) .skip)) (.seq (.reg [⟨some 13, none, .mv, [.tm 0]⟩, ⟨some 14, none, .call 108, [.tm 13, .cn (.n .i64 1811004864519280710), .cn (.n .i64 1073741824)]⟩, ⟨some 12, none, .mv, [.tm 14]⟩, ⟨some 15, none, .po (.ext 0), [.tm 12]⟩, ⟨some 16, none, .po (.ext 1), [.tm 12]⟩, ⟨some 4, none, .mv, [.tm 15]⟩, ⟨some 5, none, .mv, [.tm 16]⟩] [3, 4]) (.seq (.reg [⟨some 17, none, .mv, [.tm 4]⟩, ⟨some 18, none, .mv, [.tm 4]⟩, ⟨some 19, none, .call 177, [.tm 17, .tm 18]⟩, ⟨some 6, none, .mv, [.tm 19]⟩] [3, 4, 6]) (.seq (.seq (.reg [⟨some 20, none, .mv, [.tm 3]⟩] [4, 6, 20]) (.cond (.tm 20) (.seq (.reg [⟨some 21, none, .mv, [.tm 6]⟩, ⟨some 22, none, .po (.bsl 7 [.n .i64 0] [(0, 1), (1, 1), (2, 1), (3, 1), (4, 1), (5, 1), (6, 1)]), [.cn (.n .i64 182), .cn (.n .i64 132), .cn (.n .i64 90), .cn (.n .i64 56), .cn (.n .i64 30), .cn (.n .i64 12), .cn (.n .i64 2)]⟩, ⟨some 23, none, .call 178, [.tm 21, .tm 22]⟩, ⟨some 24, none, .call 98, [.tm 23, .cn (.n .i64 1073741824)]⟩, ⟨some 2, none, .mv, [.tm 24]⟩] [2]) .ret) .skip)) (.seq (.reg [⟨some 25, none, .mv, [.tm 4]⟩, ⟨some 26, none, .mv, [.tm 6]⟩, ⟨some 27, none, .po (.bsl 6 [.n .i64 0] [(0, 1), (1, 1), (2, 1), (3, 1), (4, 1), (5, 1)]), [.cn (.n .i64 156), .cn (.n .i64 110), .cn (.n .i64 72), .cn (.n .i64 42), .cn (.n .i64 20), .cn (.n .i64 6)]⟩, ⟨some 28, none, .call 178, [.tm 26, .tm 27]⟩, ⟨some 29, none, .call 177, [.tm 25, .tm 28]⟩, ⟨some 30, none, .call 98, [.tm 29, .cn (.n .i64 1073741824)]⟩, ⟨some 2, none, .mv, [.tm 30]⟩] [2]) .ret)))))), [.tm 2]⟩
theorem of146 : Fn1.of Tryz.prog 146 ⟨false, [], false⟩ [[0], [0, 3], [0, 3, 9], [0, 3], [3, 4], [3, 4, 6], [4, 6, 20], [2], [2]] = some F146 := by kernel_rfl
/-- spyglass/trig.Sin -/
def F97 : Fn1 := ⟨29, .seq (.reg [⟨some 2, none, .mv, [.cn (.n .i64 0)]⟩] [0]) (.seq (.reg [⟨some 5, none, .mv, [.tm 0]⟩, ⟨some 6, none, .po (.bin .and), [.tm 5, .cn (.n .i64 4294967295)]⟩, ⟨some 3, none, .mv, [.tm 6]⟩] [3]) (.seq (.reg [⟨some 7, none, .mv, [.tm 3]⟩, ⟨some 8, none, .po (.bin .and), [.tm 7, .cn (.n .i64 1073741823)]⟩, ⟨some 4, none, .mv, [.tm 8]⟩] [3, 4]) (.seq (.seq (.reg [⟨some 9, none, .mv, [.tm 3]⟩, ⟨some 10, none, .po (.bin .quo), [.tm 9, .cn (.n .i64 1073741824)]⟩] [4, 10]) (.block 0 (.seq (.reg [⟨some 12, none, .po (.bin .eql), [.tm 10, .cn (.n .i64 0)]⟩, ⟨some 11, none, .mv, [.tm 12]⟩] [4, 10, 11]) (.cond (.tm 11) (.seq (.reg [⟨some 13, none, .mv, [.tm 4]⟩, ⟨some 14, none, .call 146, [.tm 13]⟩, ⟨some 2, none, .mv, [.tm 14]⟩] [2]) .ret) (.seq (.reg [⟨some 16, none, .po (.bin .eql), [.tm 10, .cn (.n .i64 1)]⟩, ⟨some 15, none, .mv, [.tm 16]⟩] [4, 10, 15]) (.cond (.tm 15) (.seq (.reg [⟨some 17, none, .mv, [.tm 4]⟩, ⟨some 18, none, .po (.bin .sub), [.cn (.n .i64 1073741824), .tm 17]⟩, ⟨some 19, none, .call 146, [.tm 18]⟩, ⟨some 2, none, .mv, [.tm 19]⟩] [2]) .ret) (.seq (.reg [⟨some 21, none, .po (.bin .eql), [.tm 10, .cn (.n .i64 2)]⟩, ⟨some 20, none, .mv, [.tm 21]⟩] [4, 20]) (.cond (.tm 20) (.seq (.reg [⟨some 22, none, .mv, [.tm 4]⟩, ⟨some 23, none, .call 146, [.tm 22]⟩, ⟨some 24, none, .po (.un .neg), [.tm 23]⟩, ⟨some 2, none, .mv, [.tm 24]⟩] [2]) .ret) .skip)))))))) (.seq (.reg [⟨some 25, none, .mv, [.tm 4]⟩, ⟨some 26, none, .po (.bin .sub), [.cn (.n .i64 1073741824), .tm 25]⟩, ⟨some 27, none, .call 146, [.tm 26]⟩, ⟨some 28, none, .po (.un .neg), [.tm 27]⟩, ⟨some 2, none, .mv, [.tm 28]⟩] [2]) .ret)))), [.tm 2]⟩
theorem of97 : Fn1.of Tryz.prog 97 ⟨false, [], false⟩ [[0], [3], [3, 4], [4, 10], [4, 10, 11], [2], [4, 10, 15], [2], [4, 20], [2], [2]] = some F97 := by kernel_rfl
/-- spyglass/trig.Cos -/
def F96 : Fn1 := ⟨7, .seq (.reg [⟨some 2, none, .mv, [.cn (.n .i64 0)]⟩] [0]) (.seq (.reg [⟨some 3, none, .mv, [.tm 0]⟩, ⟨some 4, none, .po (.bin .and), [.tm 3, .cn (.n .i64 4294967295)]⟩, ⟨some 5, none, .po (.bin .add), [.tm 4, .cn (.n .i64 1073741824)]⟩, ⟨some 6, none, .call 97, [.tm 5]⟩, ⟨some 2, none, .mv, [.tm 6]⟩] [2]) .ret), [.tm 2]⟩
theorem of96 : Fn1.of Tryz.prog 96 ⟨false, [], false⟩ [[0], [2]] = some F96 := by kernel_rfl
/-- A product in units of 2^-60. -/
def tms (a b : Int) : Int := a * b / 1152921504606846976
theorem tms_le {a b : Int} (ha : 0 ≤ a) (hb : 0 ≤ b ∧ b ≤ 1152921504606846976) : 0 ≤ tms a b ∧ tms a b ≤ a := by
  refine ⟨Int.ediv_nonneg (Int.mul_nonneg ha hb.1) (by decide), ?_⟩
  have := Int.ediv_le_ediv (show (0 : Int) < 1152921504606846976 by decide) (Int.mul_le_mul_of_nonneg_left hb.2 ha)
  rwa [Int.mul_ediv_cancel _ (by decide)] at this
def serF (u : Int) : List Int → Int → Int
  | [], s => s
  | k :: l, s => serF u l (1152921504606846976 - tms u s / k)
theorem ser_step {u s k : Int} (hu : 0 ≤ u ∧ u ≤ 1152921504606846976) (hs : 0 ≤ s ∧ s ≤ 1152921504606846976) (hk : 2 ≤ k) : 0 ≤ tms u s / k ∧ tms u s / k ≤ 576460752303423488 := by
  obtain ⟨h1, h2⟩ := tms_le hu.1 hs
  refine ⟨Int.ediv_nonneg h1 (by omega), ?_⟩
  have := Int.ediv_lt_of_lt_mul (show 0 < k by omega) (show tms u s < (576460752303423488 + 1) * k by omega)
  omega
theorem serF_in {u : Int} (hu : 0 ≤ u ∧ u ≤ 1152921504606846976) : ∀ {l : List Int} {s : Int}, (∀ k ∈ l, 2 ≤ k) → 0 ≤ s ∧ s ≤ 1152921504606846976 → 0 ≤ serF u l s ∧ serF u l s ≤ 1152921504606846976
  | [], s, _, hs => hs
  | k :: l, s, hl, hs => by
    have h1 := ser_step hu hs (hl k (by simp))
    have h2 : 0 ≤ 1152921504606846976 - tms u s / k ∧ 1152921504606846976 - tms u s / k ≤ 1152921504606846976 := by omega
    exact serF_in (l := l) (s := 1152921504606846976 - tms u s / k) hu (fun k hk => hl k (by simp [hk])) h2
abbrev lows : List Int := [156, 110, 72, 42, 20, 6]
abbrev highs : List Int := [182, 132, 90, 56, 30, 12, 2]
/-- The sine of t, from 0 to a quarter. -/
def quarX (t : Int) : Int := t * 1811004864519280710 / 1073741824
def quarF (t : Int) : Int :=
  if t > 536870912 then (serF (tms (quarX (1073741824 - t)) (quarX (1073741824 - t))) highs 1152921504606846976 + 536870912) / 1073741824
  else (tms (quarX t) (serF (tms (quarX t) (quarX t)) lows 1152921504606846976) + 536870912) / 1073741824
theorem quarX_in {t : Int} (h : 0 ≤ t ∧ t ≤ 536870912) : 0 ≤ quarX t ∧ quarX t ≤ 905502432259640355 := by
  unfold quarX
  omega
theorem quarF_in {t : Int} (h : 0 ≤ t ∧ t ≤ 1073741824) : 0 ≤ quarF t ∧ quarF t ≤ 1073741824 := by
  unfold quarF
  split
  · have hx := quarX_in (t := 1073741824 - t) (by omega)
    have hu := tms_le (a := quarX (1073741824 - t)) (b := quarX (1073741824 - t)) hx.1 (by omega)
    have := serF_in (u := tms (quarX (1073741824 - t)) (quarX (1073741824 - t))) (by omega) (l := highs) (s := 1152921504606846976) (by decide) (by decide)
    omega
  · have hx := quarX_in (t := t) (by omega)
    have hu := tms_le (a := quarX t) (b := quarX t) hx.1 (by omega)
    have hs := serF_in (u := tms (quarX t) (quarX t)) (by omega) (l := lows) (s := 1152921504606846976) (by decide) (by decide)
    have := tms_le (a := quarX t) (b := serF (tms (quarX t) (quarX t)) lows 1152921504606846976) hx.1 hs
    omega
def sinF (a : Int) : Int :=
  let r := a % 4294967296
  if r ≤ 1073741824 then quarF r else if r ≤ 2147483648 then quarF (2147483648 - r) else if r ≤ 3221225472 then -quarF (r - 2147483648) else -quarF (4294967296 - r)
theorem sinF_mod (a : Int) : sinF (a % 4294967296) = sinF a := by unfold sinF; rw [Int.emod_emod]
theorem sinF_in (a : Int) : -1073741824 ≤ sinF a ∧ sinF a ≤ 1073741824 := by
  unfold sinF
  simp only
  split
  · have := quarF_in (t := a % 4294967296) (by omega); omega
  · split
    · have := quarF_in (t := 2147483648 - a % 4294967296) (by omega); omega
    · split
      · have := quarF_in (t := a % 4294967296 - 2147483648) (by omega); omega
      · have := quarF_in (t := 4294967296 - a % 4294967296) (by omega); omega
theorem times_ok (a b : Int) (ha : 0 ≤ a ∧ a ≤ 1152921504606846976) (hb : 0 ≤ b ∧ b ≤ 1152921504606846976) : Pure Tryz.prog 177 [.n .i64 a, .n .i64 b] (.n .i64 (tms a b)) := by
  refine pure_of_wp of177 (Nat.le_of_ble_eq_true rfl) ?_
  have h := tms_le ha.1 hb
  have t1 := mulDiv_ok a b 1152921504606846976 (by unfold fits; omega) (by unfold fits; omega) (by decide)
  rw [quoT, if_neg (by decide), if_pos (by unfold tms at h; unfold fits; omega)] at t1
  refine CallK.mk _ t1 rfl ?_
  ((repeat' first | refine DecK.tt ?_ | refine DecK.ff ?_ | refine DecK.beq (fun _ => ?_) (fun _ => ?_) | refine DecK.bne (fun _ => ?_) (fun _ => ?_) | refine DecK.dec (fun _ => ?_) (fun _ => ?_) | refine OptK.mk _ rfl ?_ | refine endV (by rfl) ?_) <;> (try with_reducible rfl))
  rfl
theorem series_ok (u : Int) (l : List Int) (t : Bool) (hu : 0 ≤ u ∧ u ≤ 1152921504606846976) (hl : ∀ k ∈ l, 2 ≤ k ∧ k ≤ 1000) (hll : l.length ≤ 1000) : Pure Tryz.prog 178 [.n .i64 u, .sl l.length (l.flatMap ni) t] (.n .i64 (serF u l 1152921504606846976)) := by
  refine pure_of_wp of178 (Nat.le_of_ble_eq_true rfl) ?_
  refine loop_ind2 (fun (s i : Int) => ⟨[(0, .v (.n .i64 u)), (5, .v (.n .i64 s)), (8, .v (.sl l.length (l.flatMap ni) t)), (9, .v (.n .i64 l.length)), (10, .v (.n .i64 i))], []⟩) (fun s i => l.length - i.toNat)
    (fun s i => 0 ≤ i ∧ i ≤ l.length ∧ 0 ≤ s ∧ s ≤ 1152921504606846976 ∧ serF u (l.drop i.toNat) s = serF u l 1152921504606846976) _ _ (by simp) ?_
  intro s iz ⟨h1, h2, h3, h4, h5⟩ ih
  obtain ⟨i, rfl⟩ : ∃ i : Nat, iz = i := ⟨iz.toNat, by omega⟩
  simp only [Int.toNat_natCast] at h5
  refine DecK.dec (fun h => ?_) (fun h => ?_)
  · obtain ⟨k, hx, ex⟩ := drop_at (l := l) (k := i) (by omega)
    have bk := hl k (List.mem_of_getElem? hx)
    have hs := ser_step hu ⟨h3, h4⟩ bk.1
    have ht := tms_le hu.1 ⟨h3, h4⟩
    refine OptK.mk _ (ria i rfl (by omega)) ?_
    refine OptK.mk _ (rld1 (g := fun x => .n .i64 x) hx) ?_
    refine CallK.mk _ (times_ok u s hu ⟨h3, h4⟩) rfl ?_
    refine OptK.mk _ (op_quo (by omega)) ?_
    have w1 : IntKind.i64.wrap ((tms u s).tdiv k) = tms u s / k := by rw [Int.tdiv_eq_ediv_of_nonneg ht.1, w64 (by omega)]
    have w2 : IntKind.i64.wrap (1152921504606846976 - tms u s / k) = 1152921504606846976 - tms u s / k := w64 (by omega)
    have wi : IntKind.i64.wrap ((i : Int) + 1) = ((i + 1 : Nat) : Int) := by simp (discharger := omega) only [w64, wu64, wu8, w32, wu32, tdivC, tmodC]; omega
    refine ih _ _ ⟨?_, ?_, ?_, ?_, ?_⟩ ?_
    all_goals simp only [w1, w2, wi, Int.toNat_natCast]
    · omega
    · omega
    · omega
    · omega
    · rw [ex, serF] at h5; exact h5
    · omega
  · ((repeat' first | refine DecK.tt ?_ | refine DecK.ff ?_ | refine DecK.beq (fun _ => ?_) (fun _ => ?_) | refine DecK.bne (fun _ => ?_) (fun _ => ?_) | refine DecK.dec (fun _ => ?_) (fun _ => ?_) | refine OptK.mk _ rfl ?_ | refine endV (by rfl) ?_) <;> (try with_reducible rfl))
    rw [List.drop_eq_nil_of_le (by omega), serF] at h5
    rw [h5]
theorem rnd_30 {v : Int} (h : 0 ≤ v) : rnd v 1073741824 = (v + 536870912) / 1073741824 := by rw [rnd, if_neg (by omega)]; omega
theorem quarter_ok (t : Int) (ht : 0 ≤ t ∧ t ≤ 1073741824) : Pure Tryz.prog 146 [.n .i64 t] (.n .i64 (quarF t)) := by
  refine pure_of_wp of146 (Nat.le_of_ble_eq_true rfl) ?_
  have mx : ∀ y : Int, 0 ≤ y ∧ y ≤ 536870912 → Pure Tryz.prog 108 [.n .i64 y, .n .i64 1811004864519280710, .n .i64 1073741824] (.tup [.n .i64 (quarX y), .n .i64 0]) := fun y hy => by
    have := mulDiv_ok y 1811004864519280710 1073741824 (by unfold fits; omega) (by decide) (by decide)
    rwa [quoT, if_neg (by decide), if_pos (by unfold fits; omega)] at this
  refine DecK.dec (fun h => ?_) (fun h => ?_)
  · have w1 : IntKind.i64.wrap (1073741824 - t) = 1073741824 - t := w64 (by omega)
    have hx := quarX_in (t := 1073741824 - t) (by omega)
    have hu := tms_le (a := quarX (1073741824 - t)) (b := quarX (1073741824 - t)) hx.1 (by omega)
    have hs := serF_in (u := tms (quarX (1073741824 - t)) (quarX (1073741824 - t))) (by omega) (l := highs) (s := 1152921504606846976) (by decide) (by decide)
    refine CallK.mk _ ((mx (1073741824 - t) (by omega)).args (by rw [w1])) rfl ?_
    refine CallK.mk _ (times_ok _ _ (by omega) (by omega)) rfl ?_
    refine DecK.yes (decide_eq_true h) ?_
    refine CallK.mk _ (series_ok _ highs true (by omega) (by decide) (by decide)) rfl ?_
    refine CallK.mk _ (roundDiv_ok _ 1073741824 (by unfold fits; omega) (by decide)) rfl ?_
    ((repeat' first | refine DecK.tt ?_ | refine DecK.ff ?_ | refine DecK.beq (fun _ => ?_) (fun _ => ?_) | refine DecK.bne (fun _ => ?_) (fun _ => ?_) | refine DecK.dec (fun _ => ?_) (fun _ => ?_) | refine OptK.mk _ rfl ?_ | refine endV (by rfl) ?_) <;> (try with_reducible rfl))
    rw [if_neg (by decide), rnd_30 hs.1, quarF, if_pos h]
  · have hx := quarX_in (t := t) (by omega)
    have hu := tms_le (a := quarX t) (b := quarX t) hx.1 (by omega)
    have hs := serF_in (u := tms (quarX t) (quarX t)) (by omega) (l := lows) (s := 1152921504606846976) (by decide) (by decide)
    have hv := tms_le (a := quarX t) (b := serF (tms (quarX t) (quarX t)) lows 1152921504606846976) hx.1 hs
    refine CallK.mk _ (mx t (by omega)) rfl ?_
    refine CallK.mk _ (times_ok _ _ (by omega) (by omega)) rfl ?_
    refine DecK.no (decide_eq_false h) ?_
    refine CallK.mk _ (series_ok _ lows true (by omega) (by decide) (by decide)) rfl ?_
    refine CallK.mk _ (times_ok _ _ (by omega) (by omega)) rfl ?_
    refine CallK.mk _ (roundDiv_ok _ 1073741824 (by unfold fits; omega) (by decide)) rfl ?_
    ((repeat' first | refine DecK.tt ?_ | refine DecK.ff ?_ | refine DecK.beq (fun _ => ?_) (fun _ => ?_) | refine DecK.bne (fun _ => ?_) (fun _ => ?_) | refine DecK.dec (fun _ => ?_) (fun _ => ?_) | refine OptK.mk _ rfl ?_ | refine endV (by rfl) ?_) <;> (try with_reducible rfl))
    rw [if_neg (by decide), rnd_30 hv.1, quarF, if_neg h]
/-- A mask of low bits, whatever the sign. -/
theorem and_mask {a : Int} (h : fits a) (k : Nat) (hk : k ≤ 62) : IntKind.i64.wrap ((BitVec.ofInt IntKind.i64.bits a &&& BitVec.ofInt IntKind.i64.bits (2 ^ k - 1)).toNat : Nat) = a % 2 ^ k := by
  have hp : 2 ^ k ≤ 4611686018427387904 := Nat.pow_le_pow_right (n := 2) (by decide) (show k ≤ 62 from hk)
  have hp0 : 0 < 2 ^ k := Nat.pow_pos (by decide)
  have e1 : (BitVec.ofInt IntKind.i64.bits a &&& BitVec.ofInt IntKind.i64.bits (2 ^ k - 1)).toNat = (a % 18446744073709551616).toNat % 2 ^ k := by
    show (BitVec.ofInt 64 a &&& BitVec.ofInt 64 (2 ^ k - 1)).toNat = _
    have e : ((2 : Int) ^ k - 1) = ((2 ^ k - 1 : Nat) : Int) := by rw [Int.natCast_sub hp0, Int.natCast_pow]; rfl
    rw [BitVec.toNat_and, e, BitVec.ofInt_natCast, BitVec.toNat_ofNat, Nat.mod_eq_of_lt (by omega), Nat.and_two_pow_sub_one_eq_mod]
    rfl
  have e2 : (((a % 18446744073709551616).toNat % 2 ^ k : Nat) : Int) = a % 2 ^ k := by
    rw [Int.natCast_emod, Int.toNat_of_nonneg (Int.emod_nonneg _ (by decide)), Int.natCast_pow]
    show a % 18446744073709551616 % 2 ^ k = a % 2 ^ k
    refine Int.emod_emod_of_dvd a ⟨2 ^ (64 - k), ?_⟩
    rw [← Int.pow_add, show k + (64 - k) = 64 by omega]
    rfl
  rw [e1, e2]
  have h1 := Int.emod_nonneg a (show (2 : Int) ^ k ≠ 0 by have : (0 : Int) < 2 ^ k := Int.pow_pos (by decide); omega)
  have h2 := Int.emod_lt_of_pos a (show (0 : Int) < 2 ^ k from Int.pow_pos (by decide))
  have h3 : (2 : Int) ^ k = ((2 ^ k : Nat) : Int) := by rw [Int.natCast_pow]; rfl
  exact w64 (by omega)
theorem sin_ok (a : Int) (ha : fits a) : Pure Tryz.prog 97 [.n .i64 a] (.n .i64 (sinF a)) := by
  refine pure_of_wp of97 (Nat.le_of_ble_eq_true rfl) ?_
  have m1 := and_mask ha 32 (by decide)
  have m2 := and_mask (a := a % 4294967296) (by unfold fits; omega) 30 (by decide)
  have hr0 : 0 ≤ a % 4294967296 ∧ a % 4294967296 < 4294967296 := by omega
  obtain ⟨r, hr⟩ : ∃ r, r = a % 4294967296 := ⟨_, rfl⟩
  have m1 : IntKind.i64.wrap ((BitVec.ofInt IntKind.i64.bits a &&& BitVec.ofInt IntKind.i64.bits 4294967295).toNat : Nat) = r := by rw [hr]; exact m1
  rw [← hr] at m2 hr0
  have m2 : IntKind.i64.wrap ((BitVec.ofInt IntKind.i64.bits r &&& BitVec.ofInt IntKind.i64.bits 1073741823).toNat : Nat) = r % 1073741824 := m2
  have w1 : IntKind.i64.wrap (r.tdiv 1073741824) = r / 1073741824 := by rw [Int.tdiv_eq_ediv_of_nonneg hr0.1, w64 (by omega)]
  have w2 : IntKind.i64.wrap (1073741824 - r % 1073741824) = 1073741824 - r % 1073741824 := w64 (by omega)
  have ng : ∀ y : Int, 0 ≤ y ∧ y ≤ 1073741824 → IntKind.i64.wrap (0 - quarF y) = -quarF y := fun y hy => by have := quarF_in hy; rw [w64 (by omega)]; omega
  have q0 : quarF 0 = 0 := by decide +kernel
  have eS : sinF a = if r ≤ 1073741824 then quarF r else if r ≤ 2147483648 then quarF (2147483648 - r) else if r ≤ 3221225472 then -quarF (r - 2147483648) else -quarF (4294967296 - r) := by rw [hr]; rfl
  rw [eS]
  refine DecK.beq (fun h => ?_) (fun h => ?_)
  · rw [m1, w1] at h
    refine CallK.mk _ ((quarter_ok (r % 1073741824) (by omega)).args (by rw [m1, m2])) rfl ?_
    ((repeat' first | refine DecK.tt ?_ | refine DecK.ff ?_ | refine DecK.beq (fun _ => ?_) (fun _ => ?_) | refine DecK.bne (fun _ => ?_) (fun _ => ?_) | refine DecK.dec (fun _ => ?_) (fun _ => ?_) | refine OptK.mk _ rfl ?_ | refine endV (by rfl) ?_) <;> (try with_reducible rfl))
    rw [if_pos (by omega), show r % 1073741824 = r by omega]
  refine DecK.beq (fun h1 => ?_) (fun h1 => ?_)
  · rw [m1, w1] at h h1
    refine CallK.mk _ ((quarter_ok (1073741824 - r % 1073741824) (by omega)).args (by rw [m1, m2, w2])) rfl ?_
    ((repeat' first | refine DecK.tt ?_ | refine DecK.ff ?_ | refine DecK.beq (fun _ => ?_) (fun _ => ?_) | refine DecK.bne (fun _ => ?_) (fun _ => ?_) | refine DecK.dec (fun _ => ?_) (fun _ => ?_) | refine OptK.mk _ rfl ?_ | refine endV (by rfl) ?_) <;> (try with_reducible rfl))
    by_cases e : r = 1073741824
    · rw [if_pos (by omega), e]; rfl
    · rw [if_neg (by omega), if_pos (by omega), show 1073741824 - r % 1073741824 = 2147483648 - r by omega]
  refine DecK.beq (fun h2 => ?_) (fun h2 => ?_)
  · rw [m1, w1] at h h1 h2
    refine CallK.mk _ ((quarter_ok (r % 1073741824) (by omega)).args (by rw [m1, m2])) rfl ?_
    ((repeat' first | refine DecK.tt ?_ | refine DecK.ff ?_ | refine DecK.beq (fun _ => ?_) (fun _ => ?_) | refine DecK.bne (fun _ => ?_) (fun _ => ?_) | refine DecK.dec (fun _ => ?_) (fun _ => ?_) | refine OptK.mk _ rfl ?_ | refine endV (by rfl) ?_) <;> (try with_reducible rfl))
    rw [ng _ (by omega)]
    by_cases e : r = 2147483648
    · subst e
      rw [if_neg (by decide), if_pos (by decide)]
      show V.n .i64 (-quarF 0) = V.n .i64 (quarF 0)
      rw [q0]; rfl
    · rw [if_neg (by omega), if_neg (by omega), if_pos (by omega), show r % 1073741824 = r - 2147483648 by omega]
  · rw [m1, w1] at h h1 h2
    refine CallK.mk _ ((quarter_ok (1073741824 - r % 1073741824) (by omega)).args (by rw [m1, m2, w2])) rfl ?_
    ((repeat' first | refine DecK.tt ?_ | refine DecK.ff ?_ | refine DecK.beq (fun _ => ?_) (fun _ => ?_) | refine DecK.bne (fun _ => ?_) (fun _ => ?_) | refine DecK.dec (fun _ => ?_) (fun _ => ?_) | refine OptK.mk _ rfl ?_ | refine endV (by rfl) ?_) <;> (try with_reducible rfl))
    rw [ng _ (by omega)]
    by_cases e : r = 3221225472
    · subst e
      rw [if_neg (by decide), if_neg (by decide), if_pos (by decide)]
      rfl
    · rw [if_neg (by omega), if_neg (by omega), if_neg (by omega), show 1073741824 - r % 1073741824 = 4294967296 - r by omega]
theorem cos_ok (a : Int) (ha : fits a) : Pure Tryz.prog 96 [.n .i64 a] (.n .i64 (sinF (a + 1073741824))) := by
  refine pure_of_wp of96 (Nat.le_of_ble_eq_true rfl) ?_
  have m1 : IntKind.i64.wrap ((BitVec.ofInt IntKind.i64.bits a &&& BitVec.ofInt IntKind.i64.bits 4294967295).toNat : Nat) = a % 4294967296 := and_mask ha 32 (by decide)
  have w : IntKind.i64.wrap (a % 4294967296 + 1073741824) = a % 4294967296 + 1073741824 := w64 (by omega)
  refine CallK.mk _ ((sin_ok (a % 4294967296 + 1073741824) (by unfold fits; omega)).args (by rw [m1, w])) rfl ?_
  ((repeat' first | refine DecK.tt ?_ | refine DecK.ff ?_ | refine DecK.beq (fun _ => ?_) (fun _ => ?_) | refine DecK.bne (fun _ => ?_) (fun _ => ?_) | refine DecK.dec (fun _ => ?_) (fun _ => ?_) | refine OptK.mk _ rfl ?_ | refine endV (by rfl) ?_) <;> (try with_reducible rfl))
  rw [← sinF_mod, ← sinF_mod (a + 1073741824), show (a % 4294967296 + 1073741824) % 4294967296 = (a + 1073741824) % 4294967296 by omega]
end Go.Proofs.YtciigfeecmnghaaRRRRGreatRR.Sv
