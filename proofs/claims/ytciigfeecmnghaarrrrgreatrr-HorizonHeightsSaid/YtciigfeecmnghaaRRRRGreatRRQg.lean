/- Sines and cosines of what is known within bounds. No condition. -/
import Derived.Test.YtciigfeecmnghaaRRRRGreatRRQc
import Derived.Test.YtciigfeecmnghaaRRRRGreatRRBbArc
import Derived.Test.YtciigfeecmnghaaRRRRGreatRRBbFix
import Derived.Test.YtciigfeecmnghaaRRRRGreatRRBe
namespace Go.Proofs.YtciigfeecmnghaaRRRRGreatRR.Sv
open Go Go.RowKit
set_option linter.unusedVariables false
set_option linter.unusedSimpArgs false
set_option maxRecDepth 100000
/-- spyglass/trig.meets -/
def F149 : Fn1 := ⟨16, .seq (.reg [⟨some 2, none, .box, [.tm 0]⟩, ⟨some 4, none, .mv, [.cn (.b false)]⟩] [1, 2]) (.seq (.dreg [⟨some 5, none, .fa 1, [.tm 2]⟩, ⟨some 6, none, .ld false 1 false, [.tm 5]⟩, ⟨some 7, none, .mv, [.tm 1]⟩, ⟨some 8, none, .po (.bin .sub), [.tm 6, .tm 7]⟩, ⟨some 9, none, .call 180, [.tm 8, .cn (.n .i64 4294967296)]⟩, ⟨some 10, none, .fa 0, [.tm 2]⟩, ⟨some 11, none, .ld false 1 false, [.tm 10]⟩, ⟨some 12, none, .mv, [.tm 1]⟩, ⟨some 13, none, .po (.bin .sub), [.tm 11, .tm 12]⟩, ⟨some 14, none, .call 181, [.tm 13, .cn (.n .i64 4294967296)]⟩, ⟨some 15, none, .po (.bin .geq), [.tm 9, .tm 14]⟩, ⟨some 4, none, .mv, [.tm 15]⟩] [] [4]) .ret), [.tm 4]⟩
theorem of149 : Fn1.of Tryz.prog 149 ⟨false, [], false⟩ [[1, 2], [4]] = some F149 := by kernel_rfl
/-- spyglass/trig.wave -/
def F105 : Fn1 := ⟨44, .seq (.reg [⟨some 3, none, .box, [.tm 0]⟩, ⟨some 6, none, .alloc [.n .i64 0, .n .i64 0, .b false], []⟩] [1, 2, 3, 6]) (.seq (.seq (.reg [⟨some 11, none, .ld true 3 false, [.tm 3]⟩, ⟨some 12, none, .call 148, [.tm 11]⟩, ⟨none, none, .st 3, [.tm 3, .tm 12]⟩] [1, 2, 3, 6]) (.seq (.reg [⟨some 13, none, .fa 2, [.tm 3]⟩, ⟨some 14, none, .ld false 1 false, [.tm 13]⟩] [1, 2, 3, 6, 14]) (.cond (.tm 14) (.seq (.reg [⟨some 15, none, .call 33, []⟩, ⟨none, none, .st 3, [.tm 6, .tm 15]⟩] [6]) .ret) .skip))) (.seq (.dreg [⟨some 16, none, .mv, [.tm 1]⟩, ⟨some 17, none, .fa 0, [.tm 3]⟩, ⟨some 18, none, .ld false 1 false, [.tm 17]⟩, ⟨some 19, none, .callD, [.tm 16, .tm 18]⟩, ⟨some 20, none, .mv, [.tm 1]⟩, ⟨some 21, none, .fa 1, [.tm 3]⟩, ⟨some 22, none, .ld false 1 false, [.tm 21]⟩, ⟨some 23, none, .callD, [.tm 20, .tm 22]⟩, ⟨some 7, none, .mv, [.tm 19]⟩, ⟨some 8, none, .mv, [.tm 23]⟩] [] [2, 3, 6, 7, 8]) (.seq (.reg [⟨some 24, none, .mv, [.tm 7]⟩, ⟨some 25, none, .mv, [.tm 8]⟩, ⟨some 26, none, .po .mn, [.tm 24, .tm 25]⟩, ⟨some 27, none, .po (.bin .sub), [.tm 26, .cn (.n .i64 1)]⟩, ⟨some 28, none, .po .mx, [.cn (.n .i64 (-1073741824)), .tm 27]⟩, ⟨some 29, none, .mv, [.tm 7]⟩, ⟨some 30, none, .mv, [.tm 8]⟩, ⟨some 31, none, .po .mx, [.tm 29, .tm 30]⟩, ⟨some 32, none, .po (.bin .add), [.tm 31, .cn (.n .i64 1)]⟩, ⟨some 33, none, .po .mn, [.cn (.n .i64 1073741824), .tm 32]⟩, ⟨some 9, none, .mv, [.tm 28]⟩, ⟨some 10, none, .mv, [.tm 33]⟩] [2, 3, 6, 9, 10]) (.seq (.seq (.reg [⟨some 34, none, .ld true 3 false, [.tm 3]⟩, ⟨some 35, none, .mv, [.tm 2]⟩, ⟨some 36, none, .call 149, [.tm 34, .tm 35]⟩] [2, 3, 6, 9, 10, 36]) (.cond (.tm 36) (.reg [⟨some 10, none, .mv, [.cn (.n .i64 1073741824)]⟩] [2, 3, 6, 9, 10]) .skip)) (.seq (.seq (.reg [⟨some 37, none, .ld true 3 false, [.tm 3]⟩, ⟨some 38, none, .mv, [.tm 2]⟩, ⟨some 39, none, .po (.bin .add), [.tm 38, .cn (.n .i64 2147483648)]⟩, ⟨some 40, none, .call 149, [.tm 37, .tm 39]⟩] [6, 9, 10, 40]) (.cond (.tm 40) (.reg [⟨some 9, none, .mv, [.cn (.n .i64 (-1073741824))]⟩] [6, 9, 10]) .skip)) (.seq (.reg [⟨some 41, none, .mv, [.tm 9]⟩, ⟨some 42, none, .mv, [.tm 10]⟩, ⟨some 43, none, .call 46, [.tm 41, .tm 42]⟩, ⟨none, none, .st 3, [.tm 6, .tm 43]⟩] [6]) .ret)))))), [.cell 6 true 3]⟩
theorem of105 : Fn1.of Tryz.prog 105 ⟨false, [], false⟩ [[1, 2, 3, 6], [1, 2, 3, 6], [1, 2, 3, 6, 14], [6], [2, 3, 6, 7, 8], [2, 3, 6, 9, 10], [2, 3, 6, 9, 10, 36], [2, 3, 6, 9, 10], [6, 9, 10, 40], [6, 9, 10], [6]] = some F105 := by kernel_rfl
/-- spyglass/trig.SinBound -/
def F40 : Fn1 := ⟨5, .seq (.reg [⟨some 1, none, .box, [.tm 0]⟩, ⟨some 2, none, .alloc [.n .i64 0, .n .i64 0, .b false], []⟩] [1, 2]) (.seq (.reg [⟨some 3, none, .ld true 3 false, [.tm 1]⟩, ⟨some 4, none, .call 105, [.tm 3, .cn (.clo (.func 97) [] []), .cn (.n .i64 1073741824)]⟩, ⟨none, none, .st 3, [.tm 2, .tm 4]⟩] [2]) .ret), [.cell 2 true 3]⟩
theorem of40 : Fn1.of Tryz.prog 40 ⟨false, [], false⟩ [[1, 2], [2]] = some F40 := by kernel_rfl
/-- spyglass/trig.CosBound -/
def F39 : Fn1 := ⟨5, .seq (.reg [⟨some 1, none, .box, [.tm 0]⟩, ⟨some 2, none, .alloc [.n .i64 0, .n .i64 0, .b false], []⟩] [1, 2]) (.seq (.reg [⟨some 3, none, .ld true 3 false, [.tm 1]⟩, ⟨some 4, none, .call 105, [.tm 3, .cn (.clo (.func 96) [] []), .cn (.n .i64 0)]⟩, ⟨none, none, .st 3, [.tm 2, .tm 4]⟩] [2]) .ret), [.cell 2 true 3]⟩
theorem of39 : Fn1.of Tryz.prog 39 ⟨false, [], false⟩ [[1, 2], [2]] = some F39 := by kernel_rfl
/-- spyglass/spyref1.Waved -/
def F52 : Fn1 := ⟨49, .seq (.reg [⟨some 3, none, .box, [.tm 0]⟩, ⟨some 6, none, .alloc [.n .i64 0, .n .i64 0, .b false], []⟩] [1, 2, 3, 6]) (.seq (.seq (.reg [⟨some 11, none, .ld true 3 false, [.tm 3]⟩, ⟨some 12, none, .call 118, [.tm 11]⟩, ⟨some 13, none, .po (.bin .neq), [.tm 12, .cn (.n .i64 0)]⟩, ⟨some 14, none, .mv, [.tm 13]⟩, ⟨some 15, some (14, false), .fa 2, [.tm 3]⟩, ⟨some 16, some (14, false), .ld false 1 false, [.tm 15]⟩, ⟨some 17, none, .pick, [.tm 14, .cn (.b true), .tm 16]⟩] [1, 2, 3, 6, 17]) (.cond (.tm 17) (.seq (.reg [⟨some 18, none, .po (.build [.n .i64 0, .n .i64 0, .b false] [(2, 1)]), [.cn (.b true)]⟩, ⟨none, none, .st 3, [.tm 6, .tm 18]⟩] [6]) .ret) .skip)) (.seq (.reg [⟨some 19, none, .po (.mkF (.func 124) 0), [.tm 3]⟩, ⟨some 7, none, .mv, [.tm 19]⟩] [1, 2, 3, 6, 7]) (.seq (.dreg [⟨some 20, none, .mv, [.tm 1]⟩, ⟨some 21, none, .fa 0, [.tm 3]⟩, ⟨some 22, none, .ld false 1 false, [.tm 21]⟩, ⟨some 23, none, .callD, [.tm 20, .tm 22]⟩, ⟨some 24, none, .mv, [.tm 1]⟩, ⟨some 25, none, .fa 1, [.tm 3]⟩, ⟨some 26, none, .ld false 1 false, [.tm 25]⟩, ⟨some 27, none, .callD, [.tm 24, .tm 26]⟩, ⟨some 8, none, .mv, [.tm 23]⟩, ⟨some 9, none, .mv, [.tm 27]⟩] [] [2, 6, 7, 8, 9]) (.seq (.reg [⟨some 28, none, .mv, [.tm 8]⟩, ⟨some 29, none, .mv, [.tm 9]⟩, ⟨some 30, none, .po .mn, [.tm 28, .tm 29]⟩, ⟨some 31, none, .po (.bin .sub), [.tm 30, .cn (.n .i64 1)]⟩, ⟨some 32, none, .po .mx, [.tm 31, .cn (.n .i64 (-1073741824))]⟩, ⟨some 33, none, .mv, [.tm 8]⟩, ⟨some 34, none, .mv, [.tm 9]⟩, ⟨some 35, none, .po .mx, [.tm 33, .tm 34]⟩, ⟨some 36, none, .po (.bin .add), [.tm 35, .cn (.n .i64 1)]⟩, ⟨some 37, none, .po .mn, [.tm 36, .cn (.n .i64 1073741824)]⟩, ⟨some 38, none, .po (.build [.n .i64 0, .n .i64 0, .b false] [(0, 1), (1, 1)]), [.tm 32, .tm 37]⟩, ⟨some 10, none, .alloc [.n .i64 0, .n .i64 0, .b false], []⟩, ⟨none, none, .st 3, [.tm 10, .tm 38]⟩] [2, 6, 7, 10]) (.seq (.seq (.reg [⟨some 39, none, .mv, [.tm 7]⟩, ⟨some 40, none, .mv, [.tm 2]⟩, ⟨some 41, none, .callD, [.tm 39, .tm 40]⟩] [2, 6, 7, 10, 41]) (.cond (.tm 41) (.reg [⟨some 42, none, .fa 1, [.tm 10]⟩, ⟨none, none, .st 1, [.tm 42, .cn (.n .i64 1073741824)]⟩] [2, 6, 7, 10]) .skip)) (.seq (.seq (.reg [⟨some 43, none, .mv, [.tm 7]⟩, ⟨some 44, none, .mv, [.tm 2]⟩, ⟨some 45, none, .po (.bin .add), [.tm 44, .cn (.n .i64 2147483648)]⟩, ⟨some 46, none, .callD, [.tm 43, .tm 45]⟩] [6, 10, 46]) (.cond (.tm 46) (.reg [⟨some 47, none, .fa 0, [.tm 10]⟩, ⟨none, none, .st 1, [.tm 47, .cn (.n .i64 (-1073741824))]⟩] [6, 10]) .skip)) (.seq (.reg [⟨some 48, none, .ld true 3 false, [.tm 10]⟩, ⟨none, none, .st 3, [.tm 6, .tm 48]⟩] [6]) .ret))))))), [.cell 6 true 3]⟩
theorem of52 : Fn1.of Tryz.prog 52 ⟨false, [], false⟩ [[1, 2, 3, 6], [1, 2, 3, 6, 17], [6], [1, 2, 3, 6, 7], [2, 6, 7, 8, 9], [2, 6, 7, 10], [2, 6, 7, 10, 41], [2, 6, 7, 10], [6, 10, 46], [6, 10], [6]] = some F52 := by kernel_rfl
/-- spyglass/spyref1.Waved$1 -/
def F124 : Fn1 := ⟨27, .seq (.reg [⟨some 3, none, .mv, [.cn (.b false)]⟩] [0, 1]) (.seq (.dreg [⟨some 7, none, .mv, [.tm 0]⟩, ⟨some 8, none, .call 48, [.tm 7]⟩, ⟨some 9, none, .fa 0, [.tm 1]⟩, ⟨some 10, none, .ld false 1 false, [.tm 9]⟩, ⟨some 11, none, .call 48, [.tm 10]⟩, ⟨some 12, none, .call 125, [.tm 8, .tm 11]⟩, ⟨some 13, none, .call 59, [.cn (.n .i64 32)]⟩, ⟨some 14, none, .call 126, [.tm 12, .tm 13]⟩, ⟨some 6, none, .mv, [.tm 14]⟩, ⟨some 15, none, .po (.ext 0), [.tm 6]⟩, ⟨some 16, none, .po (.ext 1), [.tm 6]⟩, ⟨some 4, none, .alloc [.b false, .sl 0 [] true], []⟩, ⟨some 5, none, .alloc [.b false, .sl 0 [] true], []⟩, ⟨none, none, .st 2, [.tm 4, .tm 15]⟩, ⟨none, none, .st 2, [.tm 5, .tm 16]⟩] [(10, 13)] [1, 5]) (.seq (.dreg [⟨some 17, none, .fa 0, [.tm 1]⟩, ⟨some 18, none, .ld false 1 false, [.tm 17]⟩, ⟨some 19, none, .call 48, [.tm 18]⟩, ⟨some 20, none, .ld true 2 false, [.tm 5]⟩, ⟨some 21, none, .call 50, [.tm 19, .tm 20]⟩, ⟨some 22, none, .fa 1, [.tm 1]⟩, ⟨some 23, none, .ld false 1 false, [.tm 22]⟩, ⟨some 24, none, .call 48, [.tm 23]⟩, ⟨some 25, none, .call 63, [.tm 21, .tm 24]⟩, ⟨some 26, none, .po (.bin .leq), [.tm 25, .cn (.n .i64 0)]⟩, ⟨some 3, none, .mv, [.tm 26]⟩] [] [3]) .ret)), [.tm 3]⟩
theorem of124 : Fn1.of Tryz.prog 124 ⟨false, [], false⟩ [[0, 1], [1, 5], [3]] = some F124 := by kernel_rfl
/-- An angle between lo and hi is c, but for whole turns. -/
def hitsB (lo hi c : Int) : Prop := lo + (c - lo) % 4294967296 ≤ hi
instance (lo hi c : Int) : Decidable (hitsB lo hi c) := by unfold hitsB; infer_instance
def waveB (F : Int → Int) (peak : Int) : Bd → Bd
  | none => none
  | some p => some (if hitsB p.1 p.2 (peak + 2147483648) then -1073741824 else max (-1073741824) (min (F p.1) (F p.2) - 1), if hitsB p.1 p.2 peak then 1073741824 else min 1073741824 (max (F p.1) (F p.2) + 1))
theorem wave_in {F : Int → Int} (hr : ∀ a, -1073741824 ≤ F a ∧ F a ≤ 1073741824) (peak : Int) (x : Bd) : bdOk (waveB F peak x) ∧ (∀ p, waveB F peak x = some p → -1073741824 ≤ p.1 ∧ p.2 ≤ 1073741824) := by
  rcases x with _ | ⟨a, b⟩
  · exact ⟨trivial, fun p h => by cases h⟩
  · have h1 := hr a
    have h2 := hr b
    refine ⟨?_, fun p h => ?_⟩
    · simp only [waveB, bdOk, bval]
      split <;> split <;> omega
    · simp only [waveB, Option.some.injEq] at h
      subst h
      simp only
      split <;> split <;> omega
theorem meets_ok (lo hi : Int) (u : Bool) (c : Int) (hb : bval lo hi) (hc : 0 ≤ c ∧ c ≤ 8589934592) : Pure Tryz.prog 149 [bdV lo hi u, .n .i64 c] (.b (decide (hitsB lo hi c))) := by
  refine pure_of_wp of149 (Nat.le_of_ble_eq_true rfl) ?_
  unfold bval at hb
  have w1 : IntKind.i64.wrap (hi - c) = hi - c := w64 (by omega)
  have w2 : IntKind.i64.wrap (lo - c) = lo - c := w64 (by omega)
  have t1 := floorDiv_ok (hi - c) 4294967296 (by unfold fits; omega) (by decide)
  have t2 := ceilDiv_ok (lo - c) 4294967296 (by unfold fits; omega) (by decide)
  rw [if_neg (by decide)] at t1 t2
  refine CallK.mk _ (t1.args (by rw [w1])) rfl ?_
  refine CallK.mk _ (t2.args (by rw [w2])) rfl ?_
  ((repeat' first | refine DecK.tt ?_ | refine DecK.ff ?_ | refine DecK.beq (fun _ => ?_) (fun _ => ?_) | refine DecK.bne (fun _ => ?_) (fun _ => ?_) | refine DecK.dec (fun _ => ?_) (fun _ => ?_) | refine OptK.mk _ rfl ?_ | refine endV (by rfl) ?_) <;> (try with_reducible rfl))
  refine congrArg V.b (decide_eq_decide.2 ?_)
  unfold hitsB cdiv
  omega
theorem wave_ok (g : Nat) (F : Int → Int) (hF : ∀ a, fits a → Pure Tryz.prog g [.n .i64 a] (.n .i64 (F a))) (hr : ∀ a, -1073741824 ≤ F a ∧ F a ≤ 1073741824) (lo hi : Int) (u : Bool) (peak : Int) (hp : 0 ≤ peak ∧ peak ≤ 1073741824) :
    Pure Tryz.prog 105 [bdV lo hi u, .clo (.func g) [] [], .n .i64 peak] (encB (waveB F peak (normB lo hi u))) := by
  refine pure_of_wp of105 (Nat.le_of_ble_eq_true rfl) ?_
  refine CallK.mk _ (normArc lo hi u) rfl ?_
  refine OptK.mk _ rfl ?_
  have hx := norm_ok lo hi u
  generalize normB lo hi u = x at *
  rcases x with _ | ⟨a, b⟩
  · refine DecK.tt ?_
    refine CallK.mk _ noneFix rfl ?_
    ((repeat' first | refine DecK.tt ?_ | refine DecK.ff ?_ | refine DecK.beq (fun _ => ?_) (fun _ => ?_) | refine DecK.bne (fun _ => ?_) (fun _ => ?_) | refine DecK.dec (fun _ => ?_) (fun _ => ?_) | refine OptK.mk _ rfl ?_ | refine endV (by rfl) ?_) <;> (try with_reducible rfl))
    rfl
  refine DecK.ff ?_
  have hv : bval a b := hx
  have hv' := hv
  unfold bval at hv'
  have r1 := hr a
  have r2 := hr b
  have w1 : IntKind.i64.wrap (peak + 2147483648) = peak + 2147483648 := w64 (by omega)
  refine CallK.mk _ (hF a hv.f1.1) rfl ?_
  refine CallK.mk _ (hF b hv.f1.2) rfl ?_
  refine CallK.mk _ (meets_ok a b false peak hv (by omega)) rfl ?_
  have main : ∀ l h : Int, l = (if hitsB a b (peak + 2147483648) then -1073741824 else max (-1073741824) (min (F a) (F b) - 1)) → h = (if hitsB a b peak then 1073741824 else min 1073741824 (max (F a) (F b) + 1)) → mkB l h = waveB F peak (some (a, b)) := by
    intro l h e1 e2
    have : bval l h := by
      unfold bval
      split at e1 <;> split at e2 <;> omega
    rw [mkB_some this, waveB, e1, e2]
  have e1 : (if IntKind.i64.wrap ((if F b < F a then F b else F a) - 1) > -1073741824 then IntKind.i64.wrap ((if F b < F a then F b else F a) - 1) else -1073741824) = max (-1073741824) (min (F a) (F b) - 1) := by
    rw [w64 (by split <;> omega)]; split <;> omega
  have e2 : (if IntKind.i64.wrap ((if F b > F a then F b else F a) + 1) < 1073741824 then IntKind.i64.wrap ((if F b > F a then F b else F a) + 1) else 1073741824) = min 1073741824 (max (F a) (F b) + 1) := by
    rw [w64 (by split <;> omega)]; split <;> omega
  refine DecK.dec (fun h1 => ?_) (fun h1 => ?_)
  · refine CallK.mk _ ((meets_ok a b false (peak + 2147483648) hv (by omega)).args (by rw [w1]; rfl)) rfl ?_
    refine DecK.dec (fun h2 => ?_) (fun h2 => ?_)
    · refine CallK.mk _ (ofFix _ _) rfl ?_
      ((repeat' first | refine DecK.tt ?_ | refine DecK.ff ?_ | refine DecK.beq (fun _ => ?_) (fun _ => ?_) | refine DecK.bne (fun _ => ?_) (fun _ => ?_) | refine DecK.dec (fun _ => ?_) (fun _ => ?_) | refine OptK.mk _ rfl ?_ | refine endV (by rfl) ?_) <;> (try with_reducible rfl))
      rw [main _ _ (by rw [if_pos h2]) (by rw [if_pos h1])]; rfl
    · refine CallK.mk _ (ofFix _ _) rfl ?_
      ((repeat' first | refine DecK.tt ?_ | refine DecK.ff ?_ | refine DecK.beq (fun _ => ?_) (fun _ => ?_) | refine DecK.bne (fun _ => ?_) (fun _ => ?_) | refine DecK.dec (fun _ => ?_) (fun _ => ?_) | refine OptK.mk _ rfl ?_ | refine endV (by rfl) ?_) <;> (try with_reducible rfl))
      rw [main _ _ (by rw [if_neg h2]; exact e1) (by rw [if_pos h1])]; rfl
  · refine CallK.mk _ ((meets_ok a b false (peak + 2147483648) hv (by omega)).args (by rw [w1]; rfl)) rfl ?_
    refine DecK.dec (fun h2 => ?_) (fun h2 => ?_)
    · refine CallK.mk _ (ofFix _ _) rfl ?_
      ((repeat' first | refine DecK.tt ?_ | refine DecK.ff ?_ | refine DecK.beq (fun _ => ?_) (fun _ => ?_) | refine DecK.bne (fun _ => ?_) (fun _ => ?_) | refine DecK.dec (fun _ => ?_) (fun _ => ?_) | refine OptK.mk _ rfl ?_ | refine endV (by rfl) ?_) <;> (try with_reducible rfl))
      rw [main _ _ (by rw [if_pos h2]) (by rw [if_neg h1]; exact e2)]; rfl
    · refine CallK.mk _ (ofFix _ _) rfl ?_
      ((repeat' first | refine DecK.tt ?_ | refine DecK.ff ?_ | refine DecK.beq (fun _ => ?_) (fun _ => ?_) | refine DecK.bne (fun _ => ?_) (fun _ => ?_) | refine DecK.dec (fun _ => ?_) (fun _ => ?_) | refine OptK.mk _ rfl ?_ | refine endV (by rfl) ?_) <;> (try with_reducible rfl))
      rw [main _ _ (by rw [if_neg h2]; exact e1) (by rw [if_neg h1]; exact e2)]; rfl
theorem sinBound_ok (lo hi : Int) (u : Bool) : Pure Tryz.prog 40 [bdV lo hi u] (encB (waveB sinF 1073741824 (normB lo hi u))) := by
  refine pure_of_wp of40 (Nat.le_of_ble_eq_true rfl) ?_
  refine CallK.mk _ (wave_ok 97 sinF sin_ok sinF_in lo hi u 1073741824 (by decide)) rfl ?_
  ((repeat' first | refine DecK.tt ?_ | refine DecK.ff ?_ | refine DecK.beq (fun _ => ?_) (fun _ => ?_) | refine DecK.bne (fun _ => ?_) (fun _ => ?_) | refine DecK.dec (fun _ => ?_) (fun _ => ?_) | refine OptK.mk _ rfl ?_ | refine endV (by rfl) ?_) <;> (try with_reducible rfl))
  rfl
theorem cosBound_ok (lo hi : Int) (u : Bool) : Pure Tryz.prog 39 [bdV lo hi u] (encB (waveB (fun a => sinF (a + 1073741824)) 0 (normB lo hi u))) := by
  refine pure_of_wp of39 (Nat.le_of_ble_eq_true rfl) ?_
  refine CallK.mk _ (wave_ok 96 (fun a => sinF (a + 1073741824)) cos_ok (fun a => sinF_in _) lo hi u 0 (by decide)) rfl ?_
  ((repeat' first | refine DecK.tt ?_ | refine DecK.ff ?_ | refine DecK.beq (fun _ => ?_) (fun _ => ?_) | refine DecK.bne (fun _ => ?_) (fun _ => ?_) | refine DecK.dec (fun _ => ?_) (fun _ => ?_) | refine OptK.mk _ rfl ?_ | refine endV (by rfl) ?_) <;> (try with_reducible rfl))
  rfl
theorem wavedHas_ok (lo hi : Int) (u : Bool) (c : Int) (hb : bval lo hi) (hc : 0 ≤ c ∧ c ≤ 8589934592) : Pure Tryz.prog 124 [.n .i64 c, .ip [.n .i64 lo, .n .i64 hi, .b u]] (.b (decide (hitsB lo hi c))) := by
  refine pure_of_wp of124 (Nat.le_of_ble_eq_true rfl) ?_
  unfold bval at hb
  have zz : ∀ x : Int, -18446744073709551616 ≤ x ∧ x ≤ 18446744073709551616 → zb 4 x := fun x h => zb_64 h
  refine CallK.mk _ (I_ok c (by omega)) rfl ?_
  refine OptK.mk _ rfl ?_
  refine CallK.mk _ (I_ok lo (by omega)) rfl ?_
  refine CallK.mk _ (Less_ok c lo ((zz _ (by omega)).mono (by decide)) ((zz _ (by omega)).mono (by decide))) rfl ?_
  refine CallK.mk _ two32 rfl ?_
  refine CallK.mk _ (Split_ok (c - lo) 4294967296 ((zz _ (by omega)).mono (by decide)) ((zz _ (by decide)).mono (by decide)) (by decide)) rfl ?_
  refine OptK.mk _ rfl ?_
  refine OptK.mk _ rfl ?_
  refine OptK.mk _ rfl ?_
  refine CallK.mk _ (I_ok lo (by omega)) rfl ?_
  refine CallK.mk _ (Plus_ok lo ((c - lo) % 4294967296) ((zz _ (by omega)).mono (by decide)) ((zz _ (by omega)).mono (by decide))) rfl ?_
  refine OptK.mk _ rfl ?_
  refine CallK.mk _ (I_ok hi (by omega)) rfl ?_
  refine CallK.mk _ (Cmp_ok (lo + (c - lo) % 4294967296) hi ((zz _ (by omega)).mono (by decide)) ((zz _ (by omega)).mono (by decide))) rfl ?_
  ((repeat' first | refine DecK.tt ?_ | refine DecK.ff ?_ | refine DecK.beq (fun _ => ?_) (fun _ => ?_) | refine DecK.bne (fun _ => ?_) (fun _ => ?_) | refine DecK.dec (fun _ => ?_) (fun _ => ?_) | refine OptK.mk _ rfl ?_ | refine endV (by rfl) ?_) <;> (try with_reducible rfl))
  refine congrArg V.b (decide_eq_decide.2 ?_)
  unfold hitsB icmp
  split <;> (try split) <;> omega
theorem waved_ok (g : Nat) (F : Int → Int) (hF : ∀ a, fits a → Pure Tryz.prog g [.n .i64 a] (.n .i64 (F a))) (hr : ∀ a, -1073741824 ≤ F a ∧ F a ≤ 1073741824) (lo hi : Int) (u : Bool) (peak : Int) (hp : 0 ≤ peak ∧ peak ≤ 1073741824) :
    Pure Tryz.prog 52 [bdV lo hi u, .clo (.func g) [] [], .n .i64 peak] (encB (waveB F peak (normB lo hi u))) := by
  refine pure_of_wp of52 (Nat.le_of_ble_eq_true rfl) ?_
  refine CallK.mk _ (boundErrArc lo hi u) rfl ?_
  rcases bd_cases lo hi u with ⟨h1, ⟨h2, rfl, rfl, rfl⟩ | h2⟩ | ⟨h1, rfl, hv, h2⟩
  · refine DecK.bne (fun h => absurd h2 h) (fun _ => ?_)
    ((repeat' first | refine DecK.tt ?_ | refine DecK.ff ?_ | refine DecK.beq (fun _ => ?_) (fun _ => ?_) | refine DecK.bne (fun _ => ?_) (fun _ => ?_) | refine DecK.dec (fun _ => ?_) (fun _ => ?_) | refine OptK.mk _ rfl ?_ | refine endV (by rfl) ?_) <;> (try with_reducible rfl))
    rw [h1]; rfl
  · refine DecK.bne (fun _ => ?_) (fun h => absurd h h2)
    ((repeat' first | refine DecK.tt ?_ | refine DecK.ff ?_ | refine DecK.beq (fun _ => ?_) (fun _ => ?_) | refine DecK.bne (fun _ => ?_) (fun _ => ?_) | refine DecK.dec (fun _ => ?_) (fun _ => ?_) | refine OptK.mk _ rfl ?_ | refine endV (by rfl) ?_) <;> (try with_reducible rfl))
    rw [h1]; rfl
  refine DecK.bne (fun h => absurd h2 h) (fun _ => ?_)
  rw [h1]
  have hv' := hv
  unfold bval at hv'
  have r1 := hr lo
  have r2 := hr hi
  have w1 : IntKind.i64.wrap (peak + 2147483648) = peak + 2147483648 := w64 (by omega)
  refine DecK.ff ?_
  refine OptK.mk _ rfl ?_
  refine CallK.mk _ (hF lo hv.f1.1) rfl ?_
  refine OptK.mk _ rfl ?_
  refine CallK.mk _ (hF hi hv.f1.2) rfl ?_
  refine OptK.mk _ rfl ?_
  have e1 : (if -1073741824 > IntKind.i64.wrap ((if F hi < F lo then F hi else F lo) - 1) then -1073741824 else IntKind.i64.wrap ((if F hi < F lo then F hi else F lo) - 1)) = max (-1073741824) (min (F lo) (F hi) - 1) := by
    rw [w64 (by split <;> omega)]; split <;> omega
  have e2 : (if 1073741824 < IntKind.i64.wrap ((if F hi > F lo then F hi else F lo) + 1) then 1073741824 else IntKind.i64.wrap ((if F hi > F lo then F hi else F lo) + 1)) = min 1073741824 (max (F lo) (F hi) + 1) := by
    rw [w64 (by split <;> omega)]; split <;> omega
  have main : ∀ l h : Int, l = (if hitsB lo hi (peak + 2147483648) then -1073741824 else max (-1073741824) (min (F lo) (F hi) - 1)) → h = (if hitsB lo hi peak then 1073741824 else min 1073741824 (max (F lo) (F hi) + 1)) → V.agg [.n .i64 l, .n .i64 h, .b false] = encB (waveB F peak (some (lo, hi))) := by
    intro l h e1 e2
    rw [waveB, e1, e2]; rfl
  refine CallK.mk _ (wavedHas_ok lo hi false peak hv (by omega)) rfl ?_
  refine DecK.dec (fun h1 => ?_) (fun h1 => ?_)
  · refine OptK.mk _ rfl ?_
    refine CallK.mk _ ((wavedHas_ok lo hi false (peak + 2147483648) hv (by omega)).args (by rw [w1]; rfl)) rfl ?_
    refine DecK.dec (fun h2 => ?_) (fun h2 => ?_)
    · ((repeat' first | refine DecK.tt ?_ | refine DecK.ff ?_ | refine DecK.beq (fun _ => ?_) (fun _ => ?_) | refine DecK.bne (fun _ => ?_) (fun _ => ?_) | refine DecK.dec (fun _ => ?_) (fun _ => ?_) | refine OptK.mk _ rfl ?_ | refine endV (by rfl) ?_) <;> (try with_reducible rfl))
      exact main _ _ (by rw [if_pos h2]) (by rw [if_pos h1])
    · ((repeat' first | refine DecK.tt ?_ | refine DecK.ff ?_ | refine DecK.beq (fun _ => ?_) (fun _ => ?_) | refine DecK.bne (fun _ => ?_) (fun _ => ?_) | refine DecK.dec (fun _ => ?_) (fun _ => ?_) | refine OptK.mk _ rfl ?_ | refine endV (by rfl) ?_) <;> (try with_reducible rfl))
      exact main _ _ (by rw [if_neg h2]; exact e1) (by rw [if_pos h1])
  · refine CallK.mk _ ((wavedHas_ok lo hi false (peak + 2147483648) hv (by omega)).args (by rw [w1]; rfl)) rfl ?_
    refine DecK.dec (fun h2 => ?_) (fun h2 => ?_)
    · ((repeat' first | refine DecK.tt ?_ | refine DecK.ff ?_ | refine DecK.beq (fun _ => ?_) (fun _ => ?_) | refine DecK.bne (fun _ => ?_) (fun _ => ?_) | refine DecK.dec (fun _ => ?_) (fun _ => ?_) | refine OptK.mk _ rfl ?_ | refine endV (by rfl) ?_) <;> (try with_reducible rfl))
      exact main _ _ (by rw [if_pos h2]) (by rw [if_neg h1]; exact e2)
    · ((repeat' first | refine DecK.tt ?_ | refine DecK.ff ?_ | refine DecK.beq (fun _ => ?_) (fun _ => ?_) | refine DecK.bne (fun _ => ?_) (fun _ => ?_) | refine DecK.dec (fun _ => ?_) (fun _ => ?_) | refine OptK.mk _ rfl ?_ | refine endV (by rfl) ?_) <;> (try with_reducible rfl))
      exact main _ _ (by rw [if_neg h2]; exact e1) (by rw [if_neg h1]; exact e2)
theorem eqB' {objs : List (Nat × List V)} (x : Bd) : (SO.po (.veq false [(0, .n), (1, .n), (2, .b)])).rdx objs [.v (encB x), .v (encB x)] = some (.v (.b true)) := by
  simp [SO.rdx, SO.rd, allV, PO.run, veqV, eqLv, eqk]
end Go.Proofs.YtciigfeecmnghaaRRRRGreatRR.Sv
