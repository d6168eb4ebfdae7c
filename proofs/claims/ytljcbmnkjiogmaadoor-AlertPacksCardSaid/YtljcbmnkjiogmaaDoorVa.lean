/- Vectors: checks and growth, the program's and the reference's. No condition. -/
import Derived.Test.YtljcbmnkjiogmaaDoorNe
namespace Go.Proofs.YtljcbmnkjiogmaaDoor.Sv
open Go Go.RowKit
set_option linter.unusedVariables false
set_option linter.unusedSimpArgs false
set_option maxRecDepth 100000
/-- live: [3, 6, 7, 8] -/
def L41_0 : SC := .seq (.reg [⟨some 9, none, .po (.bin .lss), [.tm 8, .tm 7]⟩] [3, 6, 7, 8, 9]) (.seq (.cond (.tm 9) .skip (.exit 0)) (.seq (.block 1 (.seq (.reg [⟨some 10, none, .ia none 1, [.tm 6, .tm 8]⟩, ⟨some 11, none, .ld false 1 true, [.tm 10]⟩, ⟨some 5, none, .mv, [.tm 11]⟩] [3, 5, 6, 7, 8]) (.seq (.reg [⟨some 12, none, .mv, [.tm 5]⟩, ⟨some 13, none, .mv, [.tm 3]⟩, ⟨some 14, none, .po (.bin .neq), [.tm 12, .tm 13]⟩] [3, 5, 6, 7, 8, 14]) (.cond (.tm 14) (.seq (.reg [⟨some 15, none, .mv, [.tm 5]⟩, ⟨some 2, none, .mv, [.tm 15]⟩] [2]) .ret) .skip)))) (.reg [⟨some 16, none, .po (.bin .add), [.tm 8, .cn (.n .i64 1)]⟩, ⟨some 8, none, .mv, [.tm 16]⟩] [3, 6, 7, 8])))
/-- cmp.Or(spyglass/api.Errno) -/
def F41 : Fn1 := ⟨18, .seq (.reg [⟨some 2, none, .mv, [.cn (.n .i64 0)]⟩] [0]) (.seq (.reg [⟨some 3, none, .mv, [.cn (.n .i64 0)]⟩] [0, 3]) (.seq (.seq (.reg [⟨some 6, none, .mv, [.tm 0]⟩, ⟨some 7, none, .len false, [.tm 6]⟩, ⟨some 8, none, .mv, [.cn (.n .i64 0)]⟩] [3, 6, 7, 8]) (.block 0 (.loop [3, 6, 7, 8] L41_0))) (.seq (.reg [⟨some 17, none, .mv, [.tm 3]⟩, ⟨some 2, none, .mv, [.tm 17]⟩] [2]) .ret))), [.tm 2]⟩
theorem of41 : Fn1.of Tryd.prog 41 ⟨false, [], false⟩ [[0], [0, 3], [3, 6, 7, 8], [3, 6, 7, 8], [3, 6, 7, 8, 9], [3, 5, 6, 7, 8], [3, 5, 6, 7, 8, 14], [2], [3, 6, 7, 8], [2]] = some F41 := by kernel_rfl
theorem orE_ok (l : List Int) (t : Bool) (hl : l.length ≤ 1000000) : Pure Tryd.prog 41 [.sl l.length (l.flatMap ni) t] (.n .i64 (or0 l)) := by
  refine pure_of_wp of41 (Nat.le_of_ble_eq_true rfl) ?_
  refine loop_ind (fun (i : Int) => ⟨[(3, .v (.n .i64 0)), (6, .v (.sl l.length (l.flatMap ni) t)), (7, .v (.n .i64 l.length)), (8, .v (.n .i64 i))], []⟩) (fun i => l.length - i.toNat)
    (fun i => 0 ≤ i ∧ i ≤ l.length ∧ or0 (l.drop i.toNat) = or0 l) 0 (by simp) ?_
  intro iz ⟨h1, h2, h3⟩ ih
  obtain ⟨i, rfl⟩ : ∃ i : Nat, iz = i := ⟨iz.toNat, by omega⟩
  simp only [Int.toNat_natCast] at h3
  refine DecK.dec (fun h => ?_) (fun h => ?_)
  · obtain ⟨x, hx, ex⟩ := drop_at (l := l) (k := i) (by omega)
    refine OptK.mk _ (ria i rfl (by omega)) ?_
    refine OptK.mk _ (rld1 (g := fun x => .n .i64 x) hx) ?_
    rw [ex, or0] at h3
    refine DecK.bne (fun h0 => ?_) (fun h0 => ?_)
    · ((repeat' first | refine DecK.tt ?_ | refine DecK.ff ?_ | refine DecK.beq (fun _ => ?_) (fun _ => ?_) | refine DecK.bne (fun _ => ?_) (fun _ => ?_) | refine DecK.dec (fun _ => ?_) (fun _ => ?_) | refine OptK.mk _ rfl ?_ | refine endV (by rfl) ?_) <;> (try with_reducible rfl))
      rw [if_pos h0] at h3
      rw [h3]
    · have w : IntKind.i64.wrap ((i : Int) + 1) = ((i + 1 : Nat) : Int) := by simp (discharger := omega) only [w64, wu64, wu8, w32, wu32, tdivC, tmodC]; omega
      refine ih _ ⟨?_, ?_, ?_⟩ ?_
      all_goals simp only [w, Int.toNat_natCast]
      · omega
      · omega
      · rw [if_neg (by simpa using h0)] at h3; exact h3
      · omega
  · ((repeat' first | refine DecK.tt ?_ | refine DecK.ff ?_ | refine DecK.beq (fun _ => ?_) (fun _ => ?_) | refine DecK.bne (fun _ => ?_) (fun _ => ?_) | refine DecK.dec (fun _ => ?_) (fun _ => ?_) | refine OptK.mk _ rfl ?_ | refine endV (by rfl) ?_) <;> (try with_reducible rfl))
    rw [List.drop_eq_nil_of_le (by omega), or0] at h3
    rw [← h3]
abbrev vecC (x y z : Int) : List V := [.n .i64 x, .n .i64 y, .n .i64 z]
abbrev vecV (x y z : Int) : V := .agg (vecC x y z)
def vecErr (x y z : Int) : Int :=
  if x > 1048576 ∨ x < -1048576 ∨ y > 1048576 ∨ y < -1048576 ∨ z > 1048576 ∨ z < -1048576 then 4 else if x = 0 ∧ y = 0 ∧ z = 0 then 8 else 0
theorem eqVec {objs : List (Nat × List V)} (x y z a b c : Int) : (SO.po (.veq false [(0, .n), (1, .n), (2, .n)])).rdx objs [.v (vecV x y z), .v (vecV a b c)] = some (.v (.b (decide (x = a ∧ y = b ∧ z = c)))) := by
  simp [SO.rdx, SO.rd, allV, PO.run, veqV, eqLv, eqk]
  by_cases h1 : x = a <;> by_cases h2 : y = b <;> by_cases h3 : z = c <;> simp [h1, h2, h3]
/-- A vector doubled as long as it stays in its range. -/
def growF : Nat → Int → Int → Int → Int × Int × Int
  | 0, x, y, z => (x, y, z)
  | n + 1, x, y, z => if vecErr (2 * x) (2 * y) (2 * z) = 0 then growF n (2 * x) (2 * y) (2 * z) else (x, y, z)
def growV (x y z : Int) : Int × Int × Int := if vecErr x y z = 0 then growF 21 x y z else (0, 0, 0)
theorem growF_ok : ∀ {n : Nat} {x y z : Int}, vecErr x y z = 0 → vecErr (growF n x y z).1 (growF n x y z).2.1 (growF n x y z).2.2 = 0
  | 0, _, _, _, h => h
  | n + 1, x, y, z, h => by
    unfold growF
    split
    · exact growF_ok (by assumption)
    · exact h
theorem vecErr_in {x y z : Int} (h : vecErr x y z = 0) : -1048576 ≤ x ∧ x ≤ 1048576 ∧ -1048576 ≤ y ∧ y ≤ 1048576 ∧ -1048576 ≤ z ∧ z ≤ 1048576 ∧ ¬ (x = 0 ∧ y = 0 ∧ z = 0) := by
  unfold vecErr at h
  omega
/-- Some component leaves its range after n doublings. -/
def tops : Nat → Int → Int → Int → Prop
  | 0, x, y, z => vecErr x y z ≠ 0
  | n + 1, x, y, z => tops n (2 * x) (2 * y) (2 * z)
theorem tops_top : ∀ (n : Nat) {x y z : Int}, (1048576 < 2 ^ n * x ∨ 2 ^ n * x < -1048576 ∨ 1048576 < 2 ^ n * y ∨ 2 ^ n * y < -1048576 ∨ 1048576 < 2 ^ n * z ∨ 2 ^ n * z < -1048576) → tops n x y z
  | 0, x, y, z, h => by unfold tops vecErr; omega
  | n + 1, x, y, z, h => by
    refine tops_top n ?_
    have e : ∀ u : Int, (2 : Int) ^ n * (2 * u) = 2 ^ (n + 1) * u := fun u => by rw [Int.pow_succ, Int.mul_assoc]
    rw [e, e, e]
    exact h
theorem tops_21 {x y z : Int} (h : vecErr x y z = 0) : tops 21 x y z := by
  have := vecErr_in h
  refine tops_top 21 ?_
  omega
end Go.Proofs.YtljcbmnkjiogmaaDoor.Sv
