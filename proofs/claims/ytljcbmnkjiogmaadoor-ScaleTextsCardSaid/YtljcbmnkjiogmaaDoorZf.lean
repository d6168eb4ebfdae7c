/- The reference's whole numbers: numbers of 64 bits, powers of two, rounding. No condition. -/
import Derived.Test.YtljcbmnkjiogmaaDoorZe
namespace Go.Proofs.YtljcbmnkjiogmaaDoor.Sv
open Go Go.RowKit
set_option linter.unusedVariables false
set_option linter.unusedSimpArgs false
set_option maxRecDepth 100000
set_option exponentiation.threshold 1100
/-- live: [1, 4, 5] -/
def L39_0 : SC := .seq (.seq (.reg [⟨some 20, none, .mv, [.tm 5]⟩, ⟨some 21, none, .po (.bin .geq), [.tm 20, .cn (.n .i64 0)]⟩] [1, 4, 5, 21]) (.cond (.tm 21) .skip (.exit 0))) (.seq (.block 1 (.seq (.reg [⟨some 24, none, .mv, [.tm 4]⟩, ⟨some 25, none, .po (.bin .mul), [.tm 24, .cn (.n .i64 1000000)]⟩, ⟨some 4, none, .mv, [.tm 25]⟩] [1, 4, 5]) (.seq (.reg [⟨some 26, none, .fa 0, [.tm 1]⟩, ⟨some 27, none, .ld false 1 false, [.tm 26]⟩] [1, 4, 5, 27]) (.cond (.tm 27) (.reg [⟨some 28, none, .mv, [.tm 4]⟩, ⟨some 29, none, .fa 1, [.tm 1]⟩, ⟨some 30, none, .ld false 1 false, [.tm 29]⟩, ⟨some 31, none, .mv, [.tm 5]⟩, ⟨some 32, none, .ia none 1, [.tm 30, .tm 31]⟩, ⟨some 33, none, .ld false 1 true, [.tm 32]⟩, ⟨some 34, none, .po (.bin .sub), [.tm 28, .tm 33]⟩, ⟨some 4, none, .mv, [.tm 34]⟩] [1, 4, 5]) (.reg [⟨some 35, none, .mv, [.tm 4]⟩, ⟨some 36, none, .fa 1, [.tm 1]⟩, ⟨some 37, none, .ld false 1 false, [.tm 36]⟩, ⟨some 38, none, .mv, [.tm 5]⟩, ⟨some 39, none, .ia none 1, [.tm 37, .tm 38]⟩, ⟨some 40, none, .ld false 1 true, [.tm 39]⟩, ⟨some 41, none, .po (.bin .add), [.tm 35, .tm 40]⟩, ⟨some 4, none, .mv, [.tm 41]⟩] [1, 4, 5]))))) (.reg [⟨some 22, none, .mv, [.tm 5]⟩, ⟨some 23, none, .po (.bin .sub), [.tm 22, .cn (.n .i64 1)]⟩, ⟨some 5, none, .mv, [.tm 23]⟩] [1, 4, 5]))
/-- (spyglass/spyref1.Z).Small -/
def F39 : Fn1 := ⟨43, .seq (.reg [⟨some 1, none, .box, [.tm 0]⟩, ⟨some 2, none, .mv, [.cn (.n .i64 0)]⟩, ⟨some 3, none, .mv, [.cn (.b false)]⟩] [1]) (.seq (.seq (.dreg [⟨some 6, none, .ld true 2 false, [.tm 1]⟩, ⟨some 7, none, .call 58, [.cn (.n .i64 (-9223372036854775808))]⟩, ⟨some 8, none, .call 57, [.tm 6, .tm 7]⟩, ⟨some 9, none, .po (.bin .lss), [.tm 8, .cn (.n .i64 0)]⟩, ⟨some 10, none, .mv, [.tm 9]⟩, ⟨some 11, some (10, false), .ld true 2 false, [.tm 1]⟩, ⟨some 12, some (10, false), .call 58, [.cn (.n .i64 9223372036854775807)]⟩, ⟨some 13, some (10, false), .call 57, [.tm 11, .tm 12]⟩, ⟨some 14, some (10, false), .po (.bin .gtr), [.tm 13, .cn (.n .i64 0)]⟩, ⟨some 15, none, .pick, [.tm 10, .cn (.b true), .tm 14]⟩] [] [1, 15]) (.cond (.tm 15) (.seq (.reg [⟨some 2, none, .mv, [.cn (.n .i64 0)]⟩, ⟨some 3, none, .mv, [.cn (.b false)]⟩] [2, 3]) .ret) .skip)) (.seq (.reg [⟨some 4, none, .mv, [.cn (.n .i64 0)]⟩] [1, 4]) (.seq (.seq (.reg [⟨some 16, none, .fa 1, [.tm 1]⟩, ⟨some 17, none, .ld false 1 false, [.tm 16]⟩, ⟨some 18, none, .len false, [.tm 17]⟩, ⟨some 19, none, .po (.bin .sub), [.tm 18, .cn (.n .i64 1)]⟩, ⟨some 5, none, .mv, [.tm 19]⟩] [1, 4, 5]) (.block 0 (.loop [1, 4, 5] L39_0))) (.seq (.reg [⟨some 42, none, .mv, [.tm 4]⟩, ⟨some 2, none, .mv, [.tm 42]⟩, ⟨some 3, none, .mv, [.cn (.b true)]⟩] [2, 3]) .ret)))), [.tm 2, .tm 3]⟩
theorem of39 : Fn1.of Tryd.prog 39 ⟨false, [], false⟩ [[1], [1, 15], [2, 3], [1, 4], [1, 4, 5], [1, 4, 5], [1, 4, 5, 21], [1, 4, 5], [1, 4, 5, 27], [1, 4, 5], [1, 4, 5], [1, 4, 5], [2, 3]] = some F39 := by kernel_rfl
def fits (n : Int) : Prop := -9223372036854775808 ≤ n ∧ n ≤ 9223372036854775807
instance (n : Int) : Decidable (fits n) := by unfold fits; infer_instance
/-- The number of 64 bits, or 0. -/
def small (n : Int) : Int := if fits n then n else 0
theorem Small_ok (a : Int) (ha : zok a) : Pure Tryd.prog 39 [zV a] (.tup [.n .i64 (small a), .b (decide (fits a))]) := by
  refine pure_of_wp of39 (Nat.le_of_ble_eq_true rfl) ?_
  refine CallK.mk _ (I_ok _ (by decide)) rfl ?_
  refine CallK.mk _ (Cmp_ok a _ ha (zb_64 (by decide) |>.mono (by decide))) rfl ?_
  have out : ¬ fits a → V.tup [.n .i64 0, .b false] = V.tup [.n .i64 (small a), .b (decide (fits a))] := fun h => by rw [small, if_neg h, decide_eq_false h]
  refine DecK.dec (fun h => ?_) (fun h => ?_)
  · ((repeat' first | refine DecK.tt ?_ | refine DecK.ff ?_ | refine DecK.beq (fun _ => ?_) (fun _ => ?_) | refine DecK.bne (fun _ => ?_) (fun _ => ?_) | refine DecK.dec (fun _ => ?_) (fun _ => ?_) | refine OptK.mk _ rfl ?_ | refine endV (by rfl) ?_) <;> (try with_reducible rfl))
    exact out (by unfold icmp at h; unfold fits; omega)
  refine CallK.mk _ (I_ok _ (by decide)) rfl ?_
  refine CallK.mk _ (Cmp_ok a _ ha (zb_64 (by decide) |>.mono (by decide))) rfl ?_
  refine DecK.dec (fun h' => ?_) (fun h' => ?_)
  · ((repeat' first | refine DecK.tt ?_ | refine DecK.ff ?_ | refine DecK.beq (fun _ => ?_) (fun _ => ?_) | refine DecK.bne (fun _ => ?_) (fun _ => ?_) | refine DecK.dec (fun _ => ?_) (fun _ => ?_) | refine OptK.mk _ rfl ?_ | refine endV (by rfl) ?_) <;> (try with_reducible rfl))
    exact out (by unfold icmp at h'; unfold fits; omega)
  have hf : fits a := by unfold icmp at h h'; unfold fits; omega
  rw [small, if_pos hf, decide_eq_true hf]
  unfold fits at hf
  clear h h' out
  have la := ha.len
  have da := digs_dig a.natAbs
  have av := digs_val a.natAbs
  obtain ⟨s, hs, hs'⟩ : ∃ s : Int, (s = 1 ∨ s = -1) ∧ a = s * a.natAbs ∧ (s = -1 ↔ a < 0) := by
    by_cases h : a < 0
    · exact ⟨-1, by omega, by omega⟩
    · exact ⟨1, by omega, by omega⟩
  refine loop_ind2 (fun (n i : Int) => ⟨[(1, .ref 1 0), (4, .v (.n .i64 n)), (5, .v (.n .i64 i))], [(1, zC a)]⟩) (fun n i => (i + 1).toNat)
    (fun n i => -1 ≤ i ∧ i < (digs a.natAbs).length ∧ n = s * zval ((digs a.natAbs).drop (i + 1).toNat)) 0 _ ?_ ?_
  · rw [w64 (by omega)]
    refine ⟨by omega, by omega, ?_⟩
    rw [List.drop_eq_nil_of_le (by omega)]
    simp [zval]
  intro n iz ⟨h1, h2, h3⟩ ih
  refine DecK.dec (fun hp => ?_) (fun hp => ?_)
  · obtain ⟨i, rfl⟩ : ∃ i : Nat, iz = i := ⟨iz.toNat, by omega⟩
    obtain ⟨x, hx, ex⟩ := drop_at (l := digs a.natAbs) (k := i) (by omega)
    have bx := da x (List.mem_of_getElem? hx)
    have hi : IntKind.i64.wrap ((i : Int) - 1) = i - 1 := w64 (by omega)
    rw [show ((i : Int) + 1).toNat = i + 1 by omega] at h3
    have b0 := zval_nonneg (zdig_drop da (i + 1))
    have b1 : zval ((digs a.natAbs).drop i) ≤ a.natAbs := by
      have e := zval_app (l := (digs a.natAbs).take i) (m := (digs a.natAbs).drop i)
      rw [List.take_append_drop, av] at e
      have e1 := zval_nonneg (zdig_take da i)
      have e2 := zval_nonneg (zdig_drop da i)
      have := Int.mul_le_mul_of_nonneg_right (show (1 : Int) ≤ 1000000 ^ ((digs a.natAbs).take i).length by have := pow_pos' ((digs a.natAbs).take i).length; omega) e2
      omega
    have b2 : zval ((digs a.natAbs).drop i) = x + 1000000 * zval ((digs a.natAbs).drop (i + 1)) := by rw [ex]; rfl
    obtain ⟨z, hz⟩ : ∃ z, z = zval ((digs a.natAbs).drop (i + 1)) := ⟨_, rfl⟩
    rw [← hz] at h3 b0 b2
    have w1 : IntKind.i64.wrap (n * 1000000) = n * 1000000 := w64 (by rcases hs with rfl | rfl <;> omega)
    refine DecK.dec (fun hn => ?_) (fun hn => ?_)
    · obtain rfl : s = -1 := hs'.2.2 hn
      refine OptK.mk _ (ria i rfl (by omega)) ?_
      refine OptK.mk _ (rld1 (g := fun x => .n .i64 x) hx) ?_
      have w2 : IntKind.i64.wrap (IntKind.i64.wrap (n * 1000000) - x) = n * 1000000 - x := by rw [w1, w64 (by omega)]
      refine ih _ _ ⟨?_, ?_, ?_⟩ ?_
      all_goals rw [hi]
      · omega
      · omega
      · rw [w2, show ((i : Int) - 1 + 1).toNat = i by omega, b2]; omega
      · omega
    · obtain rfl : s = 1 := by rcases hs with h | h <;> omega
      refine OptK.mk _ (ria i rfl (by omega)) ?_
      refine OptK.mk _ (rld1 (g := fun x => .n .i64 x) hx) ?_
      have w2 : IntKind.i64.wrap (IntKind.i64.wrap (n * 1000000) + x) = n * 1000000 + x := by rw [w1, w64 (by omega)]
      refine ih _ _ ⟨?_, ?_, ?_⟩ ?_
      all_goals rw [hi]
      · omega
      · omega
      · rw [w2, show ((i : Int) - 1 + 1).toNat = i by omega, b2]; omega
      · omega
  · obtain rfl : iz = -1 := by omega
    ((repeat' first | refine DecK.tt ?_ | refine DecK.ff ?_ | refine DecK.beq (fun _ => ?_) (fun _ => ?_) | refine DecK.bne (fun _ => ?_) (fun _ => ?_) | refine DecK.dec (fun _ => ?_) (fun _ => ?_) | refine OptK.mk _ rfl ?_ | refine endV (by rfl) ?_) <;> (try with_reducible rfl))
    rw [show (-1 + 1 : Int).toNat = 0 from rfl, List.drop_zero, av, ← hs'.1] at h3
    rw [h3]
/-- Rounded to the nearest, halves away from 0. -/
def rnd (a b : Int) : Int := if a < 0 then -((2 * -a + b) / (2 * b)) else (2 * a + b) / (2 * b)
end Go.Proofs.YtljcbmnkjiogmaaDoor.Sv
