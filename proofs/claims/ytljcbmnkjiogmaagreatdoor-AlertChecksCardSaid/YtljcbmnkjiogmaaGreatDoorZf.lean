/- The reference's whole numbers: numbers of 64 bits, powers of two, rounding. No condition. -/
import Derived.Test.YtljcbmnkjiogmaaGreatDoorZe
namespace Go.Proofs.YtljcbmnkjiogmaaGreatDoor.Sv
open Go Go.RowKit
set_option linter.unusedVariables false
set_option linter.unusedSimpArgs false
set_option maxRecDepth 100000
set_option exponentiation.threshold 1100
/-- live: [0, 2, 3] -/
def L43_0 : SC := .seq (.seq (.reg [⟨some 5, none, .mv, [.tm 0]⟩, ⟨some 6, none, .po (.bin .geq), [.tm 5, .cn (.n .i64 16)]⟩] [0, 2, 3, 6]) (.cond (.tm 6) .skip (.exit 0))) (.seq (.block 1 (.dreg [⟨some 9, none, .ld true 2 false, [.tm 3]⟩, ⟨some 10, none, .call 62, [.cn (.n .i64 65536)]⟩, ⟨some 11, none, .call 66, [.tm 9, .tm 10]⟩, ⟨none, none, .st 2, [.tm 3, .tm 11]⟩] [] [0, 2, 3])) (.reg [⟨some 7, none, .mv, [.tm 0]⟩, ⟨some 8, none, .po (.bin .sub), [.tm 7, .cn (.n .i64 16)]⟩, ⟨some 0, none, .mv, [.tm 8]⟩] [0, 2, 3]))
/-- spyglass/spyref1.Two -/
def F43 : Fn1 := ⟨17, .seq (.reg [⟨some 2, none, .alloc [.b false, .sl 0 [] true], []⟩] [0, 2]) (.seq (.reg [⟨some 4, none, .call 62, [.cn (.n .i64 1)]⟩, ⟨some 3, none, .alloc [.b false, .sl 0 [] true], []⟩, ⟨none, none, .st 2, [.tm 3, .tm 4]⟩] [0, 2, 3]) (.seq (.block 0 (.loop [0, 2, 3] L43_0)) (.seq (.dreg [⟨some 12, none, .ld true 2 false, [.tm 3]⟩, ⟨some 13, none, .mv, [.tm 0]⟩, ⟨some 14, none, .po (.bin .shl), [.cn (.n .i64 1), .tm 13]⟩, ⟨some 15, none, .call 62, [.tm 14]⟩, ⟨some 16, none, .call 66, [.tm 12, .tm 15]⟩, ⟨none, none, .st 2, [.tm 2, .tm 16]⟩] [] [2]) .ret))), [.cell 2 true 2]⟩
theorem of43 : Fn1.of Tryz.prog 43 ⟨false, [], false⟩ [[0, 2], [0, 2, 3], [0, 2, 3], [0, 2, 3, 6], [0, 2, 3], [0, 2, 3], [2]] = some F43 := by kernel_rfl
def fits (n : Int) : Prop := -9223372036854775808 ≤ n ∧ n ≤ 9223372036854775807
instance (n : Int) : Decidable (fits n) := by unfold fits; infer_instance
/-- The number of 64 bits, or 0. -/
def small (n : Int) : Int := if fits n then n else 0
theorem Two_ok (k : Int) (hk : 0 ≤ k ∧ k ≤ 1000) : Pure Tryz.prog 43 [.n .i64 k] (zV (2 ^ k.toNat)) := by
  refine pure_of_wp of43 (Nat.le_of_ble_eq_true rfl) ?_
  refine CallK.mk _ (I_ok _ (by decide)) rfl ?_
  refine OptK.mk _ rfl ?_
  refine loop_ind2 (fun (n j : Int) => ⟨[(0, .v (.n .i64 j)), (2, .ref 2 0), (3, .ref 3 0)], [(3, zC n), (2, [.b false, .sl 0 [] true])]⟩) (fun n j => j.toNat)
    (fun n j => 0 ≤ j ∧ j ≤ k ∧ n = 2 ^ (k - j).toNat) _ _ (by simp; omega) ?_
  intro n j ⟨h1, h2, h3⟩ ih
  have zn : zb 200 n := by
    rw [h3]
    unfold zb
    have : (2 : Int) ^ (k - j).toNat ≤ 2 ^ 1000 := by
      have := Nat.pow_le_pow_right (show 0 < 2 by decide) (show (k - j).toNat ≤ 1000 by omega)
      exact_mod_cast this
    have hp : (0 : Int) < 2 ^ (k - j).toNat := Int.pow_pos (by decide)
    exact Int.lt_of_le_of_lt (by omega) (show (2 : Int) ^ 1000 < 1000000 ^ 200 by decide)
  refine DecK.dec (fun h => ?_) (fun h => ?_)
  · have w : IntKind.i64.wrap (j - 16) = j - 16 := w64 (by omega)
    refine CallK.mk _ (I_ok _ (by decide)) rfl ?_
    refine CallK.mk _ (Times_ok n 65536 (zn.mono (by decide)) (zb_64 (by decide) |>.mono (by decide))) rfl ?_
    refine OptK.mk _ rfl ?_
    refine ih _ _ ⟨?_, ?_, ?_⟩ ?_
    all_goals rw [w]
    · omega
    · omega
    · rw [h3, show (k - (j - 16)).toNat = (k - j).toNat + 16 by omega, Int.pow_add]; rfl
    · omega
  · have b1 : (2 : Int) ^ j.toNat ≤ 65536 := by
      have h9 : 2 ^ j.toNat ≤ 65536 := Nat.pow_le_pow_right (n := 2) (by decide) (show j.toNat ≤ 16 by omega)
      rw [show (2 : Int) ^ j.toNat = ((2 ^ j.toNat : Nat) : Int) by rw [Int.natCast_pow]; rfl]
      omega
    have b0 : (0 : Int) < 2 ^ j.toNat := Int.pow_pos (by decide)
    have w : IntKind.i64.wrap (1 * 2 ^ j.toNat) = 2 ^ j.toNat := by rw [Int.one_mul, w64 (by omega)]
    refine OptK.mk _ (op_shl (by omega) (by show j.toNat ≤ 64; omega)) ?_
    refine CallK.mk _ (I_ok _ (by rw [w]; omega)) rfl ?_
    refine CallK.mk _ (Times_ok n _ (zn.mono (by decide)) (by rw [w]; exact zb_64 (by omega) |>.mono (by decide))) rfl ?_
    ((repeat' first | refine DecK.tt ?_ | refine DecK.ff ?_ | refine DecK.beq (fun _ => ?_) (fun _ => ?_) | refine DecK.bne (fun _ => ?_) (fun _ => ?_) | refine DecK.dec (fun _ => ?_) (fun _ => ?_) | refine OptK.mk _ rfl ?_ | refine endV (by rfl) ?_) <;> (try with_reducible rfl))
    rw [w, h3, ← Int.pow_add, show (k - j).toNat + j.toNat = k.toNat by omega]
    rfl
/-- Rounded to the nearest, halves away from 0. -/
def rnd (a b : Int) : Int := if a < 0 then -((2 * -a + b) / (2 * b)) else (2 * a + b) / (2 * b)
end Go.Proofs.YtljcbmnkjiogmaaGreatDoor.Sv
