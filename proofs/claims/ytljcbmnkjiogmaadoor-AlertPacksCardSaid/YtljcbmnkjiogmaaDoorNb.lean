/- Division of 128 bits by 64: math/bits.Len64, LeadingZeros64, Div64. No condition. -/
import Derived.Test.YtljcbmnkjiogmaaDoorNa
namespace Go.Proofs.YtljcbmnkjiogmaaDoor.Sv
open Go Go.RowKit
set_option linter.unusedVariables false
set_option linter.unusedSimpArgs false
set_option maxRecDepth 100000
/-- How many bits a number has. -/
def blen (n : Nat) : Nat := if n = 0 then 0 else n.log2 + 1
theorem blen_spec (n : Nat) : n < 2 ^ blen n ∧ (n ≠ 0 → 2 ^ (blen n - 1) ≤ n ∧ 1 ≤ blen n) := by
  unfold blen
  split
  · rename_i h; subst h; simp
  · rename_i h
    refine ⟨?_, fun _ => ⟨?_, by omega⟩⟩
    · exact (Nat.log2_lt h).1 (by omega)
    · rw [Nat.add_sub_cancel]; exact Nat.log2_self_le h
theorem blen_unique {n L : Nat} (h : n < 2 ^ L) (h0 : n ≠ 0) (h' : 2 ^ (L - 1) ≤ n) : blen n = L := by
  obtain ⟨h1, h2⟩ := blen_spec n
  obtain ⟨h2, h3⟩ := h2 h0
  have a1 : blen n - 1 < L := (Nat.pow_lt_pow_iff_right (show 1 < 2 by decide)).1 (Nat.lt_of_le_of_lt h2 h)
  have a2 : L - 1 < blen n := (Nat.pow_lt_pow_iff_right (show 1 < 2 by decide)).1 (Nat.lt_of_le_of_lt h' h1)
  omega
theorem blen_shift {n k : Nat} (h : 2 ^ k ≤ n) : blen n = blen (n / 2 ^ k) + k := by
  have hp : 0 < 2 ^ k := Nat.pow_pos (by decide)
  have h0 : n / 2 ^ k ≠ 0 := by
    have := (Nat.le_div_iff_mul_le hp).2 (show 1 * 2 ^ k ≤ n by omega)
    omega
  obtain ⟨h1, h2⟩ := blen_spec (n / 2 ^ k)
  obtain ⟨h2, h3⟩ := h2 h0
  refine blen_unique ?_ (by omega) ?_
  · rw [Nat.pow_add]
    exact (Nat.div_lt_iff_lt_mul hp).1 h1
  · rw [show blen (n / 2 ^ k) + k - 1 = (blen (n / 2 ^ k) - 1) + k by omega, Nat.pow_add]
    exact (Nat.le_div_iff_mul_le hp).1 h2
def len8 : ByteArray := (⟨⟨[0, 1, 2, 2, 3, 3, 3, 3, 4, 4, 4, 4, 4, 4, 4, 4, 5, 5, 5, 5, 5, 5, 5, 5, 5, 5, 5, 5, 5, 5, 5, 5, 6, 6, 6, 6, 6, 6, 6, 6, 6, 6, 6, 6, 6, 6, 6, 6, 6, 6, 6, 6, 6, 6, 6, 6, 6, 6, 6, 6, 6, 6, 6, 6, 7, 7, 7, 7, 7, 7, 7, 7, 7, 7, 7, 7, 7, 7, 7, 7, 7, 7, 7, 7, 7, 7, 7, 7, 7, 7, 7, 7, 7, 7, 7, 7, 7, 7, 7, 7, 7, 7, 7, 7, 7, 7, 7, 7, 7, 7, 7, 7, 7, 7, 7, 7, 7, 7, 7, 7, 7, 7, 7, 7, 7, 7, 7, 7, 8, 8, 8, 8, 8, 8, 8, 8, 8, 8, 8, 8, 8, 8, 8, 8, 8, 8, 8, 8, 8, 8, 8, 8, 8, 8, 8, 8, 8, 8, 8, 8, 8, 8, 8, 8, 8, 8, 8, 8, 8, 8, 8, 8, 8, 8, 8, 8, 8, 8, 8, 8, 8, 8, 8, 8, 8, 8, 8, 8, 8, 8, 8, 8, 8, 8, 8, 8, 8, 8, 8, 8, 8, 8, 8, 8, 8, 8, 8, 8, 8, 8, 8, 8, 8, 8, 8, 8, 8, 8, 8, 8, 8, 8, 8, 8, 8, 8, 8, 8, 8, 8, 8, 8, 8, 8, 8, 8, 8, 8, 8, 8, 8, 8, 8, 8, 8, 8, 8, 8, 8, 8, 8, 8, 8, 8, 8, 8]⟩⟩ : ByteArray)
theorem len8_ok : ∀ i : Fin 256, len8[i.val]?.map (fun b => b.toNat) = some (blen i.val) := by decide +kernel
theorem idx8 {objs : List (Nat × List V)} {y : Int} (h : 0 ≤ y ∧ y < 256) : (SO.po .idxS).rdx objs [.v (.s len8), .v (.n .u8 y)] = some (.v (.n .u8 (blen y.toNat))) := by
  have := len8_ok ⟨y.toNat, by omega⟩
  simp only [Option.map_eq_some_iff] at this
  obtain ⟨b, h1, h2⟩ := this
  simp only [SO.rdx, SO.rd, allV, Option.map_some, Option.bind_some, PO.run, idxSV, h.1, if_true, h1, h2]
/-! ### One digit of the quotient (base 2^32) -/
theorem digit_stop {v1 v0 u d q rh : Int} (hv1 : 0 < v1) (hv0 : 0 ≤ v0) (hq : q * v1 + rh = u) (hQ : (u * 4294967296 + d) / (v1 * 4294967296 + v0) ≤ q) (h : q * v0 ≤ 4294967296 * rh + d) :
    q = (u * 4294967296 + d) / (v1 * 4294967296 + v0) := by
  have : q ≤ (u * 4294967296 + d) / (v1 * 4294967296 + v0) := by
    refine (Int.le_ediv_iff_mul_le (by omega)).2 ?_
    have e : q * (v1 * 4294967296 + v0) = q * v1 * 4294967296 + q * v0 := by grind
    rw [e]
    generalize q * v1 = p at *
    omega
  omega
theorem digit_go {v1 v0 u d q rh : Int} (hv1 : 0 < v1) (hv0 : 0 ≤ v0) (hq : q * v1 + rh = u) (hu : u < v1 * 4294967296 + v0) (hd : d < 4294967296) (h : q ≥ 4294967296 ∨ 4294967296 * rh + d < q * v0) :
    (u * 4294967296 + d) / (v1 * 4294967296 + v0) ≤ q - 1 := by
  have : (u * 4294967296 + d) / (v1 * 4294967296 + v0) < q := by
    refine Int.ediv_lt_of_lt_mul (by omega) ?_
    rcases h with h | h
    · have := Int.mul_le_mul_of_nonneg_right h (show 0 ≤ v1 * 4294967296 + v0 by omega)
      omega
    · have e : q * (v1 * 4294967296 + v0) = q * v1 * 4294967296 + q * v0 := by grind
      rw [e]
      generalize q * v1 = p at *
      omega
  omega
theorem digit_break {v1 v0 u d q rh : Int} (hv1 : 0 < v1) (hv0 : 0 ≤ v0 ∧ v0 < 4294967296) (hq : q * v1 + rh = u) (hu : u < v1 * 4294967296 + v0) (hd : 0 ≤ d) (hq0 : 0 ≤ q)
    (hQ : (u * 4294967296 + d) / (v1 * 4294967296 + v0) ≤ q) (h : 4294967296 ≤ rh) : q = (u * 4294967296 + d) / (v1 * 4294967296 + v0) := by
  refine digit_stop hv1 hv0.1 hq hQ ?_
  have h1 : q < 4294967296 := by
    rcases Int.lt_or_le q 4294967296 with h' | h'
    · exact h'
    · have := Int.mul_le_mul_of_nonneg_right h' (show 0 ≤ v1 by omega)
      omega
  have := Int.mul_le_mul (show q ≤ 4294967296 by omega) (show v0 ≤ 4294967296 by omega) hv0.1 (by omega)
  omega
/-- Two digits, one behind the other. -/
theorem two_digits {u1 u0 w Y q1 q0 r1 : Int} (hY : 0 < Y) (h1 : q1 = (w * 4294967296 + u1) / Y) (hr : r1 = (w * 4294967296 + u1) - q1 * Y) (h0 : q0 = (r1 * 4294967296 + u0) / Y) :
    q1 * 4294967296 + q0 = (w * 18446744073709551616 + (u1 * 4294967296 + u0)) / Y ∧ (r1 * 4294967296 + u0) - q0 * Y = (w * 18446744073709551616 + (u1 * 4294967296 + u0)) % Y := by
  have e1 := Int.mul_ediv_add_emod (r1 * 4294967296 + u0) Y
  have e2 := Int.emod_nonneg (r1 * 4294967296 + u0) (show Y ≠ 0 by omega)
  have e3 := Int.emod_lt_of_pos (r1 * 4294967296 + u0) hY
  rw [← h0] at e1
  have key := (Int.ediv_emod_unique (a := w * 18446744073709551616 + (u1 * 4294967296 + u0)) (b := Y) (q := q1 * 4294967296 + q0) (r := (r1 * 4294967296 + u0) - q0 * Y) hY).2 ⟨by rw [hr]; grind, by rw [Int.mul_comm q0]; omega, by rw [Int.mul_comm q0]; omega⟩
  exact ⟨key.1.symm, key.2.symm⟩
theorem digit_init {v1 v0 u d : Int} (hv1 : 0 < v1) (hv0 : 0 ≤ v0) (hu : 0 ≤ u) (hd : d < 4294967296) : (u * 4294967296 + d) / (v1 * 4294967296 + v0) ≤ u / v1 := by
  have h1 := Int.mul_ediv_add_emod u v1
  have h2 := Int.emod_lt_of_pos u hv1
  have h3 : 0 ≤ u / v1 := Int.ediv_nonneg hu (by omega)
  have : (u * 4294967296 + d) / (v1 * 4294967296 + v0) < u / v1 + 1 := by
    refine Int.ediv_lt_of_lt_mul (by omega) ?_
    have e : (u / v1 + 1) * (v1 * 4294967296 + v0) = (v1 * (u / v1) + v1) * 4294967296 + (u / v1 + 1) * v0 := by grind
    rw [e]
    have := Int.mul_nonneg (show 0 ≤ u / v1 + 1 by omega) hv0
    omega
  omega
theorem or_add {a b s : Nat} (hb : b < 2 ^ s) (h : a * 2 ^ s + b < 18446744073709551616) : IntKind.u64.wrap ((BitVec.ofInt IntKind.u64.bits ((a * 2 ^ s : Nat) : Int) ||| BitVec.ofInt IntKind.u64.bits (b : Int)).toNat : Nat) = ((a * 2 ^ s + b : Nat) : Int) := by
  have e : (BitVec.ofInt IntKind.u64.bits ((a * 2 ^ s : Nat) : Int) ||| BitVec.ofInt IntKind.u64.bits (b : Int)).toNat = a * 2 ^ s + b := by
    show (BitVec.ofInt 64 ((a * 2 ^ s : Nat) : Int) ||| BitVec.ofInt 64 (b : Int)).toNat = _
    rw [BitVec.toNat_or, BitVec.ofInt_natCast, BitVec.ofInt_natCast, BitVec.toNat_ofNat, BitVec.toNat_ofNat, Nat.mod_eq_of_lt (by omega), Nat.mod_eq_of_lt (by omega), ← Nat.shiftLeft_eq, Nat.shiftLeft_add_eq_or_of_lt hb]
  rw [e, wmu64]
  omega
end Go.Proofs.YtljcbmnkjiogmaaDoor.Sv
