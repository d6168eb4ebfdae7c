/- Alerts in packed form: rows of bytes, and the two checksums. No condition. -/
import Derived.Test.YtljcbmnkjiogmaaDoorAq
namespace Go.Proofs.YtljcbmnkjiogmaaDoor.Sv
open Go Go.RowKit
set_option linter.unusedVariables false
set_option linter.unusedSimpArgs false
set_option maxRecDepth 100000

/-- A byte's cells. -/
abbrev nb (x : Nat) : List V := [.n .u8 (x : Int)]
/-- A row of bytes. -/
abbrev bV (l : List Nat) : List V := l.flatMap nb
theorem nb_len (x : Nat) : (nb x).length = 1 := rfl
theorem bV_one : ∀ l : List Nat, (bV l).all V.one = true
  | [] => rfl
  | x :: l => by
    show ((nb x) ++ bV l).all V.one = true
    rw [List.all_append, bV_one l]
    rfl
/-- A number, seven bits a byte. -/
def sev (n : Nat) : List Nat := if n < 128 then [n] else (n % 128 + 128) :: sev (n / 128)
termination_by n
decreasing_by omega
theorem sev_lt {n : Nat} (h : n < 128) : sev n = [n] := by rw [sev, if_pos h]
theorem sev_ge {n : Nat} (h : ¬ n < 128) : sev n = (n % 128 + 128) :: sev (n / 128) := by rw [sev, if_neg h]
theorem sev_len : ∀ (k n : Nat), n < 128 ^ (k + 1) → (sev n).length ≤ k + 1
  | 0, n, h => by rw [sev_lt (by simpa using h)]; simp
  | k + 1, n, h => by
    by_cases g : n < 128
    · rw [sev_lt g]; simp
    · rw [sev_ge g, List.length_cons]
      have := sev_len k (n / 128) (by rw [Nat.pow_succ] at h; omega)
      omega
theorem sev_10 {n : Nat} (h : n < 18446744073709551616) : (sev n).length ≤ 10 := sev_len 9 n (by omega)
theorem sev_256 : ∀ (n : Nat), ∀ x ∈ sev n, x < 256 := by
  intro n
  induction n using Nat.strongRecOn with
  | ind n ih =>
    intro x hx
    by_cases g : n < 128
    · rw [sev_lt g] at hx; simp at hx; omega
    · rw [sev_ge g] at hx
      rcases List.mem_cons.1 hx with rfl | hx
      · omega
      · exact ih (n / 128) (by omega) x hx
/-- Bytes as bytes. -/
def u8s (l : List Nat) : List UInt8 := l.map fun x => UInt8.ofNat x
theorem u8s_len (l : List Nat) : (u8s l).length = l.length := by simp [u8s]
theorem bytesV_u8s : ∀ {l : List Nat}, (∀ x ∈ l, x < 256) → bytesV (u8s l) = bV l
  | [], _ => rfl
  | x :: l, h => by
    have e : (UInt8.ofNat x).toNat = x := by
      rw [UInt8.toNat_ofNat']
      exact Nat.mod_eq_of_lt (h x List.mem_cons_self)
    have := bytesV_u8s (l := l) fun y hy => h y (List.mem_cons_of_mem _ hy)
    show V.n .u8 (((UInt8.ofNat x).toNat : Nat) : Int) :: bytesV (u8s l) = V.n .u8 (x : Int) :: bV l
    rw [e, this]
/-- The checksum. -/
def crcL (l : List Nat) : Nat := 4294967295 ^^^ crcN (u8s l) 4294967295
theorem crcN_lt : ∀ (l : List UInt8) (c : Nat), c < 4294967296 → crcN l c < 4294967296
  | [], c, h => h
  | b :: l, c, h => crcN_lt l _ (bitsN_lt (Nat.xor_lt_two_pow (n := 32) h (by have := b.toNat_lt; omega)))
theorem crcL_lt (l : List Nat) : crcL l < 4294967296 := Nat.xor_lt_two_pow (n := 32) (by decide) (crcN_lt _ _ (by decide))
theorem not32 {c : Nat} (h : c < 4294967296) : 4294967295 ^^^ c = 4294967295 - c := by
  have e := congrArg BitVec.toNat (BitVec.allOnes_xor (x := BitVec.ofNat 32 c))
  rw [BitVec.toNat_xor, BitVec.toNat_not, BitVec.toNat_allOnes, BitVec.toNat_ofNat, Nat.mod_eq_of_lt h] at e
  exact e
/-- One bit of the reference's checksum. -/
def refBit (r b : Nat) : Nat := if r % 2 ≠ b then (r / 2) ^^^ 3988292384 else r / 2
theorem xor_half (a b : Nat) : (a ^^^ b) / 2 = (a / 2) ^^^ (b / 2) := by
  have h : ∀ n : Nat, n / 2 = n >>> 1 := fun n => by rw [Nat.shiftRight_eq_div_pow]
  rw [h, h, h, Nat.shiftRight_xor_distrib]
theorem xor_low (a b : Nat) : (a ^^^ b) % 2 = if a % 2 ≠ b % 2 then 1 else 0 := by
  have h := Nat.xor_mod_two_eq_one (a := a) (b := b)
  split <;> omega
theorem bit_ref (r x : Nat) : bitN (r ^^^ x) = refBit r (x % 2) ^^^ (x / 2) := by
  unfold bitN refBit
  rw [xor_low, xor_half]
  by_cases h : r % 2 ≠ x % 2
  · rw [if_pos h, if_pos rfl, if_pos h, Nat.xor_assoc, Nat.xor_assoc, Nat.xor_comm (x / 2)]
  · rw [if_neg h, if_neg (by decide), if_neg h]
theorem refBit_lt {r b : Nat} (h : r < 4294967296) : refBit r b < 4294967296 := by
  unfold refBit
  split
  · exact Nat.xor_lt_two_pow (n := 32) (by omega) (by decide)
  · omega
/-- The numbers of a bound in packed form. -/
def zz (x : Int) : Nat := if x < 0 then (-2 * x - 1).toNat else (2 * x).toNat
def pr (lo hi : Int) (u : Bool) : List Nat := if u then [] else sev (zz lo) ++ sev (hi - lo).toNat
def b2n (b : Bool) : Nat := if b then 1 else 0
/-- The four bytes of a checksum. -/
def four (c : Nat) : List Nat := [c / 16777216, c / 65536 % 256, c / 256 % 256, c % 256]
/-- What is packed of an alert, without its checksum. -/
def packB (i k o t0 t1 : Int) (tu : Bool) (r0 r1 : Int) (ru : Bool) (d0 d1 : Int) (du : Bool) (q0 q1 : Int) (qu : Bool) (f : Int) : List Nat :=
  [165, k.toNat + 16 * (b2n tu + 2 * b2n ru + 4 * b2n du + 8 * b2n qu)] ++ sev i.toNat ++ pr t0 t1 tu ++
    (if k = 6 then sev f.toNat else sev o.toNat ++ pr r0 r1 ru ++ pr d0 d1 du ++ pr q0 q1 qu)
def packA (i k o t0 t1 : Int) (tu : Bool) (r0 r1 : Int) (ru : Bool) (d0 d1 : Int) (du : Bool) (q0 q1 : Int) (qu : Bool) (f : Int) : List Nat :=
  packB i k o t0 t1 tu r0 r1 ru d0 d1 du q0 q1 qu f ++ four (crcL (packB i k o t0 t1 tu r0 r1 ru d0 d1 du q0 q1 qu f))
end Go.Proofs.YtljcbmnkjiogmaaDoor.Sv
