/- Strings as rows of bytes: places, parts, sums; decimal digits. No condition. -/
import Derived.Test.YtljcbmnkjiogmaaDoorSa
namespace Go.Proofs.YtljcbmnkjiogmaaDoor.Sv
open Go Go.RowKit
set_option linter.unusedVariables false
set_option linter.unusedSimpArgs false
set_option maxRecDepth 100000

theorem bsz (l : List UInt8) : (⟨l.toArray⟩ : ByteArray).size = l.length := by simp [ByteArray.size]
theorem sIdx {objs : List (Nat × List V)} {l : List UInt8} {k : IntKind} {i : Int} (m : Nat) {x : UInt8} (hi : i = m) (hx : l[m]? = some x) : (SO.po .idxS).rdx objs [.v (strB l), .v (.n k i)] = some (.v (.n .u8 ((x.toNat : Nat) : Int))) := by
  subst hi
  have hlt := (List.getElem?_eq_some_iff.1 hx).1
  have e := (List.getElem?_eq_some_iff.1 hx).2
  have h : (⟨l.toArray⟩ : ByteArray)[m]? = some x := by
    rw [getElem?_pos (h := by rw [bsz]; exact hlt), ByteArray.getElem_eq_getElem_data]
    simp [e]
  simp only [SO.rdx, SO.rd, allV, Option.map_some, Option.bind_some, PO.run, idxSV, Int.toNat_natCast, h]
  rw [if_pos (Int.natCast_nonneg m)]
  rfl
theorem extractB (l : List UInt8) (a b : Nat) : (⟨l.toArray⟩ : ByteArray).extract a b = ⟨((l.take b).drop a).toArray⟩ := by
  refine ByteArray.ext ?_
  rw [ByteArray.data_extract]
  simp [List.extract_eq_take_drop, List.drop_take]
theorem sFrom {objs : List (Nat × List V)} {l : List UInt8} {z : Nat} {k : IntKind} {i : Int} (m : Nat) (hi : i = m) (h : m ≤ l.length) : (SO.sl true z true false false).rdx objs [.v (strB l), .v (.n k i)] = some (.v (strB (l.drop m))) := by
  subst hi
  simp only [SO.rdx, SO.rd, slArgs, optArg, slD, optN, bsz, extractB, if_true, Option.bind_some, Bool.and_false, Bool.false_eq_true, if_false, Int.toNat_natCast]
  rw [if_pos (Int.natCast_nonneg m)]
  simp only [Option.bind_some]
  rw [if_pos ⟨h, Nat.le_refl _⟩, List.take_length]
theorem sTo {objs : List (Nat × List V)} {l : List UInt8} {z : Nat} {k : IntKind} {i : Int} (m : Nat) (hi : i = m) (h : m ≤ l.length) : (SO.sl true z false true false).rdx objs [.v (strB l), .v (.n k i)] = some (.v (strB (l.take m))) := by
  subst hi
  simp only [SO.rdx, SO.rd, slArgs, optArg, slD, optN, bsz, extractB, if_true, Option.bind_some, Bool.and_false, Bool.false_eq_true, if_false, Int.toNat_natCast]
  rw [if_pos (Int.natCast_nonneg m)]
  simp only [Option.bind_some]
  rw [if_pos ⟨Nat.zero_le _, h⟩, List.drop_zero]
theorem sPart {objs : List (Nat × List V)} {l : List UInt8} {z : Nat} {k k' : IntKind} {i j : Int} (m n : Nat) (hi : i = m) (hj : j = n) (h1 : m ≤ n) (h : n ≤ l.length) : (SO.sl true z true true false).rdx objs [.v (strB l), .v (.n k i), .v (.n k' j)] = some (.v (strB ((l.take n).drop m))) := by
  subst hi
  subst hj
  simp only [SO.rdx, SO.rd, slArgs, optArg, slD, optN, bsz, extractB, if_true, Option.bind_some, Bool.and_false, Bool.false_eq_true, if_false, Int.toNat_natCast]
  rw [if_pos (Int.natCast_nonneg m), if_pos (Int.natCast_nonneg n)]
  simp only [Option.bind_some]
  rw [if_pos ⟨h1, h⟩]
theorem sAdd {objs : List (Nat × List V)} (a b : List UInt8) (h : a.length + b.length ≤ 9223372036854775807) : (SO.po (.bin .add)).rdx objs [.v (strB a), .v (strB b)] = some (.v (strB (a ++ b))) := by
  have e : (⟨a.toArray⟩ : ByteArray) ++ ⟨b.toArray⟩ = ⟨(a ++ b).toArray⟩ := by
    refine ByteArray.ext ?_
    simp [ByteArray.data_append]
  simp only [SO.rdx, SO.rd, allV, Option.map_some, Option.bind_some, PO.run, binL, binV, binS, bsz, e]
  rw [if_neg (by show ¬ _ > (9223372036854775807 : Int); omega)]
  rfl
theorem sEq (x y : ByteArray) : (x.toList == y.toList) = decide (x = y) := by
  rw [ByteArray.toList_eq, ByteArray.toList_eq]
  by_cases h : x = y
  · subst h; simp
  · rw [decide_eq_false h]
    simpa using fun e => h (ByteArray.ext (Array.ext' e))
theorem strB_inj {a b : List UInt8} (h : (⟨a.toArray⟩ : ByteArray) = ⟨b.toArray⟩) : a = b := by
  have := congrArg (·.data.toList) h
  simpa using this
/-- The number that decimal digits stand for. -/
def dv (l : List UInt8) : Nat := l.foldl (fun a c => 10 * a + (c.toNat - 48)) 0
def isDec (l : List UInt8) : Prop := ∀ c ∈ l, 48 ≤ c.toNat ∧ c.toNat ≤ 57
theorem dv_nil : dv [] = 0 := rfl
theorem dv_snoc (l : List UInt8) (c : UInt8) : dv (l ++ [c]) = 10 * dv l + (c.toNat - 48) := by simp [dv, List.foldl_append]
theorem dv_app (l m : List UInt8) : dv (l ++ m) = dv l * 10 ^ m.length + dv m := by
  suffices h : ∀ r : List UInt8, dv (l ++ r.reverse) = dv l * 10 ^ r.length + dv r.reverse by
    have := h m.reverse
    simpa using this
  intro r
  induction r with
  | nil => simp [dv_nil]
  | cons c r ih =>
    rw [List.reverse_cons, ← List.append_assoc, dv_snoc, ih, dv_snoc, List.length_cons, Nat.pow_succ]
    rw [Nat.mul_add, ← Nat.mul_assoc, Nat.mul_comm 10 (dv l), Nat.mul_assoc, Nat.mul_comm 10 (10 ^ _)]
    omega
theorem dv_lt {l : List UInt8} (h : isDec l) : dv l < 10 ^ l.length := by
  suffices g : ∀ r : List UInt8, isDec r → dv r.reverse < 10 ^ r.length by
    have := g l.reverse fun c hc => h c (by simpa using hc)
    simpa using this
  intro r
  induction r with
  | nil => intro _; decide
  | cons c r ih =>
    intro h
    have h1 := ih fun x hx => h x (List.mem_cons_of_mem _ hx)
    have h2 := h c List.mem_cons_self
    rw [List.reverse_cons, dv_snoc, List.length_cons, Nat.pow_succ]
    omega
theorem isDec_app {l m : List UInt8} : isDec (l ++ m) ↔ isDec l ∧ isDec m := by
  unfold isDec
  constructor
  · exact fun h => ⟨fun c hc => h c (List.mem_append_left _ hc), fun c hc => h c (List.mem_append_right _ hc)⟩
  · rintro ⟨h1, h2⟩ c hc
    rcases List.mem_append.1 hc with hc | hc
    · exact h1 c hc
    · exact h2 c hc
end Go.Proofs.YtljcbmnkjiogmaaDoor.Sv
