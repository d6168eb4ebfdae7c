/- Continued fractions: their terms, and the number that terms stand for. No condition. -/
import Derived.Test.YtjeafcngljbdlaaFh
namespace Go.Proofs.Ytjeafcngljbdlaa.Sv
open Go Go.RowKit
set_option linter.unusedVariables false
set_option linter.unusedSimpArgs false

/-- The terms of n/d. -/
def cf (n d : Int) : List Int := if h : 0 < d then (n / d) :: cf d (n % d) else []
  termination_by d.toNat
  decreasing_by
    have := Int.emod_lt_of_pos n h
    have := Int.emod_nonneg n (show d ≠ 0 by omega)
    omega
theorem cf_pos {n d : Int} (h : 0 < d) : cf n d = (n / d) :: cf d (n % d) := by rw [cf, dif_pos h]
theorem cf_zero {n d : Int} (h : ¬ 0 < d) : cf n d = [] := by rw [cf, dif_neg h]
theorem cf_len : ∀ (k : Nat) (n d : Int), d < 2 ^ k → (cf n d).length ≤ 2 * k
  | 0, n, d, h => by rw [cf_zero (by simp at h; omega)]; simp
  | k + 1, n, d, h => by
    by_cases h0 : 0 < d
    · rw [cf_pos h0]
      have h1 := Int.emod_lt_of_pos n h0
      have h2 := Int.emod_nonneg n (show d ≠ 0 by omega)
      by_cases h3 : 0 < n % d
      · rw [cf_pos h3]
        have h4 : d % (n % d) < 2 ^ k := by
          have h5 := Int.emod_lt_of_pos d h3
          have h6 : (2 : Int) ^ (k + 1) = 2 * 2 ^ k := by rw [Int.pow_succ]; omega
          by_cases h7 : 2 * (n % d) ≤ d
          · omega
          · have h8 : d % (n % d) = d - n % d := by
              have h9 : d / (n % d) = 1 := by
                have a1 : 1 ≤ d / (n % d) := (Int.le_ediv_iff_mul_le h3).2 (by omega)
                have a2 : d / (n % d) < 2 := (Int.ediv_lt_iff_lt_mul h3).2 (by omega)
                omega
              have := Int.emod_add_mul_ediv d (n % d)
              rw [h9] at this
              omega
            omega
        have := cf_len k (n % d) (d % (n % d)) h4
        simp only [List.length_cons]
        omega
      · rw [cf_zero h3]
        simp
        omega
    · rw [cf_zero h0]; simp
/-- The numerator and the denominator of what the terms stand for. -/
def cont : List Int → Int × Int
  | [] => (1, 0)
  | t :: l => (t * (cont l).1 + (cont l).2, (cont l).1)
theorem cont_gcd : ∀ l : List Int, Int.gcd (cont l).1 (cont l).2 = 1
  | [] => by simp [cont]
  | t :: l => by
    simp only [cont]
    have ih := cont_gcd l
    have h := Int.gcd_add_mul_left_left (cont l).1 (cont l).2 t
    rw [show t * (cont l).1 + (cont l).2 = (cont l).2 + (cont l).1 * t by rw [Int.mul_comm, Int.add_comm]]
    rw [h, Int.gcd_comm]
    exact ih
theorem mul_ge {t a : Int} (ht : 1 ≤ t) (ha : 0 ≤ a) : a ≤ t * a := by
  have := Int.mul_le_mul_of_nonneg_right ht ha
  omega
theorem cont_pos : ∀ {l : List Int}, (∀ t ∈ l, 1 ≤ t) → 0 ≤ (cont l).2 ∧ (cont l).2 ≤ (cont l).1 ∧ 1 ≤ (cont l).1
  | [], _ => by simp [cont]
  | t :: l, h => by
    obtain ⟨h1, h2, h3⟩ := cont_pos (l := l) fun x hx => h x (by simp [hx])
    have := mul_ge (h t (by simp)) (show 0 ≤ (cont l).1 by omega)
    simp only [cont]
    omega
/-- The numerators only grow. -/
theorem cont_mono : ∀ {l : List Int} (k : Nat), (∀ t ∈ l, 1 ≤ t) → (cont (l.drop k)).1 ≤ (cont l).1
  | l, 0, _ => by simp
  | [], k + 1, _ => by simp [cont]
  | t :: l, k + 1, h => by
    have hl : ∀ t ∈ l, 1 ≤ t := fun x hx => h x (by simp [hx])
    have h1 := cont_mono (l := l) k hl
    obtain ⟨h2, h3, h4⟩ := cont_pos hl
    have := mul_ge (h t (by simp)) (show 0 ≤ (cont l).1 by omega)
    simp only [cont, List.drop_succ_cons]
    omega
theorem cont_big : ∀ (k : Nat) {l : List Int}, (∀ t ∈ l, 1 ≤ t) → 2 * k ≤ l.length → (2 : Int) ^ k ≤ (cont l).1
  | 0, l, h, _ => by have := cont_pos h; simp; omega
  | k + 1, l, h, hk => by
    match l, h, hk with
    | t :: u :: l, h, hk =>
      have hl : ∀ t ∈ l, 1 ≤ t := fun x hx => h x (by simp [hx])
      have h1 := cont_big k (l := l) hl (by simp at hk; omega)
      obtain ⟨h2, h3, h4⟩ := cont_pos hl
      have a1 := mul_ge (h u (by simp)) (show 0 ≤ (cont l).1 by omega)
      have a2 := mul_ge (h t (by simp)) (show 0 ≤ u * (cont l).1 + (cont l).2 by omega)
      simp only [cont]
      rw [Int.pow_succ]
      omega
    | [], h, hk => simp at hk
    | [t], h, hk => simp at hk; omega
/-- One step of the convergents from the front. -/
def frontS (s : Int × Int) (t : Int) : Int × Int := (s.2, s.1 + s.2 * t)
theorem front_eq : ∀ (l : List Int) (s : Int × Int), (l.foldl frontS s).2 = s.2 * (cont l).1 + s.1 * (cont l).2
  | [], s => by simp [cont]
  | t :: l, s => by
    rw [List.foldl_cons, front_eq l]
    simp only [frontS, cont]
    rw [Int.mul_add, Int.add_mul, Int.mul_assoc]
    omega
theorem front_le : ∀ (l : List Int) (s : Int × Int) (B : Int), (∀ t ∈ l, -1152921504606846976 ≤ t ∧ t ≤ 1152921504606846976) → (s.1.natAbs : Int) ≤ B → (s.2.natAbs : Int) ≤ B →
    ((l.foldl frontS s).1.natAbs : Int) ≤ B * 2 ^ (61 * l.length) ∧ ((l.foldl frontS s).2.natAbs : Int) ≤ B * 2 ^ (61 * l.length)
  | [], s, B, _, h1, h2 => by simpa using ⟨h1, h2⟩
  | t :: l, s, B, h, h1, h2 => by
    have ht := h t (by simp)
    have h3 : ((s.2 * t).natAbs : Int) ≤ B * 1152921504606846976 := by
      rw [Int.natAbs_mul, Int.natCast_mul]
      exact Int.mul_le_mul h2 (by omega) (by omega) (by omega)
    have ih := front_le l (frontS s t) (B * 2 ^ 61) (fun x hx => h x (by simp [hx])) (by simp only [frontS]; omega) (by simp only [frontS]; omega)
    rw [List.foldl_cons]
    have e : B * 2 ^ 61 * 2 ^ (61 * l.length) = B * 2 ^ (61 * (t :: l).length) := by
      rw [Int.mul_assoc, ← Int.pow_add]
      congr 2
      simp only [List.length_cons]
      omega
    rw [← e]
    exact ih
abbrev M60 : Int := 1152921504606846976
/-- The least error of the terms. -/
def termsBad (l : List Int) : Int :=
  if l = [] then 8 else if (∃ t, l[0]? = some t ∧ (t > M60 ∨ t < -M60)) ∨ ∃ t ∈ l.drop 1, t > M60 ∨ t < 1 then 4 else if 1 < l.length ∧ l.getLast? = some 1 then 3 else 0
/-- What the terms stand for, if it is not too large. -/
def fromT (l : List Int) : V := madeT (cont l).1 (cont l).2 true
/-- Where a part from the end is too large, all is. -/
theorem from_over {l : List Int} {i : Nat} (h : ∀ t ∈ l.drop 1, 1 ≤ t) (hi : 1 ≤ i) (ho : M60 < (cont (l.drop i)).1) : fromT l = .tup [fracV 0 0, .n .i64 2] := by
  have h1 := cont_mono (i - 1) h
  rw [List.drop_drop, show 1 + (i - 1) = i by omega] at h1
  unfold fromT madeT
  rw [if_pos ?_]
  refine .inr (.inr (.inr ?_))
  cases l with
  | nil => simp [cont, M60] at ho
  | cons t l => simp only [cont, List.drop_succ_cons, List.drop_zero] at h1 ⊢; unfold M60 at ho; omega
theorem from_take {l : List Int} (h : ∀ t ∈ l.drop 1, 1 ≤ t) : fromT (l.take 200) = fromT l := by
  by_cases hl : l.length ≤ 200
  · rw [List.take_of_length_le hl]
  · have big : ∀ {m : List Int}, (∀ t ∈ m.drop 1, 1 ≤ t) → 200 ≤ m.length → fromT m = .tup [fracV 0 0, .n .i64 2] := fun {m} hm hn => by
      refine from_over (i := 1) hm (Nat.le_refl _) ?_
      have := cont_big 99 hm (by simp; omega)
      unfold M60
      omega
    rw [big (m := l) h (by omega), big (m := l.take 200) (fun t ht => h t (by rw [List.drop_take] at ht; exact List.mem_of_mem_take ht)) (by simp; omega)]
end Go.Proofs.Ytjeafcngljbdlaa.Sv
