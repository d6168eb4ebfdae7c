/- Whole numbers as digits in base 10^6, the lowest first: plain arithmetic, no program in sight. No condition. -/
import Derived.Test.YtljcbmnkjiogmaaDoorWc
namespace Go.Proofs.YtljcbmnkjiogmaaDoor.Sv
open Go Go.RowKit
set_option linter.unusedVariables false
set_option linter.unusedSimpArgs false

def zval : List Int → Int
  | [] => 0
  | d :: l => d + 1000000 * zval l
def zdig (l : List Int) : Prop := ∀ x ∈ l, 0 ≤ x ∧ x ≤ 999999
theorem zdig_nil : zdig [] := fun x h => by cases h
theorem zdig_cons {d : Int} {l : List Int} : zdig (d :: l) ↔ (0 ≤ d ∧ d ≤ 999999) ∧ zdig l := by simp [zdig]
theorem zdig_app {l m : List Int} : zdig (l ++ m) ↔ zdig l ∧ zdig m := by
  constructor
  · exact fun h => ⟨fun x hx => h x (by simp [hx]), fun x hx => h x (by simp [hx])⟩
  · intro h x hx
    rcases List.mem_append.1 hx with hx | hx
    · exact h.1 x hx
    · exact h.2 x hx
theorem zdig_take {l : List Int} (h : zdig l) (k : Nat) : zdig (l.take k) := fun x hx => h x (List.mem_of_mem_take hx)
theorem zdig_drop {l : List Int} (h : zdig l) (k : Nat) : zdig (l.drop k) := fun x hx => h x (List.mem_of_mem_drop hx)
theorem zdig_set {l : List Int} (h : zdig l) {k : Nat} {x : Int} (hx : 0 ≤ x ∧ x ≤ 999999) : zdig (l.set k x) := fun y hy => by
  rcases List.mem_or_eq_of_mem_set hy with hy | rfl
  · exact h y hy
  · exact hx
theorem zval_nonneg : ∀ {l : List Int}, zdig l → 0 ≤ zval l
  | [], _ => by simp [zval]
  | d :: l, h => by
    have := zval_nonneg (zdig_cons.1 h).2
    have := (zdig_cons.1 h).1
    simp only [zval]; omega
theorem zval_app : ∀ {l m : List Int}, zval (l ++ m) = zval l + 1000000 ^ l.length * zval m
  | [], m => by simp [zval]
  | d :: l, m => by
    simp only [List.cons_append, zval, zval_app (l := l), List.length_cons, Int.pow_succ]
    rw [Int.mul_add, ← Int.mul_assoc, Int.mul_comm 1000000 ((1000000 : Int) ^ l.length)]
    omega
theorem zval_lt : ∀ {l : List Int}, zdig l → zval l < 1000000 ^ l.length
  | [], _ => by simp [zval]
  | d :: l, h => by
    have := zval_lt (zdig_cons.1 h).2
    have := (zdig_cons.1 h).1
    simp only [zval, List.length_cons, Int.pow_succ]; omega
theorem pow_pos' (k : Nat) : (0 : Int) < 1000000 ^ k := Int.pow_pos (by decide)
theorem pow_mono {k m : Nat} (h : k ≤ m) : (1000000 : Int) ^ k ≤ 1000000 ^ m := by
  obtain ⟨j, rfl⟩ := Nat.le.dest h
  have h1 := pow_pos' k
  have h2 := pow_pos' j
  rw [Int.pow_add]
  have := Int.mul_le_mul_of_nonneg_left (show (1 : Int) ≤ 1000000 ^ j by omega) (Int.le_of_lt h1)
  omega
theorem zval_zeros (n : Nat) : zval (List.replicate n 0) = 0 := by
  induction n with
  | zero => rfl
  | succ n ih => simp [List.replicate_succ, zval, ih]
/-- The digits of a number. -/
def digs (n : Nat) : List Int := if h : n = 0 then [] else ((n % 1000000 : Nat) : Int) :: digs (n / 1000000)
termination_by n
decreasing_by omega
theorem digs_zero : digs 0 = [] := by unfold digs; simp
theorem digs_pos {n : Nat} (h : n ≠ 0) : digs n = ((n % 1000000 : Nat) : Int) :: digs (n / 1000000) := by rw [digs, dif_neg h]
theorem digs_dig (n : Nat) : zdig (digs n) := by
  induction n using Nat.strongRecOn with
  | _ n ih =>
    by_cases h : n = 0
    · subst h; rw [digs_zero]; exact zdig_nil
    · rw [digs_pos h]; exact zdig_cons.2 ⟨by omega, ih _ (by omega)⟩
theorem digs_val (n : Nat) : zval (digs n) = n := by
  induction n using Nat.strongRecOn with
  | _ n ih =>
    by_cases h : n = 0
    · subst h; rw [digs_zero]; rfl
    · rw [digs_pos h, zval, ih _ (by omega)]; omega
/-- No zero at the end. -/
def zcan (l : List Int) : Prop := ∀ m, l ≠ m ++ [0]
theorem zcan_nil : zcan [] := fun m h => by simp at h
theorem zcan_tail {d : Int} {l : List Int} (h : zcan (d :: l)) : zcan l := fun m hm => h (d :: m) (by rw [hm]; rfl)
theorem zcan_pos : ∀ {l : List Int}, zdig l → zcan l → l ≠ [] → 0 < zval l
  | [], _, _, h => absurd rfl h
  | d :: l, h1, h2, _ => by
    have hd := (zdig_cons.1 h1).1
    by_cases hl : l = []
    · subst hl
      have : d ≠ 0 := fun e => h2 [] (by rw [e]; rfl)
      simp only [zval]; omega
    · have := zcan_pos (zdig_cons.1 h1).2 (zcan_tail h2) hl
      simp only [zval]; omega
theorem zcan_digs : ∀ {l : List Int}, zdig l → zcan l → ∀ {n : Nat}, zval l = n → digs n = l
  | [], _, _, n, hn => by
    simp only [zval] at hn
    have : n = 0 := by omega
    rw [this, digs_zero]
  | d :: l, h1, h2, n, hn => by
    have hd := (zdig_cons.1 h1).1
    have hp := zcan_pos h1 h2 (by simp)
    have h0 := zval_nonneg (zdig_cons.1 h1).2
    simp only [zval] at hn hp
    rw [digs_pos (by omega), zcan_digs (zdig_cons.1 h1).2 (zcan_tail h2) (n := n / 1000000) (by omega)]
    congr 1
    omega
theorem digs_can (n : Nat) : zcan (digs n) := by
  induction n using Nat.strongRecOn with
  | _ n ih =>
    intro m
    by_cases h : n = 0
    · subst h; rw [digs_zero]; simp
    · rw [digs_pos h]
      cases m with
      | nil =>
        intro h0
        simp only [List.nil_append, List.cons.injEq] at h0
        obtain ⟨h1, h2⟩ := h0
        have := digs_val (n / 1000000)
        rw [h2] at this
        simp only [zval] at this
        omega
      | cons y m =>
        intro h0
        simp only [List.cons_append, List.cons.injEq] at h0
        obtain ⟨_, h2⟩ := h0
        exact ih _ (by omega) m h2
theorem digs_nil {n : Nat} : digs n = [] ↔ n = 0 := by
  constructor
  · intro h
    have := digs_val n
    rw [h] at this
    simp only [zval] at this
    omega
  · rintro rfl; exact digs_zero
/-- Fewer than so many digits. -/
def zb (k : Nat) (n : Int) : Prop := (n.natAbs : Int) < 1000000 ^ k
theorem digs_len {k n : Nat} (h : (n : Int) < 1000000 ^ k) : (digs n).length ≤ k := by
  induction k generalizing n with
  | zero => simp at h; have : n = 0 := by omega
            subst this; rw [digs_zero]; simp
  | succ k ih =>
    by_cases hn : n = 0
    · subst hn; rw [digs_zero]; simp
    · rw [digs_pos hn, List.length_cons]
      rw [Int.pow_succ] at h
      have := ih (n := n / 1000000) (by omega)
      omega
theorem digs_len' (n : Nat) : (n : Int) < 1000000 ^ (digs n).length := by
  have := zval_lt (digs_dig n)
  rwa [digs_val] at this
theorem digs_ge {n : Nat} (h : n ≠ 0) : (1000000 : Int) ^ ((digs n).length - 1) ≤ n := by
  induction n using Nat.strongRecOn with
  | _ n ih =>
    rw [digs_pos h, List.length_cons, Nat.add_sub_cancel]
    by_cases h1 : n / 1000000 = 0
    · rw [h1, digs_zero]; simp; omega
    · have := ih _ (by omega) h1
      have hl : (digs (n / 1000000)).length ≠ 0 := by
        intro e
        exact h1 (digs_nil.1 (List.length_eq_zero_iff.1 e))
      obtain ⟨m, hm⟩ : ∃ m, (digs (n / 1000000)).length = m + 1 := ⟨(digs (n / 1000000)).length - 1, by omega⟩
      rw [hm] at this ⊢
      rw [Nat.add_sub_cancel] at this
      rw [Int.pow_succ]
      omega
theorem zb.mono {k m : Nat} {n : Int} (h : zb k n) (hk : k ≤ m) : zb m n := Int.lt_of_lt_of_le h (pow_mono hk)
theorem zb.neg {k : Nat} {n : Int} (h : zb k n) : zb k (-n) := by unfold zb; rwa [Int.natAbs_neg]
theorem zb.mul {k m : Nat} {a b : Int} (h : zb k a) (h' : zb m b) : zb (k + m) (a * b) := by
  unfold zb at *
  rw [Int.natAbs_mul, Int.pow_add]
  have := pow_pos' k
  have := pow_pos' m
  by_cases hb : b.natAbs = 0
  · rw [hb]; simp only [Nat.mul_zero, Int.natCast_zero]; exact Int.mul_pos (pow_pos' k) (pow_pos' m)
  · push_cast
    exact Int.mul_lt_mul h (Int.le_of_lt h') (by omega) (by omega)
theorem zb.add {k m j : Nat} {a b : Int} (h : zb k a) (h' : zb m b) (hk : k < j) (hm : m < j) : zb j (a + b) := by
  have h1 : zb (j - 1) a := h.mono (by omega)
  have h2 : zb (j - 1) b := h'.mono (by omega)
  obtain ⟨i, rfl⟩ : ∃ i, j = i + 1 := ⟨j - 1, by omega⟩
  rw [Nat.add_sub_cancel] at h1 h2
  unfold zb at *
  rw [Int.pow_succ]
  omega
theorem zb.sub {k m j : Nat} {a b : Int} (h : zb k a) (h' : zb m b) (hk : k < j) (hm : m < j) : zb j (a - b) := by
  rw [Int.sub_eq_add_neg]; exact h.add h'.neg hk hm
theorem zb.le {k : Nat} {a b : Int} (h : zb k b) (h' : a.natAbs ≤ b.natAbs) : zb k a := by unfold zb at *; omega
theorem ediv_abs_le {a d : Int} (hd : 1 ≤ d) : (a / d).natAbs ≤ a.natAbs := by
  have h1 := Int.mul_ediv_add_emod a d
  have h2 := Int.emod_nonneg a (show d ≠ 0 by omega)
  have h3 := Int.emod_lt_of_pos a (show 0 < d by omega)
  by_cases h : a / d < 0
  · have := Int.mul_le_mul_of_nonneg_right hd (show 0 ≤ -(a / d) - 1 by omega)
    have e : d * (-(a / d) - 1) = -(d * (a / d)) - d := by grind
    omega
  · have := Int.mul_le_mul_of_nonneg_right hd (show 0 ≤ a / d by omega)
    omega
theorem zb.div {k : Nat} {a d : Int} (h : zb k a) (hd : 1 ≤ d) : zb k (a / d) := h.le (ediv_abs_le hd)
/-- a / b, rounded up. -/
def cdiv (a b : Int) : Int := -(-a / b)
theorem zb.cdiv {k : Nat} {a d : Int} (h : zb k a) (hd : 1 ≤ d) : zb k (cdiv a d) := (h.neg.div hd).neg
theorem zb_lit {k : Nat} {n : Int} (h : (n.natAbs : Int) < 1000000 ^ k) : zb k n := h
theorem zb_64 {n : Int} (h : -18446744073709551616 ≤ n ∧ n ≤ 18446744073709551616) : zb 4 n := by
  unfold zb
  have : (1000000 : Int) ^ 4 = 1000000000000000000000000 := by decide
  omega
theorem zb.len {k : Nat} {n : Int} (h : zb k n) : (digs n.natAbs).length ≤ k := digs_len h
/-- Not too large to be reckoned with. -/
abbrev zok (n : Int) : Prop := zb 1000000 n
abbrev digV (n : Nat) : V := intsV (digs n)
abbrev zC (n : Int) : List V := [.b (decide (n < 0)), digV n.natAbs]
abbrev zV (n : Int) : V := .agg (zC n)
def sgn (n : Int) : Int := if n < 0 then -1 else if n = 0 then 0 else 1
def icmp (a b : Int) : Int := if a < b then -1 else if a = b then 0 else 1
/-! ### Comparing digits -/
theorem zval_split {l : List Int} {i : Nat} {x : Int} (h : l[i]? = some x) : zval l = zval (l.take i) + 1000000 ^ i * (x + 1000000 * zval (l.drop (i + 1))) := by
  obtain ⟨hi, rfl⟩ := List.getElem?_eq_some_iff.1 h
  have e : l = l.take i ++ l[i] :: l.drop (i + 1) := by rw [List.getElem_cons_drop, List.take_append_drop]
  conv => lhs; rw [e, zval_app]
  simp only [List.length_take, zval]
  rw [Nat.min_eq_left (by omega)]
theorem zcmp_at {l m : List Int} (hl : zdig l) (hm : zdig m) {i : Nat} {x y : Int} (hd : l.drop (i + 1) = m.drop (i + 1)) (hx : l[i]? = some x) (hy : m[i]? = some y) (hxy : x < y) : zval l < zval m := by
  rw [zval_split hx, zval_split hy, hd]
  have h1 := zval_lt (zdig_take hl i)
  have h2 := zval_nonneg (zdig_take hm i)
  have hi := (List.getElem?_eq_some_iff.1 hx).1
  rw [List.length_take, Nat.min_eq_left (by omega)] at h1
  have h3 : (1000000 : Int) ^ i * (x + 1000000 * zval (m.drop (i + 1)) + 1) ≤ 1000000 ^ i * (y + 1000000 * zval (m.drop (i + 1))) := Int.mul_le_mul_of_nonneg_left (by omega) (Int.le_of_lt (pow_pos' i))
  rw [Int.mul_add _ _ 1, Int.mul_one] at h3
  omega
theorem zcmp_len {a b : Nat} (h : (digs a).length < (digs b).length) : a < b := by
  have h1 := digs_len' a
  have hb : b ≠ 0 := fun e => by rw [e, digs_zero] at h; simp at h
  have h2 := digs_ge hb
  have := pow_mono (show (digs a).length ≤ (digs b).length - 1 by omega)
  omega
theorem zval_set {l : List Int} {i : Nat} {x v : Int} (h : l[i]? = some x) : zval (l.set i v) = zval l + 1000000 ^ i * (v - x) := by
  obtain ⟨hi, rfl⟩ := List.getElem?_eq_some_iff.1 h
  have h1 := zval_split h
  have h2 := zval_split (l := l.set i v) (i := i) (x := v) (by simp [hi])
  rw [h1, h2, List.take_set_of_le (by omega), List.drop_set_of_lt (by omega)]
  generalize zval (l.drop (i + 1)) = r
  generalize (1000000 : Int) ^ i = P
  grind
theorem zval_take_succ {l : List Int} {i : Nat} {x : Int} (h : l[i]? = some x) : zval (l.take (i + 1)) = zval (l.take i) + 1000000 ^ i * x := by
  obtain ⟨hi, rfl⟩ := List.getElem?_eq_some_iff.1 h
  rw [List.take_succ_eq_append_getElem hi, zval_app, List.length_take, Nat.min_eq_left (by omega)]
  simp [zval]
/-! ### Sums -/
def fstD : List Int → Int
  | [] => 0
  | d :: _ => d
/-- Digits one by one; s is the sign of the second, c what is carried. -/
def sumL (s : Int) : Nat → List Int → List Int → Int → List Int
  | 0, _, _, c => if 0 < c then [c] else []
  | n + 1, a, b, c =>
    let x := c + fstD a + s * fstD b
    (if 1000000 ≤ x then x - 1000000 else if x < 0 then x + 1000000 else x) :: sumL s n a.tail b.tail (if 1000000 ≤ x then 1 else if x < 0 then -1 else 0)
theorem fstD_dig {l : List Int} (h : zdig l) : 0 ≤ fstD l ∧ fstD l ≤ 999999 := by
  cases l with
  | nil => simp [fstD]
  | cons d l => exact (zdig_cons.1 h).1
theorem zdig_tail {l : List Int} (h : zdig l) : zdig l.tail := by
  cases l with
  | nil => exact h
  | cons d l => exact (zdig_cons.1 h).2
theorem zval_tail (l : List Int) : zval l = fstD l + 1000000 * zval l.tail := by cases l <;> rfl
theorem sumL_dig {s : Int} (hs : s = 1 ∨ s = -1) : ∀ {n : Nat} {a b : List Int} {c : Int}, zdig a → zdig b → -1 ≤ c ∧ c ≤ 1 → zdig (sumL s n a b c)
  | 0, a, b, c, ha, hb, hc => by
    unfold sumL
    split
    · exact zdig_cons.2 ⟨by omega, zdig_nil⟩
    · exact zdig_nil
  | n + 1, a, b, c, ha, hb, hc => by
    have h1 := fstD_dig ha
    have h2 := fstD_dig hb
    unfold sumL
    refine zdig_cons.2 ⟨?_, sumL_dig hs (zdig_tail ha) (zdig_tail hb) (by split <;> (try split) <;> omega)⟩
    rcases hs with rfl | rfl <;> simp only [Int.one_mul, Int.neg_mul] <;> split <;> (try split) <;> omega
theorem sumL_len {s : Int} : ∀ {n : Nat} {a b : List Int} {c : Int}, (sumL s n a b c).length ≤ n + 1
  | 0, a, b, c => by unfold sumL; split <;> simp
  | n + 1, a, b, c => by
    unfold sumL
    have := sumL_len (s := s) (n := n) (a := a.tail) (b := b.tail) (c := if 1000000 ≤ c + fstD a + s * fstD b then 1 else if c + fstD a + s * fstD b < 0 then -1 else 0)
    simp only [List.length_cons]; omega
theorem sumL_val {s : Int} (hs : s = 1 ∨ s = -1) : ∀ {n : Nat} {a b : List Int} {c : Int}, zdig a → zdig b → -1 ≤ c ∧ c ≤ 1 → a.length ≤ n → b.length ≤ n → 0 ≤ zval a + s * zval b + c → zval (sumL s n a b c) = zval a + s * zval b + c
  | 0, a, b, c, ha, hb, hc, hal, hbl, h0 => by
    obtain rfl : a = [] := List.length_eq_zero_iff.1 (by omega)
    obtain rfl : b = [] := List.length_eq_zero_iff.1 (by omega)
    simp only [zval] at h0 ⊢
    unfold sumL
    split <;> simp only [zval] <;> omega
  | n + 1, a, b, c, ha, hb, hc, hal, hbl, h0 => by
    have h1 := fstD_dig ha
    have h2 := fstD_dig hb
    have h3 : zval a = fstD a + 1000000 * zval a.tail := zval_tail a
    have h4 : zval b = fstD b + 1000000 * zval b.tail := zval_tail b
    have e : s * zval b = s * fstD b + 1000000 * (s * zval b.tail) := by rw [h4, Int.mul_add]; congr 1; rw [← Int.mul_assoc, ← Int.mul_assoc, Int.mul_comm s]
    unfold sumL
    simp only [zval]
    have ih := sumL_val hs (n := n) (a := a.tail) (b := b.tail) (c := if 1000000 ≤ c + fstD a + s * fstD b then 1 else if c + fstD a + s * fstD b < 0 then -1 else 0) (zdig_tail ha) (zdig_tail hb)
      (by split <;> (try split) <;> omega) (by rw [List.length_tail]; omega) (by rw [List.length_tail]; omega)
      (by
        have : s * fstD b ≤ 999999 ∧ -999999 ≤ s * fstD b := by rcases hs with rfl | rfl <;> omega
        split <;> (try split) <;> omega)
    rw [ih, h3, e]
    split <;> (try split) <;> omega
end Go.Proofs.YtljcbmnkjiogmaaDoor.Sv
