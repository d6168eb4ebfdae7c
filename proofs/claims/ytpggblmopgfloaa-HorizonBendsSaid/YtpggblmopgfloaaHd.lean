/- Tables of refraction: what stands around a bound. No condition. -/
import Derived.Test.YtpggblmopgfloaaHc
namespace Go.Proofs.Ytpggblmopgfloaa.Sv
open Go Go.RowKit
set_option linter.unusedVariables false
set_option linter.unusedSimpArgs false

theorem bnd_ok : ∀ {l : List BendT} {p : Option Int}, bnd p l = 0 → (∀ x ∈ l, bendE x = 0 ∧ p.getD (-4611686018427387904) < x.1) ∧ l.Pairwise (fun x y => x.1 < y.1)
  | [], p, _ => ⟨fun x h => (by cases h), .nil⟩
  | y :: l, p, h => by
    rw [bnd] at h
    have h1 : ¬ (y.1 < -1073741824 ∨ y.1 > 1073741824) := fun k => by rw [if_pos k] at h; omega
    rw [if_neg h1] at h
    have h2 : bendE y = 0 := Classical.byContradiction fun k => by rw [if_pos k] at h; exact k h
    rw [if_neg (by simpa using h2)] at h
    have h3 : ¬ y.1 ≤ p.getD (-4611686018427387904) := fun k => by rw [if_pos k] at h; omega
    rw [if_neg h3] at h
    obtain ⟨h4, h5⟩ := bnd_ok h
    simp only [Option.getD_some] at h4
    refine ⟨fun x hx => ?_, .cons (fun x hx => (h4 x hx).2) h5⟩
    rcases List.mem_cons.1 hx with rfl | hx
    · exact ⟨h2, by omega⟩
    · exact ⟨(h4 x hx).1, by have := (h4 x hx).2; omega⟩
theorem sorted_at {l : List BendT} (h : l.Pairwise (fun x y => x.1 < y.1)) {i j : Nat} {x y : BendT} (hij : i < j) (hx : l[i]? = some x) (hy : l[j]? = some y) : x.1 < y.1 := by
  obtain ⟨hi, rfl⟩ := List.getElem?_eq_some_iff.1 hx
  obtain ⟨hj, rfl⟩ := List.getElem?_eq_some_iff.1 hy
  exact List.pairwise_iff_getElem.1 h i j hi hj hij
def findI (lo : Int) : Int → List BendT → Int → Int
  | _, [], i => i
  | k, x :: l, i => findI lo (k + 1) l (if x.1 ≤ lo then k else i)
def findK (hi : Int) : Int → List BendT → Int → Int
  | _, [], c => c
  | k, x :: l, c => findK hi (k + 1) l (if x.1 ≥ hi ∧ c < 0 then k else c)
theorem findI_none {lo : Int} : ∀ {l : List BendT} {k c : Int}, (∀ x ∈ l, lo < x.1) → findI lo k l c = c
  | [], _, _, _ => rfl
  | y :: l, k, c, h => by
    rw [findI, if_neg (by have := h y (by simp); omega)]
    exact findI_none fun x hx => h x (by simp [hx])
theorem findI_at {lo : Int} : ∀ {l : List BendT} {k c : Int} {j : Nat} {x : BendT}, l[j]? = some x → x.1 ≤ lo → (∀ y ∈ l.drop (j + 1), lo < y.1) → findI lo k l c = k + j
  | [], _, _, _, _, h, _, _ => by simp at h
  | y :: l, k, c, 0, x, h, h1, h2 => by
    simp only [List.getElem?_cons_zero, Option.some.injEq] at h
    subst h
    rw [findI, if_pos h1, findI_none (by simpa using h2)]
    simp
  | y :: l, k, c, j + 1, x, h, h1, h2 => by
    rw [findI, findI_at (by simpa using h) h1 (by simpa using h2)]
    omega
theorem findK_got {hi : Int} : ∀ {l : List BendT} {k c : Int}, 0 ≤ c → findK hi k l c = c
  | [], _, _, _ => rfl
  | y :: l, k, c, h => by
    rw [findK, if_neg (by omega)]
    exact findK_got h
theorem findK_none {hi : Int} : ∀ {l : List BendT} {k c : Int}, (∀ x ∈ l, x.1 < hi) → findK hi k l c = c
  | [], _, _, _ => rfl
  | y :: l, k, c, h => by
    rw [findK, if_neg (by have := h y (by simp); omega)]
    exact findK_none fun x hx => h x (by simp [hx])
theorem findK_at {hi : Int} : ∀ {l : List BendT} {k c : Int} {j : Nat} {x : BendT}, 0 ≤ k → c < 0 → l[j]? = some x → hi ≤ x.1 → (∀ y ∈ l.take j, y.1 < hi) → findK hi k l c = k + j
  | [], _, _, _, _, _, _, h, _, _ => by simp at h
  | y :: l, k, c, 0, x, h0, hc, h, h1, h2 => by
    simp only [List.getElem?_cons_zero, Option.some.injEq] at h
    subst h
    rw [findK, if_pos ⟨h1, hc⟩, findK_got h0]
    simp
  | y :: l, k, c, j + 1, x, h0, hc, h, h1, h2 => by
    rw [findK, if_neg (by have := h2 y (by simp); omega), findK_at (by omega) hc (by simpa using h) h1 (fun z hz => h2 z (by simp [hz]))]
    omega
theorem findI_in {lo : Int} : ∀ {l : List BendT} {k c : Int}, findI lo k l c = c ∨ (k ≤ findI lo k l c ∧ findI lo k l c < k + l.length)
  | [], _, _ => .inl rfl
  | y :: l, k, c => by
    rw [findI]
    rcases findI_in (lo := lo) (l := l) (k := k + 1) (c := if y.1 ≤ lo then k else c) with h | h
    · rw [h]
      split
      · exact .inr ⟨by omega, by rw [List.length_cons]; omega⟩
      · left; rfl
    · exact .inr ⟨by omega, by rw [List.length_cons]; omega⟩
theorem findK_in {hi : Int} : ∀ {l : List BendT} {k c : Int}, findK hi k l c = c ∨ (k ≤ findK hi k l c ∧ findK hi k l c < k + l.length)
  | [], _, _ => .inl rfl
  | y :: l, k, c => by
    rw [findK]
    rcases findK_in (hi := hi) (l := l) (k := k + 1) (c := if y.1 ≥ hi ∧ c < 0 then k else c) with h | h
    · rw [h]
      split
      · exact .inr ⟨by omega, by rw [List.length_cons]; omega⟩
      · left; rfl
    · exact .inr ⟨by omega, by rw [List.length_cons]; omega⟩
def segF (H : Bd) (l : List BendT) : Bd := l.foldl (fun H x => hullB H (liftB x)) H
theorem seg_none : ∀ l : List BendT, segF none l = none
  | [] => rfl
  | x :: l => seg_none l
theorem seg_cons (H : Bd) (x : BendT) (l : List BendT) : segF H (x :: l) = segF (hullB H (liftB x)) l := rfl
def hullS (l : List BendT) (i k : Nat) : Bd := match l[i]? with
  | some x => segF (liftB x) ((l.take (k + 1)).drop i)
  | none => none
theorem hull_self (x : Bd) : hullB x x = x := by
  rcases x with _ | ⟨a, b⟩
  · rfl
  · simp only [hullB]
    rw [show min a a = a by omega, show max b b = b by omega]
def refB (l : List BendT) : Bd → Bd
  | none => none
  | some p => if bendsErr l ≠ 0 then none else if findI p.1 0 l (-1) < 0 ∨ findK p.2 0 l (-1) < 0 then none else addB (some p) (hullS l (findI p.1 0 l (-1)).toNat (findK p.2 0 l (-1)).toNat)
theorem bd_enc {lo hi : Int} {u : Bool} (h : bErr lo hi u = 0) : bdC lo hi u = encC (normB lo hi u) := by
  rcases bd_cases lo hi u with ⟨h1, ⟨h2, rfl, rfl, rfl⟩ | h2⟩ | ⟨h1, rfl, h3, h2⟩
  · rfl
  · exact absurd h h2
  · rw [h1]; rfl
theorem take_at {α : Type} {l : List α} {n k : Nat} (hk : k < l.length) (hn : n ≤ k) : ∃ x, l[n]? = some x ∧ (l.take (k + 1)).drop n = x :: (l.take (k + 1)).drop (n + 1) := by
  obtain ⟨x, h1, h2, _, _⟩ := at_ex' (l := l.take (k + 1)) (k := n) (by simp; omega)
  refine ⟨x, ?_, h2⟩
  rw [List.getElem?_take, if_pos (by omega)] at h1
  exact h1
theorem findI_val {lo : Int} : ∀ {l : List BendT} {k c : Int}, findI lo k l c = c ∨ ∃ (j : Nat) (x : BendT), findI lo k l c = k + j ∧ l[j]? = some x ∧ x.1 ≤ lo
  | [], _, _ => .inl rfl
  | y :: l, k, c => by
    rw [findI]
    rcases findI_val (lo := lo) (l := l) (k := k + 1) (c := if y.1 ≤ lo then k else c) with h | ⟨j, x, h1, h2, h3⟩
    · rw [h]
      split
      · exact .inr ⟨0, y, by omega, rfl, by assumption⟩
      · exact .inl rfl
    · exact .inr ⟨j + 1, x, by omega, by simpa using h2, h3⟩
theorem findK_val {hi : Int} : ∀ {l : List BendT} {k c : Int}, findK hi k l c = c ∨ ∃ (j : Nat) (x : BendT), findK hi k l c = k + j ∧ l[j]? = some x ∧ hi ≤ x.1
  | [], _, _ => .inl rfl
  | y :: l, k, c => by
    rw [findK]
    rcases findK_val (hi := hi) (l := l) (k := k + 1) (c := if y.1 ≥ hi ∧ c < 0 then k else c) with h | ⟨j, x, h1, h2, h3⟩
    · rw [h]
      split
      · next hh => exact .inr ⟨0, y, by omega, rfl, hh.1⟩
      · exact .inl rfl
    · exact .inr ⟨j + 1, x, by omega, by simpa using h2, h3⟩
end Go.Proofs.Ytpggblmopgfloaa.Sv
