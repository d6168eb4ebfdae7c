/- Bounds that are fused: words. No condition. -/
import Derived.Test.YtciigfeecmnghaaRRRRGreatRRBe
import Derived.Test.YtciigfeecmnghaaRRRRGreatRRZh
namespace Go.Proofs.YtciigfeecmnghaaRRRRGreatRR.Sv
open Go Go.RowKit
set_option linter.unusedVariables false
set_option linter.unusedSimpArgs false

theorem at_ex' {α : Type} {l : List α} {k : Nat} (h : k < l.length) : ∃ x, l[k]? = some x ∧ l.drop k = x :: l.drop (k + 1) ∧ x ∈ l ∧ l.take (k + 1) = l.take k ++ [x] :=
  ⟨l[k], by simp [h], List.drop_eq_getElem_cons h, List.getElem_mem h, by rw [List.take_add_one, List.getElem?_eq_getElem h]; rfl⟩
abbrev BdT := Int × Int × Bool × Unit
@[reducible] def bdT (x : BdT) : List V := [.n .i64 x.1, .n .i64 x.2.1, .b x.2.2.1]
theorem bdz : ∀ x, (bdT x).length = 3 := fun _ => rfl
def nrm (x : BdT) : Bd := normB x.1 x.2.1 x.2.2.1
def voteB (x : Bd) (v : Int) : Bool := match x with
  | none => false
  | some p => decide (p.1 ≤ v ∧ v ≤ p.2)
def votesF : List Bd → Int → Int
  | [], _ => 0
  | x :: l, v => (if voteB x v then 1 else 0) + votesF l v
theorem votes_in (v : Int) : ∀ l : List Bd, 0 ≤ votesF l v ∧ votesF l v ≤ l.length
  | [] => by simp [votesF]
  | x :: l => by
    have := votes_in v l
    simp only [votesF, List.length_cons]
    split <;> omega
def endsB : Bd → List Int
  | none => []
  | some p => [p.1, p.2]
def endsF (l : List Bd) : List Int := l.flatMap endsB
def cntB : List Bd → Nat
  | [] => 0
  | none :: l => cntB l
  | some _ :: l => cntB l + 1
theorem ends_len : ∀ l : List Bd, (endsF l).length = 2 * cntB l ∧ cntB l ≤ l.length
  | [] => by simp [endsF, cntB]
  | none :: l => by
    have := ends_len l
    simp only [endsF, List.flatMap_cons, endsB, List.nil_append, cntB, List.length_cons] at *
    omega
  | some p :: l => by
    have := ends_len l
    simp only [endsF, List.flatMap_cons, endsB, List.length_append, List.length_cons, List.length_nil, cntB] at *
    omega
/-- The bound around values. -/
def stepW : Bd → Int → Bd
  | none, x => some (x, x)
  | some p, x => some (min p.1 x, max p.2 x)
def wrapB (l : List Int) : Bd := l.foldl stepW none
def keptF (l : List Bd) (need : Int) : List Int := (endsF l).filter fun v => decide (need ≤ votesF l v)
def fuseF (l : List Bd) (f : Int) : Bd := if f < 0 ∨ (cntB l : Int) ≤ f then none else wrapB (keptF l (cntB l - f))
theorem wrap_some : ∀ (l : List Int) (p : Int × Int), l.foldl stepW (some p) = some (l.foldl min p.1, l.foldl max p.2)
  | [], p => rfl
  | x :: l, p => by simp only [List.foldl_cons, stepW, wrap_some l]
theorem wrap_cons (x : Int) (l : List Int) : wrapB (x :: l) = some (l.foldl min x, l.foldl max x) := by simp only [wrapB, List.foldl_cons, stepW, wrap_some]
theorem ends_in {l : List Bd} (h : ∀ x ∈ l, bdOk x) : ∀ v ∈ endsF l, -1152921504606846976 ≤ v ∧ v ≤ 1152921504606846976 := by
  intro v hv
  obtain ⟨x, hx, hv⟩ := List.mem_flatMap.1 hv
  have := h x hx
  rcases x with _ | ⟨a, b⟩
  · cases hv
  · simp only [bdOk, bval] at this
    simp only [endsB, List.mem_cons, List.not_mem_nil, or_false] at hv
    omega
theorem foldl_in {op : Int → Int → Int} (hop : ∀ a b, op a b = a ∨ op a b = b) {P : Int → Prop} : ∀ (l : List Int) (x : Int), P x → (∀ y ∈ l, P y) → P (l.foldl op x)
  | [], x, h, _ => h
  | y :: l, x, h, hl => by
    refine foldl_in hop l (op x y) ?_ fun z hz => hl z (by simp [hz])
    rcases hop x y with e | e <;> rw [e]
    · exact h
    · exact hl y (by simp)
theorem foldl_le : ∀ (l : List Int) (x : Int), l.foldl min x ≤ x ∧ x ≤ l.foldl max x
  | [], x => ⟨Int.le_refl _, Int.le_refl _⟩
  | y :: l, x => by
    have h := foldl_le l (min x y)
    have h' := foldl_le l (max x y)
    simp only [List.foldl_cons]
    omega
theorem min_or (a b : Int) : min a b = a ∨ min a b = b := by omega
theorem max_or (a b : Int) : max a b = a ∨ max a b = b := by omega
theorem wrap_val {x : Int} {l : List Int} (hx : -1152921504606846976 ≤ x ∧ x ≤ 1152921504606846976) (hl : ∀ y ∈ l, -1152921504606846976 ≤ y ∧ y ≤ 1152921504606846976) : bval (l.foldl min x) (l.foldl max x) := by
  have h1 := foldl_in (op := min) min_or (P := fun y => -1152921504606846976 ≤ y ∧ y ≤ 1152921504606846976) l x hx hl
  have h2 := foldl_in (op := max) max_or (P := fun y => -1152921504606846976 ≤ y ∧ y ≤ 1152921504606846976) l x hx hl
  have h3 := foldl_le l x
  unfold bval
  omega
/-- The number of the first that is p. -/
def idxF (p : Int → Bool) : List Int → Int → Int
  | [], _ => -1
  | x :: l, i => if p x then i else idxF p l (i + 1)
/-- A quotient rounded down and up, where both fit. -/
def cellD (c v : Int) : Option (List Int) := if fits (v / c) ∧ fits (cdiv v c) then some [v / c, cdiv v c] else none
def cellsC (f : Int → Option (List Int)) : List Int → Option (List Int)
  | [] => some []
  | y :: l => match f y with
    | none => none
    | some a => (cellsC f l).map (a ++ ·)
theorem cellsC_none {F : Int → Option (List Int)} : ∀ {l : List Int} {x : Int}, x ∈ l → F x = none → cellsC F l = none
  | y :: l, x, hx, h => by
    unfold cellsC
    rcases List.mem_cons.1 hx with rfl | hx
    · rw [h]
    · cases F y with
      | none => rfl
      | some a => simp only; rw [cellsC_none hx h]; rfl
def cornF (v c : Int → Int → Int) (a1 a2 b1 b2 : Int) : Bd := match cellsC (fun x => cellsC (fun y => cellD (c x y) (v x y)) [b1, b2]) [a1, a2] with
  | some (x :: q) => mkB (q.foldl min x) (q.foldl max x)
  | _ => none
theorem cdiv_ge {v c : Int} (hc : 1 ≤ c) : v / c ≤ cdiv v c := by
  have h1 := Int.ediv_mul_le v (show c ≠ 0 by omega)
  have h2 := Int.ediv_mul_le (-v) (show c ≠ 0 by omega)
  have h3 : (v / c + -v / c) * c ≤ 0 * c := by rw [Int.add_mul]; omega
  have := Int.le_of_mul_le_mul_right h3 (by omega)
  unfold cdiv
  omega
theorem cell_cases {c v : Int} (hc : 1 ≤ c) : cellD c v = some [v / c, cdiv v c] ∨ (cellD c v = none ∧ (v / c < -1152921504606846976 ∨ 1152921504606846976 < cdiv v c)) := by
  have := cdiv_ge (v := v) hc
  by_cases h : fits (v / c) ∧ fits (cdiv v c)
  · exact .inl (if_pos h)
  · refine .inr ⟨if_neg h, ?_⟩
    unfold fits at h
    omega
/-- The bound around quotients. -/
def ratB (l : List (Int × Int)) : Bd := mkB (optP (l.foldl stepR none)).1 (optP (l.foldl stepR none)).2
theorem corn_rat (v c : Int → Int → Int) (a1 a2 b1 b2 : Int) (h11 : 1 ≤ c a1 b1) (h12 : 1 ≤ c a1 b2) (h21 : 1 ≤ c a2 b1) (h22 : 1 ≤ c a2 b2) :
    cornF v c a1 a2 b1 b2 = ratB [(v a1 b1 / c a1 b1, cdiv (v a1 b1) (c a1 b1)), (v a1 b2 / c a1 b2, cdiv (v a1 b2) (c a1 b2)), (v a2 b1 / c a2 b1, cdiv (v a2 b1) (c a2 b1)), (v a2 b2 / c a2 b2, cdiv (v a2 b2) (c a2 b2))] := by
  have g11 := cdiv_ge (v := v a1 b1) h11
  have g12 := cdiv_ge (v := v a1 b2) h12
  have g21 := cdiv_ge (v := v a2 b1) h21
  have g22 := cdiv_ge (v := v a2 b2) h22
  have c11 := cell_cases (v := v a1 b1) h11
  have c12 := cell_cases (v := v a1 b2) h12
  have c21 := cell_cases (v := v a2 b1) h21
  have c22 := cell_cases (v := v a2 b2) h22
  have hr : ∀ d1 u1 d2 u2 d3 u3 d4 u4 : Int, ratB [(d1, u1), (d2, u2), (d3, u3), (d4, u4)] = mkB (min (min (min d1 d2) d3) d4) (max (max (max u1 u2) u3) u4) := fun _ _ _ _ _ _ _ _ => rfl
  rw [hr]
  generalize v a1 b1 / c a1 b1 = d1 at *
  generalize v a1 b2 / c a1 b2 = d2 at *
  generalize v a2 b1 / c a2 b1 = d3 at *
  generalize v a2 b2 / c a2 b2 = d4 at *
  generalize cdiv (v a1 b1) (c a1 b1) = u1 at *
  generalize cdiv (v a1 b2) (c a1 b2) = u2 at *
  generalize cdiv (v a2 b1) (c a2 b1) = u3 at *
  generalize cdiv (v a2 b2) (c a2 b2) = u4 at *
  have no : (d1 < -1152921504606846976 ∨ 1152921504606846976 < u1) ∨ (d2 < -1152921504606846976 ∨ 1152921504606846976 < u2) ∨ (d3 < -1152921504606846976 ∨ 1152921504606846976 < u3) ∨ (d4 < -1152921504606846976 ∨ 1152921504606846976 < u4) → mkB (min (min (min d1 d2) d3) d4) (max (max (max u1 u2) u3) u4) = none := fun h => mkB_none (by unfold bval; omega)
  unfold cornF
  rcases c11 with c11 | ⟨c11, e⟩
  case inr => rw [cellsC_none (x := a1) (by simp) (cellsC_none (x := b1) (by simp) c11), no (.inl e)]
  rcases c12 with c12 | ⟨c12, e⟩
  case inr => rw [cellsC_none (x := a1) (by simp) (cellsC_none (x := b2) (by simp) c12), no (.inr (.inl e))]
  rcases c21 with c21 | ⟨c21, e⟩
  case inr => rw [cellsC_none (x := a2) (by simp) (cellsC_none (x := b1) (by simp) c21), no (.inr (.inr (.inl e)))]
  rcases c22 with c22 | ⟨c22, e⟩
  case inr => rw [cellsC_none (x := a2) (by simp) (cellsC_none (x := b2) (by simp) c22), no (.inr (.inr (.inr e)))]
  simp only [cellsC, c11, c12, c21, c22, Option.map_some, List.append_nil, List.cons_append, List.nil_append, List.foldl_cons, List.foldl_nil]
  congr 1
  · omega
  · omega
def mulB (unit : Int) : Bd → Bd → Bd
  | some p, some q => if unit < 1 then none else cornF (fun a b => a * b) (fun _ _ => unit) p.1 p.2 q.1 q.2
  | _, _ => none
def divB (unit : Int) : Bd → Bd → Bd
  | some p, some q => if unit < 1 ∨ (q.1 ≤ 0 ∧ 0 ≤ q.2) then none else if q.2 < 0 then cornF (fun a _ => a * unit) (fun _ b => b) (-p.2) (-p.1) (-q.2) (-q.1) else cornF (fun a _ => a * unit) (fun _ b => b) p.1 p.2 q.1 q.2
  | _, _ => none
theorem quoT_two (d q : Int) : ∃ a b, quoT d q = [.n .i64 a, .n .i64 b] := by
  unfold quoT
  split
  · exact ⟨_, _, rfl⟩
  · split <;> exact ⟨_, _, rfl⟩
theorem upT_two (d q : Int) : ∃ a b, upT d q = [.n .i64 a, .n .i64 b] := by
  unfold upT
  split
  · exact ⟨_, _, rfl⟩
  · split <;> exact ⟨_, _, rfl⟩
end Go.Proofs.YtciigfeecmnghaaRRRRGreatRR.Sv
