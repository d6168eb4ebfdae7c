/- What is known of a number within bounds: further words. No condition. -/
import Derived.Test.YtljcbmnkjiogmaaDoorBa
namespace Go.Proofs.YtljcbmnkjiogmaaDoor.Sv
open Go Go.RowKit
set_option linter.unusedVariables false
set_option linter.unusedSimpArgs false

theorem icmp_le {a b : Int} : icmp a b ≤ 0 ↔ a ≤ b := by unfold icmp; split <;> (try split) <;> omega
theorem icmp_ge {a b : Int} : icmp a b ≥ 0 ↔ b ≤ a := by unfold icmp; split <;> (try split) <;> omega
/-- The ends are in their range and in order, where they are known. -/
def bdOk : Bd → Prop
  | none => True
  | some p => bval p.1 p.2
theorem mk_ok (lo hi : Int) : bdOk (mkB lo hi) := by
  unfold mkB
  split
  · assumption
  · trivial
theorem norm_ok (lo hi : Int) (u : Bool) : bdOk (normB lo hi u) := by
  unfold normB
  split
  · trivial
  · exact mk_ok lo hi
theorem norm_enc {x : Bd} (h : bdOk x) : normB (bLo x) (bHi x) (bUn x) = x := by
  cases x with
  | none => rfl
  | some p => exact mkB_some h
/-- The sum of two bounds. -/
def addB : Bd → Bd → Bd
  | some p, some q => mkB (p.1 + q.1) (p.2 + q.2)
  | _, _ => none
def meetB : Bd → Bd → Bd × Bool
  | none, b => (b, true)
  | some p, none => (some p, true)
  | some p, some q => if max p.1 q.1 > min p.2 q.2 then (some (0, 0), false) else (some (max p.1 q.1, min p.2 q.2), true)
theorem meet_ok {x y : Bd} (hx : bdOk x) (hy : bdOk y) : bdOk (meetB x y).1 := by
  rcases x with _ | ⟨a, b⟩
  · exact hy
  rcases y with _ | ⟨c, d⟩
  · exact hx
  simp only [bdOk, bval] at hx hy
  show bdOk (if max a c > min b d then (some (0, 0), false) else (some (max a c, min b d), true) : Bd × Bool).1
  split
  · simp [bdOk, bval]
  · simp only [bdOk, bval]
    omega
def negB : Bd → Bd
  | none => none
  | some p => some (-p.2, -p.1)
theorem neg_ok {x : Bd} (h : bdOk x) : bdOk (negB x) := by
  cases x with
  | none => trivial
  | some p => simp only [negB, bdOk, bval] at *; omega
def hullB : Bd → Bd → Bd
  | some p, some q => some (min p.1 q.1, max p.2 q.2)
  | _, _ => none
theorem hull_ok {x y : Bd} (hx : bdOk x) (hy : bdOk y) : bdOk (hullB x y) := by
  rcases x with _ | ⟨a, b⟩ <;> rcases y with _ | ⟨c, d⟩ <;> try trivial
  simp only [hullB, bdOk, bval] at *
  omega
def minB : Bd → Bd → Bd
  | some p, some q => some (min p.1 q.1, min p.2 q.2)
  | _, _ => none
theorem min_ok {x y : Bd} (hx : bdOk x) (hy : bdOk y) : bdOk (minB x y) := by
  rcases x with _ | ⟨a, b⟩ <;> rcases y with _ | ⟨c, d⟩ <;> try trivial
  simp only [minB, bdOk, bval] at *
  omega
def maxB : Bd → Bd → Bd
  | some p, some q => some (max p.1 q.1, max p.2 q.2)
  | _, _ => none
theorem neg_min (x y : Bd) : negB (minB (negB x) (negB y)) = maxB x y := by
  rcases x with _ | ⟨a, b⟩ <;> rcases y with _ | ⟨c, d⟩ <;> try rfl
  simp only [negB, minB, maxB, Option.some.injEq, Prod.mk.injEq]
  omega
end Go.Proofs.YtljcbmnkjiogmaaDoor.Sv
