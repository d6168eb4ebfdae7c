/- What is known of a number within bounds: values and words. No condition. -/
import Derived.Test.YtljcbmnkjiogmaaDoorNd
namespace Go.Proofs.YtljcbmnkjiogmaaDoor.Sv
open Go Go.RowKit
set_option linter.unusedVariables false
set_option linter.unusedSimpArgs false

/-- The ends of a bound are in their range and in order. -/
def bval (lo hi : Int) : Prop := -1152921504606846976 ≤ lo ∧ lo ≤ hi ∧ hi ≤ 1152921504606846976
instance (lo hi : Int) : Decidable (bval lo hi) := by unfold bval; infer_instance
abbrev bdC (lo hi : Int) (u : Bool) : List V := [.n .i64 lo, .n .i64 hi, .b u]
abbrev bdV (lo hi : Int) (u : Bool) : V := .agg (bdC lo hi u)
/-- The error of a bound. -/
def bErr (lo hi : Int) (u : Bool) : Int :=
  if u then (if lo = 0 ∧ hi = 0 then 0 else 3) else if lo < -1152921504606846976 ∨ lo > 1152921504606846976 ∨ hi < -1152921504606846976 ∨ hi > 1152921504606846976 then 4 else if hi < lo then 11 else 0
/-- What is known: nothing, or the ends. -/
abbrev Bd := Option (Int × Int)
def bLo : Bd → Int
  | none => 0
  | some p => p.1
def bHi : Bd → Int
  | none => 0
  | some p => p.2
def bUn : Bd → Bool
  | none => true
  | some _ => false
abbrev encC (x : Bd) : List V := [.n .i64 (bLo x), .n .i64 (bHi x), .b (bUn x)]
abbrev encB (x : Bd) : V := .agg (encC x)
def mkB (lo hi : Int) : Bd := if bval lo hi then some (lo, hi) else none
def normB (lo hi : Int) (u : Bool) : Bd := if u then none else mkB lo hi
theorem bErr_zero {lo hi : Int} {u : Bool} : bErr lo hi u = 0 ↔ (u = true ∧ lo = 0 ∧ hi = 0) ∨ (u = false ∧ bval lo hi) := by
  unfold bErr bval
  cases u <;> simp <;> omega
theorem bd_cases (lo hi : Int) (u : Bool) : (normB lo hi u = none ∧ ((bErr lo hi u = 0 ∧ u = true ∧ lo = 0 ∧ hi = 0) ∨ bErr lo hi u ≠ 0)) ∨ (normB lo hi u = some (lo, hi) ∧ u = false ∧ bval lo hi ∧ bErr lo hi u = 0) := by
  have h := bErr_zero (lo := lo) (hi := hi) (u := u)
  unfold normB mkB
  cases u
  · by_cases hv : bval lo hi
    · refine .inr ⟨by simp [hv], rfl, hv, h.2 (.inr ⟨rfl, hv⟩)⟩
    · refine .inl ⟨by simp [hv], .inr fun e => ?_⟩
      rcases h.1 e with ⟨h1, _⟩ | ⟨_, h1⟩
      · cases h1
      · exact hv h1
  · by_cases hz : lo = 0 ∧ hi = 0
    · exact .inl ⟨by simp, .inl ⟨h.2 (.inl ⟨rfl, hz⟩), rfl, hz⟩⟩
    · refine .inl ⟨by simp, .inr fun e => ?_⟩
      rcases h.1 e with ⟨_, h1⟩ | ⟨h1, _⟩
      · exact hz h1
      · cases h1
theorem mkB_some {lo hi : Int} (h : bval lo hi) : mkB lo hi = some (lo, hi) := if_pos h
theorem mkB_none {lo hi : Int} (h : ¬ bval lo hi) : mkB lo hi = none := if_neg h
theorem bval.f1 {lo hi : Int} (h : bval lo hi) : fits lo ∧ fits hi := by unfold bval at h; unfold fits; omega
end Go.Proofs.YtljcbmnkjiogmaaDoor.Sv
