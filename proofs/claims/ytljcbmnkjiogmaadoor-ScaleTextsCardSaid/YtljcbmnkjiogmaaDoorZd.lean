/- The reference's whole numbers: sums and differences, products. No condition. -/
import Derived.Test.YtljcbmnkjiogmaaDoorZc
namespace Go.Proofs.YtljcbmnkjiogmaaDoor.Sv
open Go Go.RowKit
set_option linter.unusedVariables false
set_option linter.unusedSimpArgs false
set_option maxRecDepth 100000
theorem sum_pos (a b : Nat) : zval (sumL 1 (max (digs a).length (digs b).length) (digs a) (digs b) 0) = a + b := by
  rw [sumL_val (.inl rfl) (digs_dig _) (digs_dig _) (by omega) (by omega) (by omega) (by rw [digs_val, digs_val]; omega), digs_val, digs_val]; omega
theorem sum_neg {a b : Nat} (h : b ≤ a) : zval (sumL (-1) (max (digs a).length (digs b).length) (digs a) (digs b) 0) = a - b := by
  rw [sumL_val (.inr rfl) (digs_dig _) (digs_dig _) (by omega) (by omega) (by omega) (by rw [digs_val, digs_val]; omega), digs_val, digs_val]; omega
theorem sum_trim (s : Int) (hs : s = 1 ∨ s = -1) {a b : Nat} (ha : (digs a).length ≤ 1000000) (hb : (digs b).length ≤ 1000000) (neg : Bool) :
    Pure Tryd.prog 56 [.b neg, intsV (sumL s (max (digs a).length (digs b).length) (digs a) (digs b) 0)] (zV (if neg then -zval (sumL s (max (digs a).length (digs b).length) (digs a) (digs b) 0) else zval (sumL s (max (digs a).length (digs b).length) (digs a) (digs b) 0))) :=
  trim_ok _ (sumL_dig hs (digs_dig _) (digs_dig _) (by omega)) (by have := sumL_len (s := s) (n := max (digs a).length (digs b).length) (a := digs a) (b := digs b) (c := 0); omega)
/-- Zeros from a place on. -/
def zerosFrom (d : List Int) (k : Nat) : Prop := ∀ m, k ≤ m → m < d.length → d[m]? = some 0
theorem zerosFrom_set {d : List Int} {k m : Nat} {x : Int} (h : zerosFrom d k) (hm : m < k) : zerosFrom (d.set m x) k := fun j h1 h2 => by
  rw [List.getElem?_set_ne (by omega)]; exact h j h1 (by simpa using h2)
end Go.Proofs.YtljcbmnkjiogmaaDoor.Sv
