/- Products, quotients and multiples of bounds of numbers of a type. No condition. -/
import Derived.Test.YtpggblmopgfloaaBmFix
namespace Go.Proofs.Ytpggblmopgfloaa.Sv
open Go Go.RowKit
set_option linter.unusedVariables false
set_option linter.unusedSimpArgs false
set_option maxRecDepth 100000

theorem mulC1Fix (x y u : Int) (hx : fits x) (hy : fits y) (hu : fits u) : Pure Try.prog 136 ([] ++ [.n .i64 x, .n .i64 y] ++ [.ip [.n .i64 u]]) (.tup (quoT u (x * y / u))) := by
  refine pure_of_wp of136 (Nat.le_of_ble_eq_true rfl) ?_
  have t := mulDiv_ok x y u hx hy hu
  obtain ⟨a, b, e⟩ := quoT_two u (x * y / u)
  rw [e] at t ⊢
  refine OptK.mk _ rfl ?_
  refine CallK.mk _ t rfl ?_
  ((repeat' first | refine DecK.tt ?_ | refine DecK.ff ?_ | refine DecK.beq (fun _ => ?_) (fun _ => ?_) | refine DecK.bne (fun _ => ?_) (fun _ => ?_) | refine DecK.dec (fun _ => ?_) (fun _ => ?_) | refine OptK.mk _ rfl ?_ | refine endV (by rfl) ?_) <;> (try with_reducible rfl))
theorem mulC2Fix (x y u : Int) (hx : fits x) (hy : fits y) (hu : fits u) : Pure Try.prog 137 ([] ++ [.n .i64 x, .n .i64 y] ++ [.ip [.n .i64 u]]) (.tup (upT u (x * y))) := by
  refine pure_of_wp of137 (Nat.le_of_ble_eq_true rfl) ?_
  have t := mulDivUp_ok x y u hx hy hu
  obtain ⟨a, b, e⟩ := upT_two u (x * y)
  rw [e] at t ⊢
  refine OptK.mk _ rfl ?_
  refine CallK.mk _ t rfl ?_
  ((repeat' first | refine DecK.tt ?_ | refine DecK.ff ?_ | refine DecK.beq (fun _ => ?_) (fun _ => ?_) | refine DecK.bne (fun _ => ?_) (fun _ => ?_) | refine DecK.dec (fun _ => ?_) (fun _ => ?_) | refine OptK.mk _ rfl ?_ | refine endV (by rfl) ?_) <;> (try with_reducible rfl))
theorem mulFix (lo hi : Int) (u : Bool) (lo' hi' : Int) (u' : Bool) (unit : Int) (hu : fits unit) : Pure Try.prog 89 [bdV lo hi u, bdV lo' hi' u', .n .i64 unit] (encB (mulB unit (normB lo hi u) (normB lo' hi' u'))) := by
  refine pure_of_wp of89 (Nat.le_of_ble_eq_true rfl) ?_
  refine CallK.mk _ (vagueFix lo hi u lo' hi' u') rfl ?_
  rcases bd_cases lo hi u with ⟨h1, h2⟩ | ⟨h1, rfl, h3, h2⟩
  · rw [h1]
    repeat' first | (refine DecK.tt ?_) | (refine DecK.yes rfl ?_) | (refine CallK.mk _ noneFix rfl ?_) | refine DecK.tt ?_ | refine DecK.ff ?_ | refine DecK.beq (fun _ => ?_) (fun _ => ?_) | refine DecK.bne (fun _ => ?_) (fun _ => ?_) | refine DecK.dec (fun _ => ?_) (fun _ => ?_) | refine OptK.mk _ rfl ?_ | refine endV (by rfl) ?_
    rfl
  rcases bd_cases lo' hi' u' with ⟨g1, g2⟩ | ⟨g1, rfl, g3, g2⟩
  · rw [h1, g1]
    repeat' first | (refine DecK.tt ?_) | (refine DecK.yes rfl ?_) | (refine CallK.mk _ noneFix rfl ?_) | refine DecK.tt ?_ | refine DecK.ff ?_ | refine DecK.beq (fun _ => ?_) (fun _ => ?_) | refine DecK.bne (fun _ => ?_) (fun _ => ?_) | refine DecK.dec (fun _ => ?_) (fun _ => ?_) | refine OptK.mk _ rfl ?_ | refine endV (by rfl) ?_
    rfl
  rw [h1, g1]
  refine DecK.ff ?_
  refine DecK.dec (fun h => ?_) (fun h => ?_)
  · refine CallK.mk _ noneFix rfl ?_
    ((repeat' first | refine DecK.tt ?_ | refine DecK.ff ?_ | refine DecK.beq (fun _ => ?_) (fun _ => ?_) | refine DecK.bne (fun _ => ?_) (fun _ => ?_) | refine DecK.dec (fun _ => ?_) (fun _ => ?_) | refine OptK.mk _ rfl ?_ | refine endV (by rfl) ?_) <;> (try with_reducible rfl))
    rw [mulB, if_pos h]; rfl
  have e : mulB unit (some (lo, hi)) (some (lo', hi')) = cornF (fun a b => a * b) (fun _ _ => unit) lo hi lo' hi' := if_neg h
  rw [e]
  have fx : ∀ x, x = lo ∨ x = hi → fits x := fun x hx => by rcases hx with rfl | rfl; exact h3.f1.1; exact h3.f1.2
  have fy : ∀ x, x = lo' ∨ x = hi' → fits x := fun x hx => by rcases hx with rfl | rfl; exact g3.f1.1; exact g3.f1.2
  refine CallK.mk _ (cornersFix (fun a b => a * b) (fun _ _ => unit) lo hi false lo' hi' false _ _ _ _ (fun x y hx hy => by omega) (fun x y hx hy => mulC1Fix x y unit (fx x hx) (fy y hy) hu) (fun x y hx hy => mulC2Fix x y unit (fx x hx) (fy y hy) hu)) rfl ?_
  ((repeat' first | refine DecK.tt ?_ | refine DecK.ff ?_ | refine DecK.beq (fun _ => ?_) (fun _ => ?_) | refine DecK.bne (fun _ => ?_) (fun _ => ?_) | refine DecK.dec (fun _ => ?_) (fun _ => ?_) | refine OptK.mk _ rfl ?_ | refine endV (by rfl) ?_) <;> (try with_reducible rfl))
  rfl
end Go.Proofs.Ytpggblmopgfloaa.Sv
