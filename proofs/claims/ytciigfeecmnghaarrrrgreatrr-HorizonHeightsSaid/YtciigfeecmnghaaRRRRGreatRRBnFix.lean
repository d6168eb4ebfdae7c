/- Products, quotients and multiples of bounds of numbers of a type. No condition. -/
import Derived.Test.YtciigfeecmnghaaRRRRGreatRRBmFix
namespace Go.Proofs.YtciigfeecmnghaaRRRRGreatRR.Sv
open Go Go.RowKit
set_option linter.unusedVariables false
set_option linter.unusedSimpArgs false
set_option maxRecDepth 100000

theorem mulC1Fix (x y u : Int) (hx : fits x) (hy : fits y) (hu : fits u) : Pure Tryz.prog 107 ([] ++ [.n .i64 x, .n .i64 y] ++ [.ip [.n .i64 u]]) (.tup (quoT u (x * y / u))) := by
  refine pure_of_wp of107 (Nat.le_of_ble_eq_true rfl) ?_
  have t := mulDiv_ok x y u hx hy hu
  obtain ⟨a, b, e⟩ := quoT_two u (x * y / u)
  rw [e] at t ⊢
  refine OptK.mk _ rfl ?_
  refine CallK.mk _ t rfl ?_
  ((repeat' first | refine DecK.tt ?_ | refine DecK.ff ?_ | refine DecK.beq (fun _ => ?_) (fun _ => ?_) | refine DecK.bne (fun _ => ?_) (fun _ => ?_) | refine DecK.dec (fun _ => ?_) (fun _ => ?_) | refine OptK.mk _ rfl ?_ | refine endV (by rfl) ?_) <;> (try with_reducible rfl))
theorem mulC2Fix (x y u : Int) (hx : fits x) (hy : fits y) (hu : fits u) : Pure Tryz.prog 109 ([] ++ [.n .i64 x, .n .i64 y] ++ [.ip [.n .i64 u]]) (.tup (upT u (x * y))) := by
  refine pure_of_wp of109 (Nat.le_of_ble_eq_true rfl) ?_
  have t := mulDivUp_ok x y u hx hy hu
  obtain ⟨a, b, e⟩ := upT_two u (x * y)
  rw [e] at t ⊢
  refine OptK.mk _ rfl ?_
  refine CallK.mk _ t rfl ?_
  ((repeat' first | refine DecK.tt ?_ | refine DecK.ff ?_ | refine DecK.beq (fun _ => ?_) (fun _ => ?_) | refine DecK.bne (fun _ => ?_) (fun _ => ?_) | refine DecK.dec (fun _ => ?_) (fun _ => ?_) | refine OptK.mk _ rfl ?_ | refine endV (by rfl) ?_) <;> (try with_reducible rfl))
theorem divC1Fix (x y u : Int) (hx : fits x) (hy : fits y) (hu : fits u) : Pure Tryz.prog 115 ([] ++ [.n .i64 x, .n .i64 y] ++ [.ip [.n .i64 u]]) (.tup (quoT y (x * u / y))) := by
  refine pure_of_wp of115 (Nat.le_of_ble_eq_true rfl) ?_
  have t := mulDiv_ok x u y hx hu hy
  obtain ⟨a, b, e⟩ := quoT_two y (x * u / y)
  rw [e] at t ⊢
  refine OptK.mk _ rfl ?_
  refine CallK.mk _ t rfl ?_
  ((repeat' first | refine DecK.tt ?_ | refine DecK.ff ?_ | refine DecK.beq (fun _ => ?_) (fun _ => ?_) | refine DecK.bne (fun _ => ?_) (fun _ => ?_) | refine DecK.dec (fun _ => ?_) (fun _ => ?_) | refine OptK.mk _ rfl ?_ | refine endV (by rfl) ?_) <;> (try with_reducible rfl))
theorem divC2Fix (x y u : Int) (hx : fits x) (hy : fits y) (hu : fits u) : Pure Tryz.prog 116 ([] ++ [.n .i64 x, .n .i64 y] ++ [.ip [.n .i64 u]]) (.tup (upT y (x * u))) := by
  refine pure_of_wp of116 (Nat.le_of_ble_eq_true rfl) ?_
  have t := mulDivUp_ok x u y hx hu hy
  obtain ⟨a, b, e⟩ := upT_two y (x * u)
  rw [e] at t ⊢
  refine OptK.mk _ rfl ?_
  refine CallK.mk _ t rfl ?_
  ((repeat' first | refine DecK.tt ?_ | refine DecK.ff ?_ | refine DecK.beq (fun _ => ?_) (fun _ => ?_) | refine DecK.bne (fun _ => ?_) (fun _ => ?_) | refine DecK.dec (fun _ => ?_) (fun _ => ?_) | refine OptK.mk _ rfl ?_ | refine endV (by rfl) ?_) <;> (try with_reducible rfl))
theorem mulFix (lo hi : Int) (u : Bool) (lo' hi' : Int) (u' : Bool) (unit : Int) (hu : fits unit) : Pure Tryz.prog 41 [bdV lo hi u, bdV lo' hi' u', .n .i64 unit] (encB (mulB unit (normB lo hi u) (normB lo' hi' u'))) := by
  refine pure_of_wp of41 (Nat.le_of_ble_eq_true rfl) ?_
  refine CallK.mk _ (vagueFix lo hi u lo' hi' u') rfl ?_
  rcases bd_cases lo hi u with ⟨h1, h2⟩ | ⟨h1, rfl, h3, h2⟩
  · rw [h1]
    repeat' first | (refine DecK.tt ?_) | (refine DecK.yes rfl ?_) | (refine CallK.mk _ noneFix rfl ?_) | refine DecK.tt ?_ | refine DecK.ff ?_ | refine DecK.beq (fun _ => ?_) (fun _ => ?_) | refine DecK.bne (fun _ => ?_) (fun _ => ?_) | refine DecK.dec (fun _ => ?_) (fun _ => ?_) | refine OptK.mk _ rfl ?_ | refine endV (by rfl) ?_
    rfl
  rcases bd_cases lo' hi' u' with ⟨g1, g2⟩ | ⟨g1, rfl, g3, g2⟩
  · rw [h1, g1]
    repeat' first | (refine DecK.tt ?_) | (refine DecK.yes rfl ?_) | (refine CallK.mk _ noneFix rfl ?_) | refine DecK.tt ?_ | refine DecK.ff ?_ | refine DecK.beq (fun _ => ?_) (fun _ => ?_) | refine DecK.bne (fun _ => ?_) (fun _ => ?_) | refine DecK.dec (fun _ => ?_) (fun _ => ?_) | refine OptK.mk _ rfl ?_ | refine endV (by rfl) ?_
    rfl
  rw [h1, g1]
  refine DecK.ff ?_
  refine DecK.dec (fun h => ?_) (fun h => ?_)
  · refine CallK.mk _ noneFix rfl ?_
    ((repeat' first | refine DecK.tt ?_ | refine DecK.ff ?_ | refine DecK.beq (fun _ => ?_) (fun _ => ?_) | refine DecK.bne (fun _ => ?_) (fun _ => ?_) | refine DecK.dec (fun _ => ?_) (fun _ => ?_) | refine OptK.mk _ rfl ?_ | refine endV (by rfl) ?_) <;> (try with_reducible rfl))
    rw [mulB, if_pos h]; rfl
  have e : mulB unit (some (lo, hi)) (some (lo', hi')) = cornF (fun a b => a * b) (fun _ _ => unit) lo hi lo' hi' := if_neg h
  rw [e]
  have fx : ∀ x, x = lo ∨ x = hi → fits x := fun x hx => by rcases hx with rfl | rfl; exact h3.f1.1; exact h3.f1.2
  have fy : ∀ x, x = lo' ∨ x = hi' → fits x := fun x hx => by rcases hx with rfl | rfl; exact g3.f1.1; exact g3.f1.2
  refine CallK.mk _ (cornersFix (fun a b => a * b) (fun _ _ => unit) lo hi false lo' hi' false _ _ _ _ (fun x y hx hy => by omega) (fun x y hx hy => mulC1Fix x y unit (fx x hx) (fy y hy) hu) (fun x y hx hy => mulC2Fix x y unit (fx x hx) (fy y hy) hu)) rfl ?_
  ((repeat' first | refine DecK.tt ?_ | refine DecK.ff ?_ | refine DecK.beq (fun _ => ?_) (fun _ => ?_) | refine DecK.bne (fun _ => ?_) (fun _ => ?_) | refine DecK.dec (fun _ => ?_) (fun _ => ?_) | refine OptK.mk _ rfl ?_ | refine endV (by rfl) ?_) <;> (try with_reducible rfl))
  rfl
theorem divFix (lo hi : Int) (u : Bool) (lo' hi' : Int) (u' : Bool) (unit : Int) (hu : fits unit) : Pure Tryz.prog 44 [bdV lo hi u, bdV lo' hi' u', .n .i64 unit] (encB (divB unit (normB lo hi u) (normB lo' hi' u'))) := by
  refine pure_of_wp of44 (Nat.le_of_ble_eq_true rfl) ?_
  refine CallK.mk _ (vagueFix lo hi u lo' hi' u') rfl ?_
  rcases bd_cases lo hi u with ⟨h1, h2⟩ | ⟨h1, rfl, h3, h2⟩
  · rw [h1]
    repeat' first | (refine DecK.tt ?_) | (refine DecK.yes rfl ?_) | (refine CallK.mk _ noneFix rfl ?_) | refine DecK.tt ?_ | refine DecK.ff ?_ | refine DecK.beq (fun _ => ?_) (fun _ => ?_) | refine DecK.bne (fun _ => ?_) (fun _ => ?_) | refine DecK.dec (fun _ => ?_) (fun _ => ?_) | refine OptK.mk _ rfl ?_ | refine endV (by rfl) ?_
    rfl
  rcases bd_cases lo' hi' u' with ⟨g1, g2⟩ | ⟨g1, rfl, g3, g2⟩
  · rw [h1, g1]
    repeat' first | (refine DecK.tt ?_) | (refine DecK.yes rfl ?_) | (refine CallK.mk _ noneFix rfl ?_) | refine DecK.tt ?_ | refine DecK.ff ?_ | refine DecK.beq (fun _ => ?_) (fun _ => ?_) | refine DecK.bne (fun _ => ?_) (fun _ => ?_) | refine DecK.dec (fun _ => ?_) (fun _ => ?_) | refine OptK.mk _ rfl ?_ | refine endV (by rfl) ?_
    rfl
  have hna := negFix lo hi false
  have hnb := negFix lo' hi' false
  rw [h1] at hna
  rw [g1] at hnb
  rw [h1, g1]
  have h3' := h3
  have g3' := g3
  unfold bval at h3' g3'
  refine DecK.ff ?_
  have stop : unit < 1 ∨ (lo' ≤ 0 ∧ 0 ≤ hi') → divB unit (some (lo, hi)) (some (lo', hi')) = none := fun h => if_pos h
  refine DecK.dec (fun h => ?_) (fun h => ?_)
  · rw [stop (.inl h)]
    repeat' first | (refine DecK.tt ?_) | (refine DecK.yes rfl ?_) | (refine CallK.mk _ noneFix rfl ?_) | refine DecK.tt ?_ | refine DecK.ff ?_ | refine DecK.beq (fun _ => ?_) (fun _ => ?_) | refine DecK.bne (fun _ => ?_) (fun _ => ?_) | refine DecK.dec (fun _ => ?_) (fun _ => ?_) | refine OptK.mk _ rfl ?_ | refine endV (by rfl) ?_
    rfl
  have go : ∀ R, R = divB unit (some (lo, hi)) (some (lo', hi')) → encB R = encB (divB unit (some (lo, hi)) (some (lo', hi'))) := fun R h => by rw [h]
  refine DecK.dec (fun hl => ?_) (fun hl => ?_)
  · refine DecK.dec (fun hh => ?_) (fun hh => ?_)
    · rw [stop (.inr ⟨hl, hh⟩)]
      refine CallK.mk _ noneFix rfl ?_
      ((repeat' first | refine DecK.tt ?_ | refine DecK.ff ?_ | refine DecK.beq (fun _ => ?_) (fun _ => ?_) | refine DecK.bne (fun _ => ?_) (fun _ => ?_) | refine DecK.dec (fun _ => ?_) (fun _ => ?_) | refine OptK.mk _ rfl ?_ | refine endV (by rfl) ?_) <;> (try with_reducible rfl))
      rfl
    · have e : divB unit (some (lo, hi)) (some (lo', hi')) = cornF (fun a _ => a * unit) (fun _ b => b) (-hi) (-lo) (-hi') (-lo') := by
        rw [divB, if_neg (by simp only; omega), if_pos (by simp only; omega)]
      rw [e]
      refine DecK.yes (decide_eq_true (by omega)) ?_
      refine CallK.mk _ hna rfl ?_
      refine CallK.mk _ hnb rfl ?_
      refine OptK.mk _ rfl ?_
      refine OptK.mk _ rfl ?_
      have fx : ∀ x, x = -hi ∨ x = -lo → fits x := fun x hx => by unfold fits; omega
      refine CallK.mk _ (cornersFix (fun a _ => a * unit) (fun _ b => b) (-hi) (-lo) false (-hi') (-lo') false _ _ _ _ (fun x y hx hy => by omega) (fun x y hx hy => divC1Fix x y unit (fx x hx) (by unfold fits; omega) hu) (fun x y hx hy => divC2Fix x y unit (fx x hx) (by unfold fits; omega) hu)) rfl ?_
      ((repeat' first | refine DecK.tt ?_ | refine DecK.ff ?_ | refine DecK.beq (fun _ => ?_) (fun _ => ?_) | refine DecK.bne (fun _ => ?_) (fun _ => ?_) | refine DecK.dec (fun _ => ?_) (fun _ => ?_) | refine OptK.mk _ rfl ?_ | refine endV (by rfl) ?_) <;> (try with_reducible rfl))
      rfl
  · have e : divB unit (some (lo, hi)) (some (lo', hi')) = cornF (fun a _ => a * unit) (fun _ b => b) lo hi lo' hi' := by
      rw [divB, if_neg (by simp only; omega), if_neg (by simp only; omega)]
    rw [e]
    refine DecK.ff ?_
    refine DecK.no (decide_eq_false (by omega)) ?_
    have fx : ∀ x, x = lo ∨ x = hi → fits x := fun x hx => by unfold fits; omega
    refine CallK.mk _ (cornersFix (fun a _ => a * unit) (fun _ b => b) lo hi false lo' hi' false _ _ _ _ (fun x y hx hy => by omega) (fun x y hx hy => divC1Fix x y unit (fx x hx) (by unfold fits; omega) hu) (fun x y hx hy => divC2Fix x y unit (fx x hx) (by unfold fits; omega) hu)) rfl ?_
    ((repeat' first | refine DecK.tt ?_ | refine DecK.ff ?_ | refine DecK.beq (fun _ => ?_) (fun _ => ?_) | refine DecK.bne (fun _ => ?_) (fun _ => ?_) | refine DecK.dec (fun _ => ?_) (fun _ => ?_) | refine OptK.mk _ rfl ?_ | refine endV (by rfl) ?_) <;> (try with_reducible rfl))
    rfl
theorem scaleFix (lo hi : Int) (u : Bool) (n d : Int) (hd : fits d) : Pure Tryz.prog 38 [bdV lo hi u, .n .i64 n, .n .i64 d] (encB (mulB d (normB lo hi u) (mkB n n))) := by
  refine pure_of_wp of38 (Nat.le_of_ble_eq_true rfl) ?_
  have hm := mulFix lo hi u (bLo (mkB n n)) (bHi (mkB n n)) (bUn (mkB n n)) d hd
  rw [norm_enc (mk_ok n n)] at hm
  refine CallK.mk _ (exactFix n) rfl ?_
  refine CallK.mk _ hm rfl ?_
  ((repeat' first | refine DecK.tt ?_ | refine DecK.ff ?_ | refine DecK.beq (fun _ => ?_) (fun _ => ?_) | refine DecK.bne (fun _ => ?_) (fun _ => ?_) | refine DecK.dec (fun _ => ?_) (fun _ => ?_) | refine OptK.mk _ rfl ?_ | refine endV (by rfl) ?_) <;> (try with_reducible rfl))
  rfl
end Go.Proofs.YtciigfeecmnghaaRRRRGreatRR.Sv
