/- The remaining operations on values by themselves. No condition. -/
import Derived.Test.YtdceakejbnolpaaSv6
namespace Go.Proofs.Ytdceakejbnolpaa.Sv
open Go Go.RowKit
set_option linter.unusedVariables false
set_option linter.unusedSimpArgs false

def unV (op : UnOp) : V → Option V
  | .n k x => match op with
    | .neg => some (.n k (k.wrap (0 - x)))
    | .xor => some (.n k (k.wrap (BitVec.ofInt k.bits (if k.signed then -1 else k.max) ^^^ BitVec.ofInt k.bits x).toNat))
    | _ => none
  | .b x => match op with
    | .not => some (.b !x)
    | _ => none
  | _ => none
/-- A part of a value: whether it is an aggregate, where, how many cells. -/
def partV (g : Bool) (off z : Nat) (xs : List V) : Option V := if g then (if off + z ≤ xs.length then some (.agg ((xs.drop off).take z)) else none) else xs[off]?
inductive PO where
  | bin (op : BinOp)
  | beq (neg : Bool)
  | veq (neg : Bool) (ls : List (Nat × EK))
  | un (op : UnOp)
  | toInt (k : IntKind)
  | same
  | fld (g : Bool) (off z : Nat)
  | idxA (g : Bool) (len z : Nat)
  | idxS
  | ext (i : Nat)
  | mkI (t : TypeId)
  | mkF (fn : Fn) (nf : Nat)
  | build (zero : List V) (ps : List (Nat × Nat))
  | bsl (n : Nat) (zero : List V) (ps : List (Nat × Nat))
  | pick
  | mx
  | mn
  | lenA (n : Nat)
def mxI (k : IntKind) : List V → Int → Option V
  | [], x => some (.n k x)
  | .n _ y :: r, x => mxI k r (if y > x then y else x)
  | _, _ => none
def mnI (k : IntKind) : List V → Int → Option V
  | [], x => some (.n k x)
  | .n _ y :: r, x => mnI k r (if y < x then y else x)
  | _, _ => none
def beqV (neg : Bool) : List V → Option V
  | [.b x, .b y] => some (.b (if neg then !(x == y) else x == y))
  | _ => none
def veqV (neg : Bool) (ls : List (Nat × EK)) : List V → Option V
  | [.agg xs, .agg ys] => (eqLv ls xs ys).map fun r => .b (if neg then !r else r)
  | _ => none
def fldV (g : Bool) (off z : Nat) : List V → Option V
  | [.agg xs] => partV g off z xs
  | _ => none
def idxAV (g : Bool) (len z : Nat) : List V → Option V
  | [.agg xs, .n _ i] => if 0 ≤ i ∧ i < len then partV g (i.toNat * z) z xs else none
  | _ => none
def idxSV : List V → Option V
  | [.s x, .n _ i] => if 0 ≤ i then x[i.toNat]?.map fun b => .n .u8 b.toNat else none
  | _ => none
def extV (i : Nat) : List V → Option V
  | [.tup xs] => xs[i]?
  | _ => none
def toIntV (k : IntKind) : List V → Option V
  | [.n _ x] => some (.n k (k.wrap x))
  | _ => none
def sameV : List V → Option V
  | [.s x] => some (.s x)
  | _ => none
def pickV : List V → Option V
  | [.b c, x, y] => some (if c then x else y)
  | _ => none
def mxV : List V → Option V
  | .n k x :: r => mxI k r x
  | _ => none
def mnV : List V → Option V
  | .n k x :: r => mnI k r x
  | _ => none
def binL (op : BinOp) : List V → Option V
  | [x, y] => binV op x y
  | _ => none
def unL (op : UnOp) : List V → Option V
  | [x] => unV op x
  | _ => none
def mkIV (t : TypeId) : List V → Option V
  | [x] => some (.ifc t x)
  | _ => none
def lenAV (n : Nat) : List V → Option V
  | [_] => some (.n .i64 n)
  | _ => none
def PO.run : PO → List V → Option V
  | .bin op, xs => binL op xs
  | .beq neg, xs => beqV neg xs
  | .veq neg ls, xs => veqV neg ls xs
  | .un op, xs => unL op xs
  | .toInt k, xs => toIntV k xs
  | .same, xs => sameV xs
  | .fld g off z, xs => fldV g off z xs
  | .idxA g len z, xs => idxAV g len z xs
  | .idxS, xs => idxSV xs
  | .ext i, xs => extV i xs
  | .mkI t, xs => mkIV t xs
  | .mkF fn nf, xs => some (.clo fn (xs.take nf) (xs.drop nf))
  | .build zero ps, xs => buildV zero ps xs
  | .bsl n zero ps, xs => bslV n zero ps xs
  | .pick, xs => pickV xs
  | .mx, xs => mxV xs
  | .mn, xs => mnV xs
  | .lenA n, xs => lenAV n xs
section
variable {P : Program} {w : World} {ok : Nat → Prop}
theorem RepL.one {v : V} {us : List Value} (h : RepL w ok [v] us) : ∃ u, us = [u] ∧ RepV w ok v u := by
  obtain ⟨u, us', rfl, h1, h2⟩ := h.head
  have : us' = [] := by have := h2.1; simpa using this
  subst this
  exact ⟨u, rfl, h1⟩
theorem RepL.two {v v' : V} {us : List Value} (h : RepL w ok [v, v'] us) : ∃ u u', us = [u, u'] ∧ RepV w ok v u ∧ RepV w ok v' u' := by
  obtain ⟨u, us', rfl, h1, h2⟩ := h.head
  obtain ⟨u', rfl, h3⟩ := h2.one
  exact ⟨u, u', rfl, h1, h3⟩
theorem RepL.three {v v' v'' : V} {us : List Value} (h : RepL w ok [v, v', v''] us) : ∃ u u' u'', us = [u, u', u''] ∧ RepV w ok v u ∧ RepV w ok v' u' ∧ RepV w ok v'' u'' := by
  obtain ⟨u, us', rfl, h1, h2⟩ := h.head
  obtain ⟨u', u'', rfl, h3, h4⟩ := h2.two
  exact ⟨u, u', u'', rfl, h1, h3, h4⟩
theorem beq_sound {op : BinOp} {neg : Bool} {t : TypeId} {x y : V} {u v : Value} {r : V} (hx : RepV w ok x u) (hy : RepV w ok y v) (h : beqV neg [x, y] = some r) (ht : P.underlying t = some .bool)
    (hop : op = if neg then .neq else .eql) (xo yo : Operand) : ∃ z, ((do eqGuard op t xo yo u v; binOp op t u v) : Sem Value).run P w = .ok z w ∧ RepV w ok r z := by
  unfold beqV at h
  split at h <;> cases h
  rename_i a b h1
  cases h1
  cases hx; cases hy
  have hg : ∀ op : BinOp, (eqGuard op t xo yo (.bool a) (.bool b)).run P w = .ok () w := fun op => by unfold eqGuard; cases op <;> simp
  subst hop
  simp only [Sem.run_bind, hg, Result.andThen_ok]
  cases neg
  · exact ⟨_, by simpa using run_eql_bool (P := P) w t a b ht, .b _⟩
  · exact ⟨_, by simpa using run_neq_bool (P := P) w t a b ht, .b _⟩
theorem veq_sound {op : BinOp} {neg : Bool} {t : TypeId} {ls : List (Nat × EK)} {x y : V} {u v : Value} {r : V} (hx : RepV w ok x u) (hy : RepV w ok y v) (h : veqV neg ls [x, y] = some r) (ht : eqLeaves P 10000 t = some ls)
    (hgt : P.eqGuardType P.depth t = false) (hop : op = if neg then .neq else .eql) (xo yo : Operand) : ∃ z, ((do eqGuard op t xo yo u v; binOp op t u v) : Sem Value).run P w = .ok z w ∧ RepV w ok r z := by
  unfold veqV at h
  split at h
  case h_2 => cases h
  rename_i xs ys h1
  cases h1
  simp only [Option.map_eq_some_iff] at h
  obtain ⟨q, hq, rfl⟩ := h
  cases hx with | agg _ us hl hr =>
  cases hy with | agg _ vs hl' hr' =>
  have he := eqLeaves_sound (P := P) 10000 ht (RepL.of_array hl hr) (RepL.of_array hl' hr') hq
  simp only [Sem.run_bind, run_eqGuard_agg (P := P) w op t xo yo us vs hgt, Result.andThen_ok]
  subst hop
  cases neg
  · exact ⟨.bool q, by simp [run_eql_struct, he], .b _⟩
  · exact ⟨.bool !q, by simp [run_neq_struct, he], .b _⟩
theorem un_sound {op : UnOp} {x r : V} {u : Value} (hx : RepV w ok x u) (h : unV op x = some r) : ∃ z, (Op.unary op u).run P w = .ok z w ∧ RepV w ok r z := by
  unfold unV at h
  split at h
  · cases hx
    split at h <;> cases h
    · exact ⟨_, by simp only [Op.unary, Op.intArith, Sem.run_pure], .n _ _⟩
    · exact ⟨_, by simp only [Op.unary, Op.intBits, Sem.run_pure], .n _ _⟩
  · cases hx
    split at h <;> cases h
    exact ⟨_, by simp only [Op.unary, Sem.run_pure], .b _⟩
  · cases h
theorem part_sound {t : TypeId} {g : Bool} {off z : Nat} {xs : List V} {us : Array Value} {r : V} (hg : aggOf P t = some g) (hz : szOf P t = some z) (hx : RepL w ok xs us.toList) (h : partV g off z xs = some r) :
    ∃ u, (part t us off).run P w = .ok u w ∧ RepV w ok r u := by
  unfold partV at h
  cases g
  · obtain ⟨u, hu, hr⟩ := hx.2 off r h
    exact ⟨u, run_part_one hg (by simpa using hu), hr⟩
  · simp only [if_true] at h
    split at h <;> cases h
    have := (hx.extract off z).agg
    exact ⟨_, run_part_agg hg hz, this⟩
theorem fld_sound {t : TypeId} {f : Nat} {fs : Array Field} {fd : Field} {g : Bool} {z : Nat} {x r : V} {u : Value} (hx : RepV w ok x u) (h : fldV g fd.offset z [x] = some r)
    (hu : P.underlying t = some (.struct fs)) (hf : fs[f]? = some fd) (hg : aggOf P fd.type = some g) (hz : szOf P fd.type = some z) : ∃ v, (Instr.field t u f).run P w = .ok v w ∧ RepV w ok r v := by
  unfold fldV at h
  split at h
  case h_2 => cases h
  rename_i h1
  cases h1
  cases hx with | agg _ us hl hr =>
  obtain ⟨v, h1, h2⟩ := part_sound hg hz (RepL.of_array hl hr) h
  exact ⟨v, by simp [Instr.field, run_underlying hu, hf, asAgg, h1], h2⟩
theorem idxA_sound {t e : TypeId} {len z : Nat} {g : Bool} {x i r : V} {u v : Value} (hx : RepV w ok x u) (hi : RepV w ok i v) (h : idxAV g len z [x, i] = some r)
    (hu : P.underlying t = some (.array len e)) (hg : aggOf P e = some g) (hz : szOf P e = some z) : ∃ y, (Instr.index t u v).run P w = .ok y w ∧ RepV w ok r y := by
  unfold idxAV at h
  split at h
  case h_2 => cases h
  rename_i h1
  cases h1
  split at h
  · rename_i hb
    cases hx with | agg _ us hl hr =>
    cases hi
    obtain ⟨y, h1, h2⟩ := part_sound hg hz (RepL.of_array hl hr) h
    exact ⟨y, by simp [Instr.index, asIntOf, run_underlying hu, hb, run_size hz, h1], h2⟩
  · cases h
theorem idxS_sound {t : TypeId} {x i r : V} {u v : Value} (hx : RepV w ok x u) (hi : RepV w ok i v) (h : idxSV [x, i] = some r) (hu : P.underlying t = some .string) :
    ∃ y, (Instr.index t u v).run P w = .ok y w ∧ RepV w ok r y := by
  unfold idxSV at h
  split at h
  case h_2 => cases h
  rename_i h1
  cases h1
  split at h
  · rename_i hb
    simp only [Option.map_eq_some_iff] at h
    obtain ⟨b, hb', rfl⟩ := h
    cases hx; cases hi
    exact ⟨_, by simp [Instr.index, asIntOf, run_underlying hu, hb, hb'] <;> rfl, .n _ _⟩
  · cases h
theorem ext_sound {i : Nat} {x r : V} {u : Value} (hx : RepV w ok x u) (h : extV i [x] = some r) : ∃ y, (Instr.extract u i).run P w = .ok y w ∧ RepV w ok r y := by
  unfold extV at h
  split at h
  case h_2 => cases h
  rename_i h1
  cases h1
  cases hx with | tup _ us hl hr =>
  obtain ⟨y, hy, hr⟩ := (RepL.of_array hl hr).2 _ _ h
  exact ⟨y, by
    have : us[i]? = some y := by simpa using hy
    simp [Instr.extract, this], hr⟩
theorem mx_sound {k : IntKind} : ∀ {vs : List V} {us : List Value} {x : Int} {r : V}, RepL w ok vs us → mxI k vs x = some r → ∃ z, ((us.foldlM Builtin.max2 (Value.int k x)) : Sem Value).run P w = .ok z w ∧ RepV w ok r z
  | [], us, x, r, h, he => by
    obtain rfl : us = [] := by have := h.1; simpa using this
    cases he
    exact ⟨_, rfl, .n _ _⟩
  | v :: vs, us, x, r, h, he => by
    obtain ⟨u, us', rfl, h1, h2⟩ := h.head
    unfold mxI at he
    split at he
    · rename_i he'; cases he'
    · rename_i he'
      cases he'
      cases h1
      obtain ⟨z, hz, hr⟩ := mx_sound h2 he
      exact ⟨z, by simp only [List.foldlM_cons, Sem.run_bind, Builtin.max2, Sem.run_pure, Result.andThen_ok]; exact hz, hr⟩
    · cases he
theorem mn_sound {k : IntKind} : ∀ {vs : List V} {us : List Value} {x : Int} {r : V}, RepL w ok vs us → mnI k vs x = some r → ∃ z, ((us.foldlM Builtin.min2 (Value.int k x)) : Sem Value).run P w = .ok z w ∧ RepV w ok r z
  | [], us, x, r, h, he => by
    obtain rfl : us = [] := by have := h.1; simpa using this
    cases he
    exact ⟨_, rfl, .n _ _⟩
  | v :: vs, us, x, r, h, he => by
    obtain ⟨u, us', rfl, h1, h2⟩ := h.head
    unfold mnI at he
    split at he
    · rename_i he'; cases he'
    · rename_i he'
      cases he'
      cases h1
      obtain ⟨z, hz, hr⟩ := mn_sound h2 he
      exact ⟨z, by simp only [List.foldlM_cons, Sem.run_bind, Builtin.min2, Sem.run_pure, Result.andThen_ok]; exact hz, hr⟩
    · cases he
end
end Go.Proofs.Ytdceakejbnolpaa.Sv
