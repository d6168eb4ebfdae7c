/- The operations of the program's text, put for what they do; those that only read. No condition. -/
import Derived.Test.YtdceakejbnolpaaSv7
namespace Go.Proofs.Ytdceakejbnolpaa.Sv
open Go Go.RowKit
set_option linter.unusedVariables false
set_option linter.unusedSimpArgs false

/-- An operation, its types looked up. -/
inductive SO where
  | po (p : PO)
  | mv
  | pick
  | ld (g : Bool) (z : Nat) (hd : Bool)
  | fa (off : Nat)
  | ia (arr : Option Nat) (z : Nat)
  | len (str : Bool)
  | nck
  | sl (str : Bool) (z : Nat) (lo hi mx : Bool)
  | alloc (zero : List V)
  | box
  | st (z : Nat)
  | mk (z bytes : Nat) (zero : List V)
  | app (z bytes : Nat)
  | appv (z bytes : Nat)
  | call (f : FuncId)
  | callD
  | bad
  | adopt (z : Nat)
  | callM (f : FuncId)
  | clr (z : Nat) (zero : List V)
def allV : List D → Option (List V)
  | [] => some []
  | .v x :: ds => (allV ds).map (x :: ·)
  | _ :: _ => none
def optArg (b : Bool) (ds : List D) : Option (Option D × List D) :=
  if b then match ds with
    | d :: r => some (some d, r)
    | [] => none
  else some (none, ds)
def slArgs (str : Bool) (z : Nat) (a b c : Bool) : List D → Option D
  | x :: ds => (optArg a ds).bind fun (lo, ds) => (optArg b ds).bind fun (hi, ds) => (optArg c ds).bind fun (mx, ds) => if str && c then none else slD str z lo hi mx x
  | [] => none
/-- What an operation yields that only reads. -/
def SO.rd (objs : List (Nat × List V)) : SO → List D → Option D
  | .po p, ds => (allV ds).bind fun vs => (p.run vs).map .v
  | .mv, [d] => some d
  | .pick, [.v (.b c), x, y] => some (if c then x else y)
  | .ld g z _, [d] => (deref objs d).bind (ldD g z)
  | .fa off, [d] => faD off d
  | .ia arr z, [x, i] => iaD arr z x i
  | .len str, [d] => lenD str d
  | .nck, [d] => nckD d
  | .sl str z a b c, ds => slArgs str z a b c ds
  | _, _ => none
def cBin (P : Program) (op : BinOp) (t : TypeId) : Option PO :=
  match P.underlying t with
  | some (.int _) | some .string => some (.bin op)
  | some .bool => match op with
    | .eql => some (.beq false)
    | .neq => some (.beq true)
    | _ => none
  | some (.struct _) => if P.eqGuardType P.depth t then none else match op with
    | .eql => (eqLeaves P 10000 t).map (.veq false)
    | .neq => (eqLeaves P 10000 t).map (.veq true)
    | _ => none
  | _ => none
def cConv (P : Program) (src dst : TypeId) : Option PO :=
  match P.underlying src, P.underlying dst with
  | some (.int _), some (.int k) => some (.toInt k)
  | some .string, some .string => some .same
  | _, _ => none
def cBuild (P : Program) (t : TypeId) (is : List Nat) : Option PO :=
  match P.underlying t with
  | some (.array _ e) => match szOf P e, zeroOf P t, allSome (is.map (placeOf P t)) with
    | some _, some zero, some ps => some (.build zero ps)
    | _, _, _ => none
  | some (.struct fs) => match fs.toList.mapM (fun f => (P.info? f.type).map fun i => (f.offset, i.size)), zeroOf P t, allSome (is.map (placeOf P t)) with
    | some _, some zero, some ps => some (.build zero ps)
    | _, _, _ => none
  | _ => none
def cBsl (P : Program) (t : TypeId) (n : Nat) (is : List Nat) : Option PO :=
  match P.underlying t with
  | some (.slice e) => match zeroOf P e, szOf P e with
    | some zero, some z => match allSome (is.map (elemPlace z)) with
      | some ps => if zero.length = z ∧ n * z ≤ 2 ^ 24 ∧ n * z ≠ 0 then some (.bsl n zero ps) else none
      | none => none
    | _, _ => none
  | _ => none
def cField (P : Program) (t : TypeId) (f : Nat) : Option PO :=
  match P.underlying t with
  | some (.struct fs) => match fs[f]? with
    | some fd => match aggOf P fd.type, szOf P fd.type with
      | some g, some z => some (.fld g fd.offset z)
      | _, _ => none
    | none => none
  | _ => none
def cIndex (P : Program) (t : TypeId) : Option PO :=
  match P.underlying t with
  | some (.array n e) => match aggOf P e, szOf P e with
    | some g, some z => some (.idxA g n z)
    | _, _ => none
  | some .string => some .idxS
  | _ => none
def cMk (P : Program) (t : TypeId) : Option SO :=
  match P.underlying t with
  | some (.slice e) => match szOf P e, bytesOf' P e, zeroOf P e with
    | some z, some b, some zero => if zero.length = z ∧ z ≠ 0 then some (.mk z b zero) else none
    | _, _, _ => none
  | _ => none
def cApp (P : Program) (t t2 : TypeId) : Option SO :=
  match P.underlying t, P.underlying t2 with
  | some (.slice e), some (.slice _) => match szOf P e, bytesOf' P e, zeroOf P e with
    | some z, some b, some zero => if zero.length = z ∧ z ≠ 0 then some (.app z b) else none
    | _, _, _ => none
  | _, _ => none
def cClr (P : Program) (t : TypeId) : Option SO :=
  match P.underlying t with
  | some (.slice e) => match szOf P e, zeroOf P e with
    | some (z + 1), some zero => if zero.length = z + 1 then some (.clr (z + 1) zero) else none
    | _, _ => none
  | _ => none
theorem cClr_is {P : Program} {t : TypeId} {so : SO} (h : cClr P t = some so) : ∃ e z zero, P.underlying t = some (.slice e) ∧ szOf P e = some (z + 1) ∧ zeroOf P e = some zero ∧ zero.length = z + 1 ∧ so = .clr (z + 1) zero := by
  unfold cClr at h
  split at h
  · rename_i e hu
    split at h
    · rename_i z zero hz h0
      split at h <;> cases h
      exact ⟨e, z, zero, hu, hz, h0, by assumption, rfl⟩
    · cases h
  · cases h
def cBuiltin (P : Program) (b : Builtin) (ts : List TypeId) : Option SO :=
  match b, ts with
  | .len, [t] => match P.underlying t with
    | some (.array n _) => some (.po (.lenA n))
    | _ => (lenOf' P t).map .len
  | .max, _ => some (.po .mx)
  | .min, _ => some (.po .mn)
  | .append, [t, t2] => cApp P t t2
  | .clear, [t] => cClr P t
  | _, _ => none
def notMethod : Fn → Bool
  | .func _ => true
  | _ => false
/-- The operation, and its operands. -/
def cOp (P : Program) (hd : Bool) (op : Op) : Option (SO × List Operand) :=
  match op with
  | .move x | .assign x => some (.mv, [x])
  | .pick c x y => some (.pick, [c, x, y])
  | .alloc e => (zeroOf P e).map fun z => (.alloc z, [])
  | .box _ x => some (.box, [x])
  | .build t parts => (cBuild P t (parts.toList.map (·.1))).map fun p => (.po p, parts.toList.map (·.2))
  | .buildSlice t n parts => (cBsl P t n (parts.toList.map (·.1))).map fun p => (.po p, parts.toList.map (·.2))
  | .load t x => match aggOf P t, szOf P t with
    | some g, some (z + 1) => some (.ld g (z + 1) hd, [x])
    | _, _ => none
  | .store t x v => match szOf P t with
    | some (z + 1) => some (.st (z + 1), [x, v])
    | _ => none
  | .nilCheck x => some (.nck, [x])
  | .binOp op t x y _ => (cBin P op t).map fun p => (.po p, [x, y])
  | .unOp op _ x => some (.po (.un op), [x])
  | .convert src dst x => (cConv P src dst).map fun p => (.po p, [x])
  | .makeInterface t x => if P.concrete t then some (.po (.mkI t), [x]) else none
  | .makeFunc fn first cap => some (.po (.mkF fn first.size), first.toList ++ cap.toList)
  | .makeSlice t l c => (cMk P t).map fun s => (s, [l, c])
  | .slice t x lo hi mx => (slOf P t).map fun (str, z) => (.sl str z lo.isSome hi.isSome mx.isSome, x :: (lo.toList ++ hi.toList ++ mx.toList))
  | .fieldAddr t x f => (foffOf P t f).map fun off => (.fa off, [x])
  | .field t x f => (cField P t f).map fun p => (.po p, [x])
  | .indexAddr t x i => (iaOf P t).map fun (arr, z) => (.ia arr z, [x, i])
  | .index t x i => (cIndex P t).map fun p => (.po p, [x, i])
  | .extract x i => some (.po (.ext i), [x])
  | .call c => match c.callee with
    | .value (.func f) => some (.call f, c.args.toList)
    | .value x => some (.callD, x :: c.args.toList)
    | .builtin b => (cBuiltin P b c.argTypes.toList).map fun s => (s, c.args.toList)
    | .invoke _ _ => none
  | _ => none
/-- What stands for operands, one by one. -/
def RepDL (w : World) (ok : Nat → Prop) (η : Eta) (ds : List D) (us : List Value) : Prop := us.length = ds.length ∧ ∀ (i : Nat) d, ds[i]? = some d → ∃ u, us[i]? = some u ∧ RepD w ok η d u
section
variable {P : Program} {w w0 : World} {U E : Nat → Prop} {nt : Nat} {st : St} {a : Act} {η : Eta} {ok : Nat → Prop}
theorem RepDL.nil : RepDL w ok η [] [] := ⟨rfl, fun i v h => by simp at h⟩
theorem RepDL.cons {d : D} {ds : List D} {u : Value} {us : List Value} (h : RepD w ok η d u) (hs : RepDL w ok η ds us) : RepDL w ok η (d :: ds) (u :: us) := by
  refine ⟨by simp [hs.1], fun i x hx => ?_⟩
  cases i with
  | zero => simp at hx; subst hx; exact ⟨u, rfl, h⟩
  | succ i => simp at hx; simpa using hs.2 i x hx
theorem RepDL.head {d : D} {ds : List D} {us : List Value} (h : RepDL w ok η (d :: ds) us) : ∃ u us', us = u :: us' ∧ RepD w ok η d u ∧ RepDL w ok η ds us' := by
  cases us with
  | nil => simp [RepDL] at h
  | cons u us =>
    obtain ⟨hl, hr⟩ := h
    obtain ⟨u', hu, hv⟩ := hr 0 d rfl
    simp at hu
    subst hu
    exact ⟨u, us, rfl, hv, by simpa using hl, fun i x hx => by simpa using hr (i + 1) x (by simpa using hx)⟩
theorem RepDL.nil_eq {us : List Value} (h : RepDL w ok η [] us) : us = [] := by have := h.1; simpa using this
theorem RepDL.one {d : D} {us : List Value} (h : RepDL w ok η [d] us) : ∃ u, us = [u] ∧ RepD w ok η d u := by
  obtain ⟨u, us', rfl, h1, h2⟩ := h.head
  obtain rfl := h2.nil_eq
  exact ⟨u, rfl, h1⟩
theorem RepDL.two {d d' : D} {us : List Value} (h : RepDL w ok η [d, d'] us) : ∃ u u', us = [u, u'] ∧ RepD w ok η d u ∧ RepD w ok η d' u' := by
  obtain ⟨u, us', rfl, h1, h2⟩ := h.head
  obtain ⟨u', rfl, h3⟩ := h2.one
  exact ⟨u, u', rfl, h1, h3⟩
theorem RepDL.vals : ∀ {ds : List D} {us : List Value} {vs : List V}, RepDL w ok η ds us → allV ds = some vs → RepL w ok vs us
  | [], us, vs, h, hv => by cases hv; rw [h.nil_eq]; exact .nil
  | d :: ds, us, vs, h, hv => by
    obtain ⟨u, us', rfl, h1, h2⟩ := h.head
    cases d <;> simp only [allV] at hv <;> try cases hv
    simp only [Option.map_eq_some_iff] at hv
    obtain ⟨vs', hv, rfl⟩ := hv
    cases h1 with | v _ _ h1 =>
    exact .cons h1 (h2.vals hv)
theorem zip_eval (parts : Array (Nat × Operand)) (ρ : Operand → Value) : (parts.map fun (i, x) => (i, ρ x)) = ((parts.toList.map (·.1)).zip ((parts.toList.map (·.2)).map ρ)).toArray := by
  apply Array.ext'
  simp only [Array.toList_map]
  generalize parts.toList = l
  induction l with
  | nil => rfl
  | cons x l ih => obtain ⟨i, y⟩ := x; simp [ih]
end
end Go.Proofs.Ytdceakejbnolpaa.Sv
