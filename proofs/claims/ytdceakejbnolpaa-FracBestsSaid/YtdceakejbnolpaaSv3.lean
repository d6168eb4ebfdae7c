/- More operations that only read: an element's address, a part of a slice or string, lengths, arithmetic, parts of values. No condition. -/
import Derived.Test.YtdceakejbnolpaaSv2
import Derived.Laws.Slices
import Derived.Laws.Strings
namespace Go.Proofs.Ytdceakejbnolpaa.Sv
open Go Go.RowKit
set_option linter.unusedVariables false
set_option linter.unusedSimpArgs false

inductive Opd where
  | tm (i : Nat)
  | cn (v : V)
  deriving Inhabited
def Opd.ev (st : St) : Opd → Option D
  | .tm t => look st.ρ t
  | .cn v => some (.v v)
/-- A constant of the text. -/
def cVal : Value → Option V
  | .bool x => some (.b x)
  | .int k x => some (.n k x)
  | .string x => some (.s x)
  | .pointer none => some .nilp
  | .slice none 0 0 => some (.sl 0 [] true)
  | .nilFunc => some .nilf
  | .nilIface => some .nili
  | _ => none
def cVals : List Value → Option (List V)
  | [] => some []
  | v :: vs => match cVal v, cVals vs with
    | some x, some xs => some (x :: xs)
    | _, _ => none
def cValA : Value → Option V
  | .agg cs => (cVals cs.toList).map .agg
  | v => cVal v
def cOpd : Operand → Option Opd
  | .tmp t => some (.tm t)
  | .const v => (cValA v).map .cn
  | .func f => some (.cn (.clo (.func f) [] []))
  | .global _ => none

section
variable {P : Program} {w w0 : World} {U E : Nat → Prop} {nt : Nat} {st : St} {a : Act} {η : Eta} {ok : Nat → Prop}
theorem cVal_rep {u : Value} {v : V} (h : cVal u = some v) : RepV w ok v u := by
  unfold cVal at h
  split at h <;> cases h
  · exact .b _
  · exact .n _ _
  · exact .s _
  · exact .nilp
  · exact .sl0 _ _
  · exact .nilf
  · exact .nili
theorem cVals_rep : ∀ {us : List Value} {vs : List V}, cVals us = some vs → RepL w ok vs us
  | [], vs, h => by simp [cVals] at h; subst h; exact .nil
  | u :: us, vs, h => by
    unfold cVals at h
    split at h <;> cases h
    rename_i x xs h1 h2
    exact .cons (cVal_rep h1) (cVals_rep h2)
theorem cValA_rep {u : Value} {v : V} (h : cValA u = some v) : RepV w ok v u := by
  unfold cValA at h
  split at h
  · simp only [Option.map_eq_some_iff] at h
    obtain ⟨vs, h1, rfl⟩ := h
    exact (cVals_rep h1).agg
  · exact cVal_rep h
theorem Opd.rep (hrel : Rel w0 U E nt st a w η) {x : Operand} {p : Opd} {d : D} (hc : cOpd x = some p) (he : p.ev st = some d) : RepD w (Ok U st.objs η w) η d (a.eval x) := by
  cases x with
  | tmp t => cases hc; exact (hrel.slots t d he).2
  | const v =>
    simp only [cOpd, Option.map_eq_some_iff] at hc
    obtain ⟨y, hy, rfl⟩ := hc
    cases he
    exact .v _ _ (cValA_rep hy)
  | global g => cases hc
  | func f =>
    cases hc
    cases he
    exact .v _ _ (.clo _ [] [] #[] #[] rfl rfl (fun i v h => by simp at h) (fun i v h => by simp at h))

/-! ### An element's address -/
def iaD (arr : Option Nat) (z : Nat) (x i : D) : Option D :=
  match i with
  | .v (.n _ i) =>
    match arr with
    | some len => if 0 ≤ i ∧ i < len then faD (i.toNat * z) x else none
    | none => match x with
      | .v (.sl len cells _) => if 0 ≤ i ∧ i < len then some (.v (.ip (cells.drop (i.toNat * z)))) else none
      | .own s z' off len => if 0 ≤ i ∧ i < len ∧ z' = z then some (.ref s (off + i.toNat * z)) else none
      | _ => none
  | _ => none
def iaOf (P : Program) (t : TypeId) : Option (Option Nat × Nat) :=
  match P.underlying t with
  | some (.array n e) => (szOf P e).map (some n, ·)
  | some (.slice e) => (szOf P e).map (none, ·)
  | _ => none
theorem ia_sound {t : TypeId} {arr : Option Nat} {z : Nat} {x i d' : D} {u ui : Value} (hx : RepD w ok η x u) (hi : RepD w ok η i ui) (h : iaD arr z x i = some d') (ht : iaOf P t = some (arr, z)) :
    ∃ u', (Instr.indexAt t u ui).run P w = .ok u' w ∧ RepD w ok η d' u' := by
  unfold iaD at h
  split at h
  · rename_i k n
    cases hi with
    | v _ _ hi =>
    cases hi
    unfold iaOf at ht
    split at ht
    · rename_i len e hu
      simp only [Option.map_eq_some_iff, Prod.mk.injEq] at ht
      obtain ⟨z', hz, rfl, rfl⟩ := ht
      simp only at h
      split at h
      · rename_i hb
        obtain ⟨b, o, rfl, hr⟩ := faD_rep hx h
        refine ⟨_, ?_, hr⟩
        simp [Instr.indexAt, asIntOf, run_underlying hu, Instr.sureAddr, hb, run_size hz, add_plain]
      · cases h
    · rename_i e hu
      simp only [Option.map_eq_some_iff, Prod.mk.injEq] at ht
      obtain ⟨z', hz, rfl, rfl⟩ := ht
      simp only at h
      split at h
      · rename_i len cells tt
        split at h
        · rename_i hb
          cases h
          cases hx with
          | v _ _ hx =>
          cases hx with
          | sl0 t a => simp at hb; omega
          | sl _ _ _ us bl off cap hok hl ht hc hr =>
            refine ⟨_, ?_, .v _ _ (ip_drop (n := n.toNat * z') hok hc hr)⟩
            simp [Instr.indexAt, asIntOf, run_underlying hu, hb, run_size hz, add_plain]
        · cases h
      · rename_i s zz off len
        split at h
        · rename_i hb
          obtain ⟨h0, h1, rfl⟩ := hb
          cases h
          cases hx with
          | own0 => omega
          | own _ _ _ _ b o cap hη hl hc =>
            refine ⟨.pointer (some ⟨b, o + (off + n.toNat * zz), none⟩), ?_, .ref _ _ _ _ hη⟩
            simp [Instr.indexAt, asIntOf, run_underlying hu, h0, h1, run_size hz, add_plain, Nat.add_assoc]
        · cases h
      · cases h
    · cases ht
  · cases h

/-! ### Lengths; what is there -/
def lenD (str : Bool) (d : D) : Option D :=
  if str then match d with
    | .v (.s x) => some (.v (.n .i64 x.size))
    | _ => none
  else match d with
    | .v (.sl len _ _) => some (.v (.n .i64 len))
    | .own _ _ _ len => some (.v (.n .i64 len))
    | _ => none
def lenOf' (P : Program) (t : TypeId) : Option Bool := match P.underlying t with | some .string => some true | some (.slice _) => some false | _ => none
theorem len_sound {t ty : TypeId} {ts : Array TypeId} {str : Bool} {x d' : D} {u : Value} (hx : RepD w ok η x u) (h : lenD str x = some d') (h0 : ts[0]? = some t) (ht : lenOf' P t = some str) :
    ∃ u', (Builtin.len_ ts ty #[u]).run P w = .ok u' w ∧ RepD w ok η d' u' := by
  unfold lenOf' at ht
  split at ht <;> cases ht
  · rename_i hu
    simp only [lenD, if_true] at h
    split at h <;> cases h
    cases hx with | v _ _ hx =>
    cases hx
    exact ⟨_, by simp [Builtin.len_, h0, run_underlying hu]; rfl, .v _ _ (.n _ _)⟩
  · rename_i e hu
    simp only [lenD, Bool.false_eq_true, if_false] at h
    split at h <;> cases h
    · cases hx with | v _ _ hx =>
      cases hx <;> exact ⟨_, by simp [Builtin.len_, h0, run_underlying hu]; rfl, .v _ _ (.n _ _)⟩
    · cases hx <;> exact ⟨_, by simp [Builtin.len_, h0, run_underlying hu]; rfl, .v _ _ (.n _ _)⟩
def nckD : D → Option D
  | .v (.ip c) => some (.v (.ip c))
  | .ref s o => some (.ref s o)
  | .v (.clo (.func f) a b) => some (.v (.clo (.func f) a b))
  | _ => none
end
end Go.Proofs.Ytdceakejbnolpaa.Sv
