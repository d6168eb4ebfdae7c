/- A part of a slice or of a string. No condition. -/
import Derived.Test.YtdceakejbnolpaaSv3
namespace Go.Proofs.Ytdceakejbnolpaa.Sv
open Go Go.RowKit
set_option linter.unusedVariables false
set_option linter.unusedSimpArgs false

def optN : Option D → Nat → Option Nat
  | none, d => some d
  | some (.v (.n _ i)), _ => if 0 ≤ i then some i.toNat else none
  | some _, _ => none
/-- lo, hi, mx: the bounds as they stand in the text. -/
def slD (str : Bool) (z : Nat) (lo hi mx : Option D) (x : D) : Option D :=
  if str then match x with
    | .v (.s b) => (optN lo 0).bind fun l => (optN hi b.size).bind fun h => if l ≤ h ∧ h ≤ b.size then some (.v (.s (b.extract l h))) else none
    | _ => none
  else match x with
    | .v (.sl len cells t) => (optN lo 0).bind fun l => (optN hi len).bind fun h => match mx with
      | none => if l ≤ h ∧ h ≤ len then some (.v (.sl (h - l) ((cells.drop (l * z)).take ((h - l) * z)) (t && hi.isNone))) else none
      | some _ => (optN mx 0).bind fun m => if l ≤ h ∧ h ≤ m ∧ m ≤ len ∧ hi.isSome then some (.v (.sl (h - l) ((cells.drop (l * z)).take ((h - l) * z)) (m == h))) else none
    | .own s z' off len => (optN lo 0).bind fun l => (optN hi len).bind fun h => if l ≤ h ∧ h ≤ len ∧ z' = z ∧ mx.isNone then some (.own s z (off + l * z) (h - l)) else none
    | _ => none
section
variable {P : Program} {w w0 : World} {U E : Nat → Prop} {nt : Nat} {st : St} {a : Act} {η : Eta} {ok : Nat → Prop}
/-- Operands that may be missing. -/
inductive RepQ (w : World) (ok : Nat → Prop) (η : Eta) : Option D → Option Value → Prop
  | none : RepQ w ok η none none
  | some (d : D) (u : Value) (h : RepD w ok η d u) : RepQ w ok η (some d) (some u)
theorem optN_some {d : Option D} {u : Option Value} {n dn : Nat} (hr : RepQ w ok η d u) (h : optN d dn = some n) :
    (d = none ∧ u = none ∧ n = dn) ∨ (∃ k i, d.isSome = true ∧ u = some (.int k i) ∧ 0 ≤ i ∧ n = i.toNat) := by
  cases hr with
  | none => simp [optN] at h; exact .inl ⟨rfl, rfl, h.symm⟩
  | some d u hd =>
    refine .inr ?_
    unfold optN at h
    split at h
    · rename_i he; cases he
    · rename_i k i he
      cases he
      split at h <;> cases h
      rename_i h0
      cases hd with | v _ _ hd =>
      cases hd
      exact ⟨_, _, rfl, rfl, h0, rfl⟩
    · cases h
theorem run_bound {k : IntKind} {i : Int} {y : Nat} {code : BoundsCode} (h0 : 0 ≤ i) (h1 : i.toNat ≤ y) : (Instr.sliceBound (.int k i) y code).run P w = .ok i.toNat w := by
  have : i ≤ (y : Int) := by omega
  simp [Instr.sliceBound, asIntOf, h0, this]
theorem run_bounds2 {isS : Bool} {len cap : Nat} {dl dh : Option D} {lo hi : Option Value} {l h : Nat} (hl : RepQ w ok η dl lo) (hh : RepQ w ok η dh hi)
    (el : optN dl 0 = some l) (eh : optN dh len = some h) (b1 : l ≤ h) (b2 : h ≤ len) (b3 : len ≤ cap) : (Instr.sliceBounds isS len cap lo hi none).run P w = .ok (l, h, cap) w := by
  rcases optN_some hl el with ⟨-, rfl, rfl⟩ | ⟨k, i, -, rfl, i0, rfl⟩ <;> rcases optN_some hh eh with ⟨-, rfl, rfl⟩ | ⟨k', i', -, rfl, i0', rfl⟩
  · simp [Instr.sliceBounds]
  · simp [Instr.sliceBounds, run_bound (P := P) (w := w) (k := k') (code := if isS = true then .sliceAcap else .sliceAlen) i0' (show i'.toNat ≤ cap by omega)]
  · simp [Instr.sliceBounds, run_bound (P := P) (w := w) (k := k) i0 b1]
  · simp [Instr.sliceBounds, run_bound (P := P) (w := w) (k := k') (code := if isS = true then .sliceAcap else .sliceAlen) i0' (show i'.toNat ≤ cap by omega), run_bound (P := P) (w := w) (k := k) i0 b1]
theorem run_bounds3 {len cap : Nat} {dl dh dm : Option D} {lo hi mx : Option Value} {l h m : Nat} (hl : RepQ w ok η dl lo) (hh : RepQ w ok η dh hi) (hm : RepQ w ok η dm mx)
    (el : optN dl 0 = some l) (eh : optN dh len = some h) (em : optN dm 0 = some m) (sh : dh.isSome = true) (sm : dm.isSome = true) (b1 : l ≤ h) (b2 : h ≤ m) (b3 : m ≤ cap) :
    (Instr.sliceBounds true len cap lo hi mx).run P w = .ok (l, h, m) w := by
  rcases optN_some hm em with ⟨rfl, -, -⟩ | ⟨k2, i2, -, rfl, i20, rfl⟩
  · cases sm
  rcases optN_some hh eh with ⟨rfl, -, -⟩ | ⟨k', i', -, rfl, i0', rfl⟩
  · cases sh
  rcases optN_some hl el with ⟨-, rfl, rfl⟩ | ⟨k, i, -, rfl, i0, rfl⟩
  · simp [Instr.sliceBounds, run_bound (P := P) (w := w) (k := k2) i20 b3, run_bound (P := P) (w := w) (k := k') i0' b2]
  · simp [Instr.sliceBounds, run_bound (P := P) (w := w) (k := k2) i20 b3, run_bound (P := P) (w := w) (k := k') i0' b2, run_bound (P := P) (w := w) (k := k) i0 b1]
/-- string? and the size of an element -/
def slOf (P : Program) (t : TypeId) : Option (Bool × Nat) :=
  match P.underlying t with
  | some .string => some (true, 1)
  | some (.slice e) => (szOf P e).map (false, ·)
  | _ => none
theorem part_rep {cells : List V} {us : Nat → Value} {bl off l k z cap : Nat} {t : Bool} (hok : ok bl) (hl : k ≤ cap) (ht : t = true → cap = k)
    (hc : ∀ (i : Nat) v, cells[i]? = some v → w.cell? ⟨bl, off + i, none⟩ = some (us i)) (hr : ∀ (i : Nat) v, cells[i]? = some v → RepV w ok v (us i)) :
    RepV w ok (.sl k ((cells.drop l).take z) t) (.slice (some ⟨bl, off + l, none⟩) k cap) := by
  refine .sl _ _ _ (fun i => us (l + i)) bl (off + l) cap hok hl ht (fun i v hi => ?_) (fun i v hi => ?_)
  · rw [List.getElem?_take] at hi
    split at hi
    · rw [List.getElem?_drop] at hi
      rw [show off + l + i = off + (l + i) by omega]
      exact hc _ v hi
    · cases hi
  · rw [List.getElem?_take] at hi
    split at hi
    · rw [List.getElem?_drop] at hi; exact hr _ v hi
    · cases hi
theorem sl_sound {t : TypeId} {str : Bool} {z : Nat} {dl dh dm : Option D} {x d' : D} {u : Value} {lo hi mx : Option Value} (hx : RepD w ok η x u)
    (hl : RepQ w ok η dl lo) (hh : RepQ w ok η dh hi) (hm : RepQ w ok η dm mx) (h : slD str z dl dh dm x = some d') (ht : slOf P t = some (str, z)) (hsm : str = true → dm = none) :
    ∃ u', (Instr.sliceAt t u lo hi mx).run P w = .ok u' w ∧ RepD w ok η d' u' := by
  unfold slOf at ht
  split at ht
  · rename_i hu
    cases ht
    obtain rfl := hsm rfl
    cases hm
    simp only [slD, if_true] at h
    split at h
    · rename_i b
      simp only [Option.bind_eq_some_iff] at h
      obtain ⟨l, el, hh', eh, h⟩ := h
      split at h <;> cases h
      rename_i hb
      cases hx with | v _ _ hx =>
      cases hx
      exact ⟨_, by simp [Instr.sliceAt, Instr.slice, run_underlying hu, run_bounds2 (P := P) hl hh el eh hb.1 hb.2 (Nat.le_refl _)] <;> rfl, .v _ _ (.s _)⟩
    · cases h
  · rename_i e hu
    simp only [Option.map_eq_some_iff, Prod.mk.injEq] at ht
    obtain ⟨z', hz, rfl, rfl⟩ := ht
    simp only [slD, Bool.false_eq_true, if_false] at h
    split at h
    · rename_i len cells tt
      simp only [Option.bind_eq_some_iff] at h
      obtain ⟨l, el, hh', eh, h⟩ := h
      cases hx with | v _ _ hx =>
      cases hm with
      | none =>
        simp only at h
        split at h <;> cases h
        rename_i hb
        cases hx with
        | sl0 _ a =>
          have h1 : hh' = 0 := by omega
          have h2 : l = 0 := by omega
          subst h1; subst h2
          exact ⟨_, by simp [Instr.sliceAt, Instr.slice, run_underlying hu, run_size hz, run_bounds2 (P := P) (isS := true) hl hh el eh hb.1 hb.2 (Nat.le_refl _)] <;> rfl, .v _ _ (by simpa using .sl0 _ a)⟩
        | sl _ _ _ us bl off cap hok hl' htt hc hr =>
          refine ⟨_, by simp [Instr.sliceAt, Instr.slice, run_underlying hu, run_size hz, run_bounds2 (P := P) (isS := true) hl hh el eh hb.1 hb.2 hl'] <;> rfl, .v _ _ ?_⟩
          by_cases hcl : cap = l
          · have h1 : hh' - l = 0 := by omega
            rw [if_pos hcl, h1, show cap - l = 0 by omega]
            simpa using .sl0 _ _
          · rw [if_neg hcl]
            simp only [add_plain]
            refine part_rep hok (by omega) (fun htt' => ?_) hc hr
            simp only [Bool.and_eq_true, Option.isNone_iff_eq_none] at htt'
            obtain ⟨h1, rfl⟩ := htt'
            simp [optN] at eh
            have := htt h1
            omega
      | some dm um hdm =>
        simp only [Option.bind_eq_some_iff] at h
        obtain ⟨m, em, h⟩ := h
        split at h <;> cases h
        rename_i hb
        cases hx with
        | sl0 _ a =>
          have h0 : m = 0 := by omega
          have h1 : hh' = 0 := by omega
          have h2 : l = 0 := by omega
          subst h0; subst h1; subst h2
          exact ⟨_, by simp [Instr.sliceAt, Instr.slice, run_underlying hu, run_size hz, run_bounds3 (P := P) hl hh (.some _ _ hdm) el eh em hb.2.2.2 rfl hb.1 hb.2.1 (Nat.le_refl _)] <;> rfl, .v _ _ (by simpa using .sl0 _ a)⟩
        | sl _ _ _ us bl off cap hok hl' htt hc hr =>
          refine ⟨_, by simp [Instr.sliceAt, Instr.slice, run_underlying hu, run_size hz, run_bounds3 (P := P) hl hh (.some _ _ hdm) el eh em hb.2.2.2 rfl hb.1 hb.2.1 (show m ≤ cap by omega)] <;> rfl, .v _ _ ?_⟩
          by_cases hcl : m = l
          · have h1 : hh' - l = 0 := by omega
            rw [if_pos hcl, h1, show m - l = 0 by omega]
            simpa using .sl0 _ _
          · rw [if_neg hcl]
            simp only [add_plain]
            refine part_rep hok (by omega) (fun htt' => ?_) hc hr
            have : m = hh' := by simpa using htt'
            omega
    · rename_i s zz off len
      simp only [Option.bind_eq_some_iff] at h
      obtain ⟨l, el, hh', eh, h⟩ := h
      split at h <;> cases h
      rename_i hb
      obtain ⟨b1, b2, rfl, hn⟩ := hb
      cases hm with
      | some => cases hn
      | none =>
        cases hx with
        | own0 _ _ _ a =>
          have h1 : hh' = 0 := by omega
          have h2 : l = 0 := by omega
          subst h1; subst h2
          exact ⟨_, by simp [Instr.sliceAt, Instr.slice, run_underlying hu, run_size hz, run_bounds2 (P := P) (isS := true) hl hh el eh b1 b2 (Nat.le_refl _)] <;> rfl, by simpa using .own0 _ _ _ a⟩
        | own _ _ _ _ b o cap hη hl' hc =>
          refine ⟨_, by simp [Instr.sliceAt, Instr.slice, run_underlying hu, run_size hz, run_bounds2 (P := P) (isS := true) hl hh el eh b1 b2 hl'] <;> rfl, ?_⟩
          by_cases hcl : cap = l
          · rw [if_pos hcl, show hh' - l = 0 by omega, show cap - l = 0 by omega]
            exact .own0 _ _ _ _
          · rw [if_neg hcl]
            simp only [add_plain]
            rw [show o + off + l * zz = o + (off + l * zz) by omega]
            refine .own _ _ _ _ b o (cap - l) hη (by omega) ?_
            have : l * zz + (cap - l) * zz = cap * zz := by rw [← Nat.add_mul]; congr 1; omega
            omega
    · cases h
  · cases ht
end
end Go.Proofs.Ytdceakejbnolpaa.Sv
