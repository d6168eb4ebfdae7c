/- What the operations that only read do on abstract values, and that the model does the same. No condition. -/
import Derived.Test.YtdceakejbnolpaaSv1
namespace Go.Proofs.Ytdceakejbnolpaa.Sv
open Go Go.RowKit
set_option linter.unusedVariables false
set_option linter.unusedSimpArgs false

def V.one : V → Bool
  | .agg _ | .tup _ => false
  | _ => true
def V.cells : V → List V
  | .agg xs => xs
  | v => [v]
theorem add_plain (b o n : Nat) : (⟨b, o, none⟩ : Addr).add n = ⟨b, o + n, none⟩ := by
  unfold Addr.add
  split
  · rename_i h; subst h; rfl
  · rfl

def szOf (P : Program) (t : TypeId) : Option Nat := (P.info? t).map (·.size)
def bytesOf' (P : Program) (t : TypeId) : Option Nat := (P.info? t).map (·.bytes)
def aggOf (P : Program) (t : TypeId) : Option Bool := (P.underlying t).map fun | .struct _ | .array _ _ => true | _ => false
theorem run_info {P : Program} {t : TypeId} {i : TypeInfo} (h : P.info? t = some i) (w : World) : (typeInfo t).run P w = .ok i w := by simp [typeInfo, h]
theorem run_size {P : Program} {t : TypeId} {z : Nat} (h : szOf P t = some z) (w : World) : (sizeOf t).run P w = .ok z w := by
  simp only [szOf, Option.map_eq_some_iff] at h
  obtain ⟨i, hi, rfl⟩ := h
  simp [sizeOf, run_info hi]
theorem run_agg {P : Program} {t : TypeId} {g : Bool} (h : aggOf P t = some g) (w : World) : (isAgg t).run P w = .ok g w := by
  simp only [aggOf, Option.map_eq_some_iff] at h
  obtain ⟨d, hd, hg⟩ := h
  simp only [isAgg, Sem.run_bind, run_underlying hd, Result.andThen_ok]
  subst hg
  cases d <;> rfl

section
variable {P : Program} {w : World} {ok : Nat → Prop}
/-- Cells that lie in a row, as a list. -/
theorem lies_list (b : Nat) : ∀ (cs : List V) (o : Nat), (∀ (i : Nat) v, cs[i]? = some v → ∃ x, w.cell? ⟨b, o + i, none⟩ = some x ∧ RepV w ok v x) →
    ∃ us, RepL w ok cs us ∧ ∀ (j : Nat) u, us[j]? = some u → w.cell? ((⟨b, o, none⟩ : Addr).add j) = some u
  | [], o, _ => ⟨[], .nil, fun j u h => by simp at h⟩
  | c :: cs, o, h => by
    obtain ⟨x, hx, hv⟩ := h 0 c rfl
    obtain ⟨us, h1, h2⟩ := lies_list b cs (o + 1) (fun i v hi => by
      have := h (i + 1) v (by simpa using hi)
      rwa [show o + (i + 1) = o + 1 + i by omega] at this)
    refine ⟨x :: us, .cons hv h1, fun j u hj => ?_⟩
    cases j with
    | zero => simp at hj; subst hj; rw [add_plain]; exact hx
    | succ j =>
      have := h2 j u (by simpa using hj)
      rw [add_plain] at this ⊢
      rwa [show o + (j + 1) = o + 1 + j by omega]
theorem run_loadVar_agg {t : TypeId} {b o z : Nat} {cs : List V} (hg : aggOf P t = some true) (hz : szOf P t = some z) (hl : z ≤ cs.length)
    (h : ∀ (i : Nat) v, cs[i]? = some v → ∃ x, w.cell? ⟨b, o + i, none⟩ = some x ∧ RepV w ok v x) :
    ∃ u, (loadVar t ⟨b, o, none⟩).run P w = .ok u w ∧ RepV w ok (.agg (cs.take z)) u := by
  obtain ⟨us, h1, h2⟩ := lies_list (ok := ok) b (cs.take z) o (fun i v hi => by
    rw [List.getElem?_take] at hi
    split at hi
    · exact h i v hi
    · cases hi)
  have hlen : us.length = z := by rw [h1.1]; simp; omega
  have := run_loadCells_list (P := P) w ⟨b, o, none⟩ us h2
  rw [hlen] at this
  exact ⟨.agg us.toArray, by simp [loadVar, run_agg hg, run_size hz, this], h1.agg⟩
theorem run_loadVar_one {t : TypeId} {b o : Nat} {v : V} {x : Value} (hg : aggOf P t = some false) (h : w.cell? ⟨b, o, none⟩ = some x) : (loadVar t ⟨b, o, none⟩).run P w = .ok x w := by
  simp [loadVar, run_agg hg, h]
end

/-- What a pointer leads to: the cells from there on. -/
def deref (objs : List (Nat × List V)) : D → Option (List V)
  | .v (.ip cells) => some cells
  | .ref s off => (look objs s).map (·.drop off)
  | _ => none
def ldD (g : Bool) (z : Nat) (cs : List V) : Option D :=
  if g then (if z ≤ cs.length then some (.v (.agg (cs.take z))) else none) else cs[0]?.map .v

section
variable {P : Program} {w w0 : World} {U E : Nat → Prop} {nt : Nat} {st : St} {a : Act} {η : Eta}
theorem RepO.lies {ok : Nat → Prop} {s b o off : Nat} {cs : List V} (h : RepO w ok η s cs) (hη : η s = some (b, o)) (i : Nat) (v : V) (hi : (cs.drop off)[i]? = some v) :
    ∃ x, w.cell? ⟨b, o + off + i, none⟩ = some x ∧ RepV w ok v x := by
  unfold RepO at h
  rw [hη] at h
  obtain ⟨c, e, fr, h1, h2, h3, h4⟩ := h
  rw [List.getElem?_drop] at hi
  have hlt := (List.getElem?_eq_some_iff.1 hi).1
  have hr := h4 _ v hi
  refine ⟨_, ?_, hr⟩
  have hsz : o + (off + i) < c.size := by omega
  simp only [World.cell?, h1, Option.isSome_none, Bool.false_eq_true, if_false]
  rw [show o + off + i = o + (off + i) by omega]
  simp [Array.getElem?_eq_getElem hsz, Array.getD, hsz]
theorem deref_lies (hrel : Rel w0 U E nt st a w η) {d : D} {u : Value} (hd : RepD w (Ok U st.objs η w) η d u) {cs : List V} (h : deref st.objs d = some cs) (hne : cs ≠ []) :
    ∃ b o, u = .pointer (some ⟨b, o, none⟩) ∧ ∀ (i : Nat) v, cs[i]? = some v → ∃ x, w.cell? ⟨b, o + i, none⟩ = some x ∧ RepV w (Ok U st.objs η w) v x := by
  cases hd with
  | v x u hx =>
    cases x <;> simp only [deref] at h <;> try cases h
    cases hx with
    | ip _ us bl off hok hc hr => exact ⟨bl, off, rfl, fun i v hi => ⟨us i, hc i v hi, hr i v hi⟩⟩
  | ref s off b o hη =>
    simp only [deref, Option.map_eq_some_iff] at h
    obtain ⟨cs', h', rfl⟩ := h
    exact ⟨b, o + off, rfl, fun i v hi => (hrel.objs s cs' h').lies hη i v hi⟩
  | own0 => simp [deref] at h
  | own => simp [deref] at h
  | dead => simp [deref] at h
theorem ld_sound (hrel : Rel w0 U E nt st a w η) {d d' : D} {u : Value} (hd : RepD w (Ok U st.objs η w) η d u) {t : TypeId} {g : Bool} {z : Nat}
    (h : (deref st.objs d).bind (ldD g z) = some d') (hg : aggOf P t = some g) (hz : szOf P t = some z) (hz0 : z ≠ 0) :
    ∃ u', (Instr.loadAt t u).run P w = .ok u' w ∧ RepD w (Ok U st.objs η w) η d' u' := by
  simp only [Option.bind_eq_some_iff] at h
  obtain ⟨cs, hcs, h⟩ := h
  unfold ldD at h
  cases g with
  | true =>
    simp only [if_true] at h
    split at h
    · rename_i hl
      have hne : cs ≠ [] := by rintro rfl; simp at hl; exact hz0 hl
      obtain ⟨b, o, rfl, hlies⟩ := deref_lies hrel hd hcs hne
      obtain ⟨u', h1, h2⟩ := run_loadVar_agg hg hz hl hlies
      cases h
      exact ⟨u', by simpa [Instr.loadAt, Instr.sureAddr] using h1, .v _ _ h2⟩
    · cases h
  | false =>
    simp only [Bool.false_eq_true, if_false, Option.map_eq_some_iff] at h
    obtain ⟨v, hv, rfl⟩ := h
    have hne : cs ≠ [] := by rintro rfl; simp at hv
    obtain ⟨b, o, rfl, hlies⟩ := deref_lies hrel hd hcs hne
    obtain ⟨x, hx, hr⟩ := hlies 0 v hv
    refine ⟨x, ?_, .v _ _ hr⟩
    simp only [Instr.loadAt, Instr.sureAddr, Sem.run_bind, Sem.run_pure, Result.andThen_ok]
    exact run_loadVar_one (v := v) hg hx
/-- A pointer moved on by some cells. -/
def faD (off : Nat) : D → Option D
  | .v (.ip cells) => some (.v (.ip (cells.drop off)))
  | .ref s o => some (.ref s (o + off))
  | _ => none
theorem ip_drop {ok : Nat → Prop} {cells : List V} {us : Nat → Value} {bl off n : Nat} (hok : ok bl)
    (hc : ∀ (i : Nat) v, cells[i]? = some v → w.cell? ⟨bl, off + i, none⟩ = some (us i)) (hr : ∀ (i : Nat) v, cells[i]? = some v → RepV w ok v (us i)) :
    RepV w ok (.ip (cells.drop n)) (.pointer (some ⟨bl, off + n, none⟩)) :=
  .ip _ (fun i => us (n + i)) bl (off + n) hok (fun i v hi => by
    rw [List.getElem?_drop] at hi
    rw [show off + n + i = off + (n + i) by omega]
    exact hc _ v hi) (fun i v hi => by rw [List.getElem?_drop] at hi; exact hr _ v hi)
theorem faD_rep {ok : Nat → Prop} {off : Nat} {d d' : D} {u : Value} (hd : RepD w ok η d u) (h : faD off d = some d') :
    ∃ b o, u = .pointer (some ⟨b, o, none⟩) ∧ RepD w ok η d' (.pointer (some ⟨b, o + off, none⟩)) := by
  cases hd with
  | v x u hx =>
    cases x <;> simp only [faD] at h <;> try cases h
    cases hx with
    | ip _ us bl o hok hc hr => exact ⟨bl, o, rfl, .v _ _ (ip_drop hok hc hr)⟩
  | ref s o' b o hη => cases h; exact ⟨b, o + o', rfl, by rw [Nat.add_assoc]; exact .ref s (o' + off) b o hη⟩
  | own0 => cases h
  | own => cases h
  | dead => cases h
/-- fieldAddr, of a field that is not empty -/
def foffOf (P : Program) (t : TypeId) (f : Nat) : Option Nat :=
  match P.underlying t with
  | some (.struct fs) => match fs[f]? with
    | some x => match szOf P x.type with
      | some (_ + 1) => some x.offset
      | _ => none
    | none => none
  | _ => none
theorem fa_sound {ok : Nat → Prop} {t : TypeId} {f off : Nat} {d d' : D} {u : Value} (hd : RepD w ok η d u) (h : faD off d = some d') (ho : foffOf P t f = some off) :
    ∃ u', (Instr.fieldAt t u f).run P w = .ok u' w ∧ RepD w ok η d' u' := by
  obtain ⟨b, o, rfl, hr⟩ := faD_rep hd h
  unfold foffOf at ho
  split at ho
  · rename_i fs hu
    split at ho
    · rename_i x hx
      split at ho
      · rename_i z hz
        cases ho
        refine ⟨_, ?_, hr⟩
        simp [Instr.fieldAt, run_underlying hu, hx, Instr.sureAddr, fieldPlace, run_size hz, add_plain]
      · cases ho
    · cases ho
  · cases ho
end
end Go.Proofs.Ytdceakejbnolpaa.Sv
