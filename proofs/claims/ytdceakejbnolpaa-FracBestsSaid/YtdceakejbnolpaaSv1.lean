/- The abstract values and states by which functions of the program are followed, and how the model's memory holds them. No condition. -/
import Derived.WalkKit
import Derived.Below
import Derived.Orders
namespace Go.Proofs.Ytdceakejbnolpaa.Sv
open Go Go.RowKit
set_option linter.unusedVariables false
set_option linter.unusedSimpArgs false

/-- A value by itself: slices and pointers to what nobody writes any more read as what lies there. -/
inductive V where
  | b (x : Bool)
  | n (k : IntKind) (x : Int)
  | s (x : ByteArray)
  | nilp
  | ip (cells : List V)
  | sl (len : Nat) (cells : List V) (tight : Bool)
  | agg (xs : List V)
  | tup (xs : List V)
  | clo (fn : Fn) (first cap : List V)
  | nilf
  | ifc (t : TypeId) (x : V)
  | nili
  deriving Inhabited

/-- The model's value u, in the world w, holds v; what it leads to lies in blocks that meet ok. -/
inductive RepV (w : World) (ok : Nat → Prop) : V → Value → Prop
  | b (x : Bool) : RepV w ok (.b x) (.bool x)
  | n (k : IntKind) (x : Int) : RepV w ok (.n k x) (.int k x)
  | s (x : ByteArray) : RepV w ok (.s x) (.string x)
  | nilp : RepV w ok .nilp (.pointer none)
  | ip (cells : List V) (us : Nat → Value) (bl off : Nat) (hok : ok bl)
      (hc : ∀ (i : Nat) v, cells[i]? = some v → w.cell? ⟨bl, off + i, none⟩ = some (us i))
      (hr : ∀ (i : Nat) v, cells[i]? = some v → RepV w ok v (us i)) : RepV w ok (.ip cells) (.pointer (some ⟨bl, off, none⟩))
  | sl0 (t : Bool) (a : Option Addr) : RepV w ok (.sl 0 [] t) (.slice a 0 0)
  | sl (len : Nat) (cells : List V) (t : Bool) (us : Nat → Value) (bl off cap : Nat) (hok : ok bl) (hl : len ≤ cap) (ht : t = true → cap = len)
      (hc : ∀ (i : Nat) v, cells[i]? = some v → w.cell? ⟨bl, off + i, none⟩ = some (us i))
      (hr : ∀ (i : Nat) v, cells[i]? = some v → RepV w ok v (us i)) : RepV w ok (.sl len cells t) (.slice (some ⟨bl, off, none⟩) len cap)
  | agg (xs : List V) (us : Array Value) (hl : us.size = xs.length) (hr : ∀ (i : Nat) v, xs[i]? = some v → RepV w ok v (us.getD i undef)) : RepV w ok (.agg xs) (.agg us)
  | tup (xs : List V) (us : Array Value) (hl : us.size = xs.length) (hr : ∀ (i : Nat) v, xs[i]? = some v → RepV w ok v (us.getD i undef)) : RepV w ok (.tup xs) (.tuple us)
  | clo (fn : Fn) (first cap : List V) (fs cs : Array Value) (hl : fs.size = first.length) (hl' : cs.size = cap.length)
      (hr : ∀ (i : Nat) v, first[i]? = some v → RepV w ok v (fs.getD i undef)) (hr' : ∀ (i : Nat) v, cap[i]? = some v → RepV w ok v (cs.getD i undef)) :
      RepV w ok (.clo fn first cap) (.func fn fs cs)
  | nilf : RepV w ok .nilf .nilFunc
  | ifc (t : TypeId) (v : V) (u : Value) (h : RepV w ok v u) : RepV w ok (.ifc t v) (.iface t u)
  | nili : RepV w ok .nili .nilIface

theorem cell_same {w w' : World} {b o : Nat} (h : w'.heap[b]? = w.heap[b]?) : w'.cell? ⟨b, o, none⟩ = w.cell? ⟨b, o, none⟩ := by
  simp only [World.cell?, h]

theorem RepV.mono {w w' : World} {ok ok' : Nat → Prop} (h : ∀ b, ok b → ok' b ∧ w'.heap[b]? = w.heap[b]?) {v : V} {u : Value} (hr : RepV w ok v u) : RepV w' ok' v u := by
  induction hr with
  | b x => exact .b x
  | n k x => exact .n k x
  | s x => exact .s x
  | nilp => exact .nilp
  | ip cells us bl off hok hc hr ih => exact .ip cells us bl off (h _ hok).1 (fun i v hi => by rw [cell_same (h _ hok).2]; exact hc i v hi) ih
  | sl0 t a => exact .sl0 t a
  | sl len cells t us bl off cap hok hl ht hc hr ih => exact .sl len cells t us bl off cap (h _ hok).1 hl ht (fun i v hi => by rw [cell_same (h _ hok).2]; exact hc i v hi) ih
  | agg xs us hl hr ih => exact .agg xs us hl ih
  | tup xs us hl hr ih => exact .tup xs us hl ih
  | clo fn first cap fs cs hl hl' hr hr' ih ih' => exact .clo fn first cap fs cs hl hl' ih ih'
  | nilf => exact .nilf
  | ifc t v u h ih => exact .ifc t v u ih
  | nili => exact .nili

/-- Values one by one. -/
def RepL (w : World) (ok : Nat → Prop) (vs : List V) (us : List Value) : Prop :=
  us.length = vs.length ∧ ∀ (i : Nat) v, vs[i]? = some v → ∃ u, us[i]? = some u ∧ RepV w ok v u

theorem RepL.nil {w : World} {ok : Nat → Prop} : RepL w ok [] [] := ⟨rfl, fun i v h => by simp at h⟩
theorem RepL.cons {w : World} {ok : Nat → Prop} {v : V} {vs : List V} {u : Value} {us : List Value} (h : RepV w ok v u) (hs : RepL w ok vs us) : RepL w ok (v :: vs) (u :: us) := by
  refine ⟨by simp [hs.1], fun i x hx => ?_⟩
  cases i with
  | zero => simp at hx; subst hx; exact ⟨u, rfl, h⟩
  | succ i => simp at hx; simpa using hs.2 i x hx
theorem RepL.head {w : World} {ok : Nat → Prop} {v : V} {vs : List V} {us : List Value} (h : RepL w ok (v :: vs) us) : ∃ u us', us = u :: us' ∧ RepV w ok v u ∧ RepL w ok vs us' := by
  cases us with
  | nil => simp [RepL] at h
  | cons u us =>
    obtain ⟨hl, hr⟩ := h
    obtain ⟨u', hu, hv⟩ := hr 0 v rfl
    simp at hu
    subst hu
    exact ⟨u, us, rfl, hv, by simpa using hl, fun i x hx => by simpa using hr (i + 1) x (by simpa using hx)⟩
theorem RepL.mono {w w' : World} {ok ok' : Nat → Prop} (h : ∀ b, ok b → ok' b ∧ w'.heap[b]? = w.heap[b]?) {vs : List V} {us : List Value} (hr : RepL w ok vs us) : RepL w' ok' vs us :=
  ⟨hr.1, fun i v hv => let ⟨u, hu, hr⟩ := hr.2 i v hv; ⟨u, hu, hr.mono h⟩⟩
theorem RepL.of_array {w : World} {ok : Nat → Prop} {xs : List V} {us : Array Value} (hl : us.size = xs.length) (hr : ∀ (i : Nat) v, xs[i]? = some v → RepV w ok v (us.getD i undef)) : RepL w ok xs us.toList := by
  refine ⟨by simpa using hl, fun i v hv => ?_⟩
  have hi : i < us.size := by
    have := (List.getElem?_eq_some_iff.1 hv).1
    omega
  exact ⟨us.getD i undef, by simp [hi, Array.getD], hr i v hv⟩
theorem RepL.to_array {w : World} {ok : Nat → Prop} {xs : List V} {us : List Value} (h : RepL w ok xs us) : us.toArray.size = xs.length ∧ ∀ (i : Nat) v, xs[i]? = some v → RepV w ok v (us.toArray.getD i undef) := by
  refine ⟨by simpa using h.1, fun i v hv => ?_⟩
  obtain ⟨u, hu, hr⟩ := h.2 i v hv
  have : us.toArray.getD i undef = u := by simp [hu]
  rw [this]; exact hr
theorem RepL.agg {w : World} {ok : Nat → Prop} {xs : List V} {us : List Value} (h : RepL w ok xs us) : RepV w ok (.agg xs) (.agg us.toArray) := .agg xs us.toArray h.to_array.1 h.to_array.2
theorem RepL.tup {w : World} {ok : Nat → Prop} {xs : List V} {us : List Value} (h : RepL w ok xs us) : RepV w ok (.tup xs) (.tuple us.toArray) := .tup xs us.toArray h.to_array.1 h.to_array.2
theorem RepL.append {w : World} {ok : Nat → Prop} {xs ys : List V} {us vs : List Value} (h : RepL w ok xs us) (h' : RepL w ok ys vs) : RepL w ok (xs ++ ys) (us ++ vs) := by
  refine ⟨by simp [h.1, h'.1], fun i v hv => ?_⟩
  rw [List.getElem?_append] at hv
  split at hv
  · rename_i hi
    obtain ⟨u, hu, hr⟩ := h.2 i v hv
    exact ⟨u, by rw [List.getElem?_append_left (by rw [h.1]; exact hi)]; exact hu, hr⟩
  · rename_i hi
    obtain ⟨u, hu, hr⟩ := h'.2 _ v hv
    exact ⟨u, by rw [List.getElem?_append_right (by rw [h.1]; omega), h.1]; exact hu, hr⟩
theorem RepL.drop {w : World} {ok : Nat → Prop} {xs : List V} {us : List Value} (h : RepL w ok xs us) (n : Nat) : RepL w ok (xs.drop n) (us.drop n) :=
  ⟨by simp [h.1], fun i v hv => by simpa using h.2 (n + i) v (by simpa using hv)⟩
theorem RepL.take {w : World} {ok : Nat → Prop} {xs : List V} {us : List Value} (h : RepL w ok xs us) (n : Nat) : RepL w ok (xs.take n) (us.take n) := by
  refine ⟨by simp [h.1], fun i v hv => ?_⟩
  rw [List.getElem?_take] at hv ⊢
  split at hv
  · rename_i hi; rw [if_pos hi]; exact h.2 i v hv
  · cases hv

/-! ### What stands in a slot -/
/-- A value, or a pointer into one of the call's own objects, or a slice over one (element size z, from cell off on, len elements). -/
inductive D where
  | v (x : V)
  | ref (s off : Nat)
  | own (s z off len : Nat)
  | dead
  deriving Inhabited
structure St where
  ρ : List (Nat × D)
  objs : List (Nat × List V)
/-- What stands at key t. -/
def look {α : Type} : List (Nat × α) → Nat → Option α
  | [], _ => none
  | (k, d) :: l, t => if t = k then some d else look l t
def rid {α : Type} (l : List (Nat × α)) (s : Nat) : List (Nat × α) := l.filter fun x => x.1 != s
theorem look_rid {α : Type} (l : List (Nat × α)) (s t : Nat) : look (rid l s) t = if t = s then none else look l t := by
  induction l with
  | nil => simp [rid, look]
  | cons x l ih =>
    obtain ⟨k, d⟩ := x
    unfold rid at ih ⊢
    by_cases hk : k = s
    · subst hk
      simp only [List.filter_cons, bne_self_eq_false, Bool.false_eq_true, if_false, ih, look]
      by_cases ht : t = k <;> simp [ht]
    · simp only [List.filter_cons, bne_iff_ne, ne_eq, hk, not_false_eq_true, if_true, look, ih]
      by_cases ht : t = k
      · subst ht; simp [hk]
      · simp [ht]

abbrev Eta := Nat → Option (Nat × Nat)
/-- Blocks that nobody writes any more. -/
def Ok (U : Nat → Prop) (objs : List (Nat × List V)) (η : Eta) (w : World) (b : Nat) : Prop :=
  b < w.heap.size ∧ ¬ U b ∧ ∀ s cs o, look objs s = some cs → η s ≠ some (b, o)
def rowSize (w : World) (b : Nat) : Nat := match w.heap[b]? with | some (.cells c _ _) => c.size | _ => 0
inductive RepD (w : World) (ok : Nat → Prop) (η : Eta) : D → Value → Prop
  | v (x : V) (u : Value) (h : RepV w ok x u) : RepD w ok η (.v x) u
  | ref (s off b o : Nat) (h : η s = some (b, o)) : RepD w ok η (.ref s off) (.pointer (some ⟨b, o + off, none⟩))
  | own0 (s z off : Nat) (a : Option Addr) : RepD w ok η (.own s z off 0) (.slice a 0 0)
  | own (s z off len b o cap : Nat) (h : η s = some (b, o)) (hl : len ≤ cap) (hc : o + off + cap * z ≤ rowSize w b) : RepD w ok η (.own s z off len) (.slice (some ⟨b, o + off, none⟩) len cap)
  | dead (u : Value) : RepD w ok η .dead u
/-- An object's cells lie there, and may be written. -/
def RepO (w : World) (ok : Nat → Prop) (η : Eta) (s : Nat) (cs : List V) : Prop :=
  match η s with
  | none => cs = []
  | some (b, o) => ∃ c e fr, w.heap[b]? = some (.cells c e fr) ∧ o + cs.length ≤ c.size ∧ (∀ i, o ≤ i → i < c.size → ¬ (fr.1 ≤ i ∧ i < fr.2)) ∧
      ∀ (i : Nat) v, cs[i]? = some v → RepV w ok v (c.getD (o + i) undef)
/-- Of what was there when the call began nothing has turned, but for blocks of E. -/
structure Keeps (w0 : World) (E : Nat → Prop) (w : World) : Prop where
  os : w.os = w0.os
  tape : w.tape = w0.tape
  output : w.output = w0.output
  size : w0.heap.size ≤ w.heap.size
  block : ∀ k, k < w0.heap.size → ¬ E k → w.heap[k]? = w0.heap[k]?
  row : ∀ k, k < w0.heap.size → rowSize w k = rowSize w0 k
structure Rel (w0 : World) (U E : Nat → Prop) (nt : Nat) (st : St) (a : Act) (w : World) (η : Eta) : Prop where
  size : a.tmps.size = nt
  defers : a.defers = []
  keeps : Keeps w0 E w
  uold : ∀ b, U b → b < w0.heap.size ∧ ¬ E b
  slots : ∀ t d, look st.ρ t = some d → t < nt ∧ RepD w (Ok U st.objs η w) η d (a.tmps.getD t undef)
  objs : ∀ s cs, look st.objs s = some cs → RepO w (Ok U st.objs η w) η s cs
  lies : ∀ s cs b o, look st.objs s = some cs → η s = some (b, o) → (w0.heap.size ≤ b ∨ E b) ∧ b < w.heap.size
  inj : ∀ s s' cs cs' b o o', look st.objs s = some cs → look st.objs s' = some cs' → η s = some (b, o) → η s' = some (b, o') → s = s'
def RelX (w0 : World) (U E : Nat → Prop) (nt : Nat) (st : St) (a : Act) (w : World) : Prop := ∃ η, Rel w0 U E nt st a w η

theorem Keeps.below {w0 w w' : World} {E : Nat → Prop} (h : Keeps w0 E w) (hb : Below w.heap.size w w') : Keeps w0 E w' :=
  ⟨hb.os.trans h.os, hb.tape.trans h.tape, hb.output.trans h.output, Nat.le_trans h.size hb.size, fun k hk hE => (hb.block k (Nat.lt_of_lt_of_le hk h.size)).trans (h.block k hk hE), fun k hk => by
    have := h.row k hk
    simp only [rowSize, hb.block k (Nat.lt_of_lt_of_le hk h.size)] at this ⊢
    exact this⟩
theorem rowSize_below {w w' : World} (h : Below w.heap.size w w') {b : Nat} (hb : b < w.heap.size) : rowSize w' b = rowSize w b := by
  simp only [rowSize, h.block b hb]
theorem Ok.below {U : Nat → Prop} {objs : List (Nat × List V)} {η : Eta} {w w' : World} (h : Below w.heap.size w w') {b : Nat} (hb : Ok U objs η w b) :
    Ok U objs η w' b ∧ w'.heap[b]? = w.heap[b]? := ⟨⟨Nat.lt_of_lt_of_le hb.1 h.size, hb.2⟩, h.block b hb.1⟩
theorem rowSize_pos {w : World} {b : Nat} (h : w.heap.size ≤ b) : rowSize w b = 0 := by simp [rowSize, Array.getElem?_eq_none h]
theorem RepD.below {U : Nat → Prop} {objs : List (Nat × List V)} {η : Eta} {w w' : World} (h : Below w.heap.size w w') {d : D} {u : Value}
    (hr : RepD w (Ok U objs η w) η d u) : RepD w' (Ok U objs η w') η d u := by
  cases hr with
  | v x u h' => exact .v x u (h'.mono fun b hb => hb.below h)
  | ref s off b o h' => exact .ref s off b o h'
  | own0 s z off a => exact .own0 s z off a
  | own s z off len b o cap h' hl' hc =>
    refine .own s z off len b o cap h' hl' ?_
    rcases Nat.lt_or_ge b w.heap.size with hb | hb
    · rw [rowSize_below h hb]; exact hc
    · rw [rowSize_pos hb] at hc; omega
  | dead u => exact .dead u
theorem RepO.below {U : Nat → Prop} {objs : List (Nat × List V)} {η : Eta} {w w' : World} (h : Below w.heap.size w w') {s : Nat} {cs : List V}
    (hr : RepO w (Ok U objs η w) η s cs) : RepO w' (Ok U objs η w') η s cs := by
  unfold RepO at hr ⊢
  cases hη : η s with
  | none => rw [hη] at hr; exact hr
  | some bo =>
    obtain ⟨b, o⟩ := bo
    rw [hη] at hr
    obtain ⟨c, e, fr, h1, h2, h3, h4⟩ := hr
    have hb : b < w.heap.size := by
      rcases Nat.lt_or_ge b w.heap.size with h' | h'
      · exact h'
      · simp [Array.getElem?_eq_none h'] at h1
    exact ⟨c, e, fr, by rw [h.block b hb]; exact h1, h2, h3, fun i v hv => (h4 i v hv).mono fun b hb => hb.below h⟩
end Go.Proofs.Ytdceakejbnolpaa.Sv
