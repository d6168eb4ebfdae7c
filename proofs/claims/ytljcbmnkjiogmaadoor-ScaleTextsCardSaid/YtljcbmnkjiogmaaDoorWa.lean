/- The abstract values and states by which functions of the program are followed, and how the model's memory holds them. No condition. -/
import Derived.WalkKit
import Derived.Below
import Derived.Orders
import Derived.Laws.Slices
import Derived.Laws.Strings
import Derived.Laws.StructEq
import Derived.Great.BuildSlice
import Derived.Laws.IdiomStrings
import Derived.Laws.AppendOwn
/-! The abstract values and states by which functions of the program are followed, and how the model's memory holds them. -/
namespace Go.Proofs.YtljcbmnkjiogmaaDoor.Sv
open Go Go.RowKit
set_option linter.unusedVariables false
set_option linter.unusedSimpArgs false

/-- A value by itself: slices and pointers to what nobody writes any more read as what lies there. -/
inductive V where
  | b (x : Bool)
  | n (k : IntKind) (x : Int)
  | s (x : ByteArray)
  | nilp
  | ip (cells : List V)
  | sl (len : Nat) (cells : List V) (tight : Bool)
  | agg (xs : List V)
  | tup (xs : List V)
  | clo (fn : Fn) (first cap : List V)
  | nilf
  | ifc (t : TypeId) (x : V)
  | nili
  deriving Inhabited

/-- The model's value u, in the world w, holds v; what it leads to lies in blocks that meet ok. -/
inductive RepV (w : World) (ok : Nat → Prop) : V → Value → Prop
  | b (x : Bool) : RepV w ok (.b x) (.bool x)
  | n (k : IntKind) (x : Int) : RepV w ok (.n k x) (.int k x)
  | s (x : ByteArray) : RepV w ok (.s x) (.string x)
  | nilp : RepV w ok .nilp (.pointer none)
  | ip (cells : List V) (us : Nat → Value) (bl off : Nat) (hok : ok bl)
      (hc : ∀ (i : Nat) v, cells[i]? = some v → w.cell? ⟨bl, off + i, none⟩ = some (us i))
      (hr : ∀ (i : Nat) v, cells[i]? = some v → RepV w ok v (us i)) : RepV w ok (.ip cells) (.pointer (some ⟨bl, off, none⟩))
  | sl0 (t : Bool) (a : Option Addr) : RepV w ok (.sl 0 [] t) (.slice a 0 0)
  | sl (len : Nat) (cells : List V) (t : Bool) (us : Nat → Value) (bl off cap : Nat) (hok : ok bl) (hl : len ≤ cap) (ht : t = true → cap = len)
      (hc : ∀ (i : Nat) v, cells[i]? = some v → w.cell? ⟨bl, off + i, none⟩ = some (us i))
      (hr : ∀ (i : Nat) v, cells[i]? = some v → RepV w ok v (us i)) : RepV w ok (.sl len cells t) (.slice (some ⟨bl, off, none⟩) len cap)
  | agg (xs : List V) (us : Array Value) (hl : us.size = xs.length) (hr : ∀ (i : Nat) v, xs[i]? = some v → RepV w ok v (us.getD i undef)) : RepV w ok (.agg xs) (.agg us)
  | tup (xs : List V) (us : Array Value) (hl : us.size = xs.length) (hr : ∀ (i : Nat) v, xs[i]? = some v → RepV w ok v (us.getD i undef)) : RepV w ok (.tup xs) (.tuple us)
  | clo (fn : Fn) (first cap : List V) (fs cs : Array Value) (hl : fs.size = first.length) (hl' : cs.size = cap.length)
      (hr : ∀ (i : Nat) v, first[i]? = some v → RepV w ok v (fs.getD i undef)) (hr' : ∀ (i : Nat) v, cap[i]? = some v → RepV w ok v (cs.getD i undef)) :
      RepV w ok (.clo fn first cap) (.func fn fs cs)
  | nilf : RepV w ok .nilf .nilFunc
  | ifc (t : TypeId) (v : V) (u : Value) (h : RepV w ok v u) : RepV w ok (.ifc t v) (.iface t u)
  | nili : RepV w ok .nili .nilIface

theorem cell_same {w w' : World} {b o : Nat} (h : w'.heap[b]? = w.heap[b]?) : w'.cell? ⟨b, o, none⟩ = w.cell? ⟨b, o, none⟩ := by
  simp only [World.cell?, h]

theorem RepV.mono {w w' : World} {ok ok' : Nat → Prop} (h : ∀ b, ok b → ok' b ∧ w'.heap[b]? = w.heap[b]?) {v : V} {u : Value} (hr : RepV w ok v u) : RepV w' ok' v u := by
  induction hr with
  | b x => exact .b x
  | n k x => exact .n k x
  | s x => exact .s x
  | nilp => exact .nilp
  | ip cells us bl off hok hc hr ih => exact .ip cells us bl off (h _ hok).1 (fun i v hi => by rw [cell_same (h _ hok).2]; exact hc i v hi) ih
  | sl0 t a => exact .sl0 t a
  | sl len cells t us bl off cap hok hl ht hc hr ih => exact .sl len cells t us bl off cap (h _ hok).1 hl ht (fun i v hi => by rw [cell_same (h _ hok).2]; exact hc i v hi) ih
  | agg xs us hl hr ih => exact .agg xs us hl ih
  | tup xs us hl hr ih => exact .tup xs us hl ih
  | clo fn first cap fs cs hl hl' hr hr' ih ih' => exact .clo fn first cap fs cs hl hl' ih ih'
  | nilf => exact .nilf
  | ifc t v u h ih => exact .ifc t v u ih
  | nili => exact .nili

/-- Values one by one. -/
def RepL (w : World) (ok : Nat → Prop) (vs : List V) (us : List Value) : Prop :=
  us.length = vs.length ∧ ∀ (i : Nat) v, vs[i]? = some v → ∃ u, us[i]? = some u ∧ RepV w ok v u

theorem RepL.nil {w : World} {ok : Nat → Prop} : RepL w ok [] [] := ⟨rfl, fun i v h => by simp at h⟩
theorem RepL.cons {w : World} {ok : Nat → Prop} {v : V} {vs : List V} {u : Value} {us : List Value} (h : RepV w ok v u) (hs : RepL w ok vs us) : RepL w ok (v :: vs) (u :: us) := by
  refine ⟨by simp [hs.1], fun i x hx => ?_⟩
  cases i with
  | zero => simp at hx; subst hx; exact ⟨u, rfl, h⟩
  | succ i => simp at hx; simpa using hs.2 i x hx
theorem RepL.head {w : World} {ok : Nat → Prop} {v : V} {vs : List V} {us : List Value} (h : RepL w ok (v :: vs) us) : ∃ u us', us = u :: us' ∧ RepV w ok v u ∧ RepL w ok vs us' := by
  cases us with
  | nil => simp [RepL] at h
  | cons u us =>
    obtain ⟨hl, hr⟩ := h
    obtain ⟨u', hu, hv⟩ := hr 0 v rfl
    simp at hu
    subst hu
    exact ⟨u, us, rfl, hv, by simpa using hl, fun i x hx => by simpa using hr (i + 1) x (by simpa using hx)⟩
theorem RepL.mono {w w' : World} {ok ok' : Nat → Prop} (h : ∀ b, ok b → ok' b ∧ w'.heap[b]? = w.heap[b]?) {vs : List V} {us : List Value} (hr : RepL w ok vs us) : RepL w' ok' vs us :=
  ⟨hr.1, fun i v hv => let ⟨u, hu, hr⟩ := hr.2 i v hv; ⟨u, hu, hr.mono h⟩⟩
theorem RepL.of_array {w : World} {ok : Nat → Prop} {xs : List V} {us : Array Value} (hl : us.size = xs.length) (hr : ∀ (i : Nat) v, xs[i]? = some v → RepV w ok v (us.getD i undef)) : RepL w ok xs us.toList := by
  refine ⟨by simpa using hl, fun i v hv => ?_⟩
  have hi : i < us.size := by
    have := (List.getElem?_eq_some_iff.1 hv).1
    omega
  exact ⟨us.getD i undef, by simp [hi, Array.getD], hr i v hv⟩
theorem RepL.to_array {w : World} {ok : Nat → Prop} {xs : List V} {us : List Value} (h : RepL w ok xs us) : us.toArray.size = xs.length ∧ ∀ (i : Nat) v, xs[i]? = some v → RepV w ok v (us.toArray.getD i undef) := by
  refine ⟨by simpa using h.1, fun i v hv => ?_⟩
  obtain ⟨u, hu, hr⟩ := h.2 i v hv
  have : us.toArray.getD i undef = u := by simp [hu]
  rw [this]; exact hr
theorem RepL.agg {w : World} {ok : Nat → Prop} {xs : List V} {us : List Value} (h : RepL w ok xs us) : RepV w ok (.agg xs) (.agg us.toArray) := .agg xs us.toArray h.to_array.1 h.to_array.2
theorem RepL.tup {w : World} {ok : Nat → Prop} {xs : List V} {us : List Value} (h : RepL w ok xs us) : RepV w ok (.tup xs) (.tuple us.toArray) := .tup xs us.toArray h.to_array.1 h.to_array.2
theorem RepL.append {w : World} {ok : Nat → Prop} {xs ys : List V} {us vs : List Value} (h : RepL w ok xs us) (h' : RepL w ok ys vs) : RepL w ok (xs ++ ys) (us ++ vs) := by
  refine ⟨by simp [h.1, h'.1], fun i v hv => ?_⟩
  rw [List.getElem?_append] at hv
  split at hv
  · rename_i hi
    obtain ⟨u, hu, hr⟩ := h.2 i v hv
    exact ⟨u, by rw [List.getElem?_append_left (by rw [h.1]; exact hi)]; exact hu, hr⟩
  · rename_i hi
    obtain ⟨u, hu, hr⟩ := h'.2 _ v hv
    exact ⟨u, by rw [List.getElem?_append_right (by rw [h.1]; omega), h.1]; exact hu, hr⟩
theorem RepL.drop {w : World} {ok : Nat → Prop} {xs : List V} {us : List Value} (h : RepL w ok xs us) (n : Nat) : RepL w ok (xs.drop n) (us.drop n) :=
  ⟨by simp [h.1], fun i v hv => by simpa using h.2 (n + i) v (by simpa using hv)⟩
theorem RepL.take {w : World} {ok : Nat → Prop} {xs : List V} {us : List Value} (h : RepL w ok xs us) (n : Nat) : RepL w ok (xs.take n) (us.take n) := by
  refine ⟨by simp [h.1], fun i v hv => ?_⟩
  rw [List.getElem?_take] at hv ⊢
  split at hv
  · rename_i hi; rw [if_pos hi]; exact h.2 i v hv
  · cases hv

/-! ### What stands in a slot -/
/-- A value, or a pointer into one of the call's own objects, or a slice over one (element size z, from cell off on, len elements). -/
inductive D where
  | v (x : V)
  | ref (s off : Nat)
  | own (s z off len : Nat)
  | dead
  deriving Inhabited
structure St where
  ρ : List (Nat × D)
  objs : List (Nat × List V)
/-- What stands at key t. -/
def look {α : Type} : List (Nat × α) → Nat → Option α
  | [], _ => none
  | (k, d) :: l, t => if t = k then some d else look l t
def rid {α : Type} (l : List (Nat × α)) (s : Nat) : List (Nat × α) := l.filter fun x => x.1 != s
theorem look_rid {α : Type} (l : List (Nat × α)) (s t : Nat) : look (rid l s) t = if t = s then none else look l t := by
  induction l with
  | nil => simp [rid, look]
  | cons x l ih =>
    obtain ⟨k, d⟩ := x
    unfold rid at ih ⊢
    by_cases hk : k = s
    · subst hk
      simp only [List.filter_cons, bne_self_eq_false, Bool.false_eq_true, if_false, ih, look]
      by_cases ht : t = k <;> simp [ht]
    · simp only [List.filter_cons, bne_iff_ne, ne_eq, hk, not_false_eq_true, if_true, look, ih]
      by_cases ht : t = k
      · subst ht; simp [hk]
      · simp [ht]

abbrev Eta := Nat → Option (Nat × Nat)
/-- Blocks that nobody writes any more. -/
def Ok (U : Nat → Prop) (objs : List (Nat × List V)) (η : Eta) (w : World) (b : Nat) : Prop :=
  b < w.heap.size ∧ ¬ U b ∧ ∀ s cs o, look objs s = some cs → η s ≠ some (b, o)
def rowSize (w : World) (b : Nat) : Nat := match w.heap[b]? with | some (.cells c _ _) => c.size | _ => 0
inductive RepD (w : World) (ok : Nat → Prop) (η : Eta) : D → Value → Prop
  | v (x : V) (u : Value) (h : RepV w ok x u) : RepD w ok η (.v x) u
  | ref (s off b o : Nat) (h : η s = some (b, o)) : RepD w ok η (.ref s off) (.pointer (some ⟨b, o + off, none⟩))
  | own0 (s z off : Nat) (a : Option Addr) : RepD w ok η (.own s z off 0) (.slice a 0 0)
  | own (s z off len b o cap : Nat) (h : η s = some (b, o)) (hl : len ≤ cap) (hc : o + off + cap * z ≤ rowSize w b) : RepD w ok η (.own s z off len) (.slice (some ⟨b, o + off, none⟩) len cap)
  | dead (u : Value) : RepD w ok η .dead u
/-- An object's cells lie there, and may be written. -/
def frOk (fr : Nat × Nat) (n : Nat) : Prop := fr.1 = fr.2 ∨ n ≤ fr.1
theorem frOk.not {fr : Nat × Nat} {n : Nat} (h : frOk fr n) (i : Nat) (hi : i < n) : ¬ (fr.1 ≤ i ∧ i < fr.2) := by unfold frOk at h; omega
def RepO (w : World) (ok : Nat → Prop) (η : Eta) (s : Nat) (cs : List V) : Prop :=
  match η s with
  | none => cs = []
  | some (b, o) => ∃ c e fr, w.heap[b]? = some (.cells c e fr) ∧ o + cs.length ≤ c.size ∧ frOk fr c.size ∧
      ∀ (i : Nat) v, cs[i]? = some v → RepV w ok v (c.getD (o + i) undef)
/-- The package-level tables that the statement lists: block and cells. -/
def laidRows : List (Nat × Option (Array Value)) := [(0, some ((List.range 20).map fun i => Value.int .u64 ((10 ^ i : Nat) : Int)).toArray), (1, none)]
/-- What is listed of a variable: all its cells, or that it is one whole number. -/
def rowIs (c : Option (Array Value)) (cs : Array Value) : Prop := match c with
  | some c => cs = c
  | none => ∃ m, cs = #[.int .i64 m]
/-- The tables lie there. -/
def Laid (w : World) : Prop := ∀ b c, (b, c) ∈ laidRows → ∃ cs e fr, rowIs c cs ∧ w.heap[b]? = some (.cells cs e fr)
def laidB (b : Nat) : Prop := ∃ cs, (b, cs) ∈ laidRows
/-- Of what was there when the call began nothing has turned, but for blocks of E. -/
structure Keeps (w0 : World) (E : Nat → Prop) (w : World) : Prop where
  laid : Laid w0
  apart : ∀ b, E b → ¬ laidB b
  os : w.os = w0.os
  tape : w.tape = w0.tape
  output : w.output = w0.output
  size : w0.heap.size ≤ w.heap.size
  block : ∀ k, k < w0.heap.size → ¬ E k → w.heap[k]? = w0.heap[k]?
  row : ∀ k, k < w0.heap.size → rowSize w k = rowSize w0 k
structure Rel (w0 : World) (U E : Nat → Prop) (nt : Nat) (st : St) (a : Act) (w : World) (η : Eta) : Prop where
  size : a.tmps.size = nt
  defers : a.defers = []
  keeps : Keeps w0 E w
  uold : ∀ b, U b → b < w0.heap.size ∧ ¬ E b
  slots : ∀ t d, look st.ρ t = some d → t < nt ∧ RepD w (Ok U st.objs η w) η d (a.tmps.getD t undef)
  objs : ∀ s cs, look st.objs s = some cs → RepO w (Ok U st.objs η w) η s cs
  lies : ∀ s cs b o, look st.objs s = some cs → η s = some (b, o) → (w0.heap.size ≤ b ∨ E b) ∧ b < w.heap.size
  inj : ∀ s s' cs cs' b o o', look st.objs s = some cs → look st.objs s' = some cs' → η s = some (b, o) → η s' = some (b, o') → s = s'
def RelX (w0 : World) (U E : Nat → Prop) (nt : Nat) (st : St) (a : Act) (w : World) : Prop := ∃ η, Rel w0 U E nt st a w η

theorem Keeps.below {w0 w w' : World} {E : Nat → Prop} (h : Keeps w0 E w) (hb : Below w.heap.size w w') : Keeps w0 E w' :=
  ⟨h.laid, h.apart, hb.os.trans h.os, hb.tape.trans h.tape, hb.output.trans h.output, Nat.le_trans h.size hb.size, fun k hk hE => (hb.block k (Nat.lt_of_lt_of_le hk h.size)).trans (h.block k hk hE), fun k hk => by
    have := h.row k hk
    simp only [rowSize, hb.block k (Nat.lt_of_lt_of_le hk h.size)] at this ⊢
    exact this⟩
theorem Laid.lt {w : World} (h : Laid w) {b : Nat} (hb : laidB b) : b < w.heap.size := by
  obtain ⟨c, hm⟩ := hb
  obtain ⟨cs, e, fr, _, h0⟩ := h b c hm
  exact (Array.getElem?_eq_some_iff.1 h0).1
theorem Keeps.now {w0 w : World} {E : Nat → Prop} (h : Keeps w0 E w) : Laid w := fun b c hm => by
  obtain ⟨cs, e, fr, hc, h0⟩ := h.laid b c hm
  exact ⟨cs, e, fr, hc, by rw [h.block b (h.laid.lt ⟨c, hm⟩) (fun hE => h.apart b hE ⟨c, hm⟩)]; exact h0⟩
theorem rowSize_below {w w' : World} (h : Below w.heap.size w w') {b : Nat} (hb : b < w.heap.size) : rowSize w' b = rowSize w b := by
  simp only [rowSize, h.block b hb]
theorem Ok.below {U : Nat → Prop} {objs : List (Nat × List V)} {η : Eta} {w w' : World} (h : Below w.heap.size w w') {b : Nat} (hb : Ok U objs η w b) :
    Ok U objs η w' b ∧ w'.heap[b]? = w.heap[b]? := ⟨⟨Nat.lt_of_lt_of_le hb.1 h.size, hb.2⟩, h.block b hb.1⟩
theorem rowSize_pos {w : World} {b : Nat} (h : w.heap.size ≤ b) : rowSize w b = 0 := by simp [rowSize, Array.getElem?_eq_none h]
theorem RepD.below {U : Nat → Prop} {objs : List (Nat × List V)} {η : Eta} {w w' : World} (h : Below w.heap.size w w') {d : D} {u : Value}
    (hr : RepD w (Ok U objs η w) η d u) : RepD w' (Ok U objs η w') η d u := by
  cases hr with
  | v x u h' => exact .v x u (h'.mono fun b hb => hb.below h)
  | ref s off b o h' => exact .ref s off b o h'
  | own0 s z off a => exact .own0 s z off a
  | own s z off len b o cap h' hl' hc =>
    refine .own s z off len b o cap h' hl' ?_
    rcases Nat.lt_or_ge b w.heap.size with hb | hb
    · rw [rowSize_below h hb]; exact hc
    · rw [rowSize_pos hb] at hc; omega
  | dead u => exact .dead u
theorem RepO.below {U : Nat → Prop} {objs : List (Nat × List V)} {η : Eta} {w w' : World} (h : Below w.heap.size w w') {s : Nat} {cs : List V}
    (hr : RepO w (Ok U objs η w) η s cs) : RepO w' (Ok U objs η w') η s cs := by
  unfold RepO at hr ⊢
  cases hη : η s with
  | none => rw [hη] at hr; exact hr
  | some bo =>
    obtain ⟨b, o⟩ := bo
    rw [hη] at hr
    obtain ⟨c, e, fr, h1, h2, h3, h4⟩ := hr
    have hb : b < w.heap.size := by
      rcases Nat.lt_or_ge b w.heap.size with h' | h'
      · exact h'
      · simp [Array.getElem?_eq_none h'] at h1
    exact ⟨c, e, fr, by rw [h.block b hb]; exact h1, h2, h3, fun i v hv => (h4 i v hv).mono fun b hb => hb.below h⟩
end Go.Proofs.YtljcbmnkjiogmaaDoor.Sv
/-! What the operations that only read do on abstract values, and that the model does the same. -/
namespace Go.Proofs.YtljcbmnkjiogmaaDoor.Sv
open Go Go.RowKit
set_option linter.unusedVariables false
set_option linter.unusedSimpArgs false

def V.one : V → Bool
  | .agg _ | .tup _ => false
  | _ => true
def V.cells : V → List V
  | .agg xs => xs
  | v => [v]
theorem add_plain (b o n : Nat) : (⟨b, o, none⟩ : Addr).add n = ⟨b, o + n, none⟩ := by
  unfold Addr.add
  split
  · rename_i h; subst h; rfl
  · rfl

def szOf (P : Program) (t : TypeId) : Option Nat := (P.info? t).map (·.size)
def bytesOf' (P : Program) (t : TypeId) : Option Nat := (P.info? t).map (·.bytes)
def aggOf (P : Program) (t : TypeId) : Option Bool := (P.underlying t).map fun | .struct _ | .array _ _ => true | _ => false
theorem run_info {P : Program} {t : TypeId} {i : TypeInfo} (h : P.info? t = some i) (w : World) : (typeInfo t).run P w = .ok i w := by simp [typeInfo, h]
theorem run_size {P : Program} {t : TypeId} {z : Nat} (h : szOf P t = some z) (w : World) : (sizeOf t).run P w = .ok z w := by
  simp only [szOf, Option.map_eq_some_iff] at h
  obtain ⟨i, hi, rfl⟩ := h
  simp [sizeOf, run_info hi]
theorem run_agg {P : Program} {t : TypeId} {g : Bool} (h : aggOf P t = some g) (w : World) : (isAgg t).run P w = .ok g w := by
  simp only [aggOf, Option.map_eq_some_iff] at h
  obtain ⟨d, hd, hg⟩ := h
  simp only [isAgg, Sem.run_bind, run_underlying hd, Result.andThen_ok]
  subst hg
  cases d <;> rfl

section
variable {P : Program} {w : World} {ok : Nat → Prop}
/-- Cells that lie in a row, as a list. -/
theorem lies_list (b : Nat) : ∀ (cs : List V) (o : Nat), (∀ (i : Nat) v, cs[i]? = some v → ∃ x, w.cell? ⟨b, o + i, none⟩ = some x ∧ RepV w ok v x) →
    ∃ us, RepL w ok cs us ∧ ∀ (j : Nat) u, us[j]? = some u → w.cell? ((⟨b, o, none⟩ : Addr).add j) = some u
  | [], o, _ => ⟨[], .nil, fun j u h => by simp at h⟩
  | c :: cs, o, h => by
    obtain ⟨x, hx, hv⟩ := h 0 c rfl
    obtain ⟨us, h1, h2⟩ := lies_list b cs (o + 1) (fun i v hi => by
      have := h (i + 1) v (by simpa using hi)
      rwa [show o + (i + 1) = o + 1 + i by omega] at this)
    refine ⟨x :: us, .cons hv h1, fun j u hj => ?_⟩
    cases j with
    | zero => simp at hj; subst hj; rw [add_plain]; exact hx
    | succ j =>
      have := h2 j u (by simpa using hj)
      rw [add_plain] at this ⊢
      rwa [show o + (j + 1) = o + 1 + j by omega]
theorem run_loadVar_agg {t : TypeId} {b o z : Nat} {cs : List V} (hg : aggOf P t = some true) (hz : szOf P t = some z) (hl : z ≤ cs.length)
    (h : ∀ (i : Nat) v, cs[i]? = some v → ∃ x, w.cell? ⟨b, o + i, none⟩ = some x ∧ RepV w ok v x) :
    ∃ u, (loadVar t ⟨b, o, none⟩).run P w = .ok u w ∧ RepV w ok (.agg (cs.take z)) u := by
  obtain ⟨us, h1, h2⟩ := lies_list (ok := ok) b (cs.take z) o (fun i v hi => by
    rw [List.getElem?_take] at hi
    split at hi
    · exact h i v hi
    · cases hi)
  have hlen : us.length = z := by rw [h1.1]; simp; omega
  have := run_loadCells_list (P := P) w ⟨b, o, none⟩ us h2
  rw [hlen] at this
  exact ⟨.agg us.toArray, by simp [loadVar, run_agg hg, run_size hz, this], h1.agg⟩
theorem run_loadVar_one {t : TypeId} {b o : Nat} {v : V} {x : Value} (hg : aggOf P t = some false) (h : w.cell? ⟨b, o, none⟩ = some x) : (loadVar t ⟨b, o, none⟩).run P w = .ok x w := by
  simp [loadVar, run_agg hg, h]
end

/-- What a pointer leads to: the cells from there on. -/
def deref (objs : List (Nat × List V)) : D → Option (List V)
  | .v (.ip cells) => some cells
  | .ref s off => (look objs s).map (·.drop off)
  | _ => none
def ldD (g : Bool) (z : Nat) (cs : List V) : Option D :=
  if g then (if z ≤ cs.length then some (.v (.agg (cs.take z))) else none) else cs[0]?.map .v

section
variable {P : Program} {w w0 : World} {U E : Nat → Prop} {nt : Nat} {st : St} {a : Act} {η : Eta}
theorem RepO.lies {ok : Nat → Prop} {s b o off : Nat} {cs : List V} (h : RepO w ok η s cs) (hη : η s = some (b, o)) (i : Nat) (v : V) (hi : (cs.drop off)[i]? = some v) :
    ∃ x, w.cell? ⟨b, o + off + i, none⟩ = some x ∧ RepV w ok v x := by
  unfold RepO at h
  rw [hη] at h
  obtain ⟨c, e, fr, h1, h2, h3, h4⟩ := h
  rw [List.getElem?_drop] at hi
  have hlt := (List.getElem?_eq_some_iff.1 hi).1
  have hr := h4 _ v hi
  refine ⟨_, ?_, hr⟩
  have hsz : o + (off + i) < c.size := by omega
  simp only [World.cell?, h1, Option.isSome_none, Bool.false_eq_true, if_false]
  rw [show o + off + i = o + (off + i) by omega]
  simp [Array.getElem?_eq_getElem hsz, Array.getD, hsz]
theorem deref_lies (hrel : Rel w0 U E nt st a w η) {d : D} {u : Value} (hd : RepD w (Ok U st.objs η w) η d u) {cs : List V} (h : deref st.objs d = some cs) (hne : cs ≠ []) :
    ∃ b o, u = .pointer (some ⟨b, o, none⟩) ∧ ∀ (i : Nat) v, cs[i]? = some v → ∃ x, w.cell? ⟨b, o + i, none⟩ = some x ∧ RepV w (Ok U st.objs η w) v x := by
  cases hd with
  | v x u hx =>
    cases x <;> simp only [deref] at h <;> try cases h
    cases hx with
    | ip _ us bl off hok hc hr => exact ⟨bl, off, rfl, fun i v hi => ⟨us i, hc i v hi, hr i v hi⟩⟩
  | ref s off b o hη =>
    simp only [deref, Option.map_eq_some_iff] at h
    obtain ⟨cs', h', rfl⟩ := h
    exact ⟨b, o + off, rfl, fun i v hi => (hrel.objs s cs' h').lies hη i v hi⟩
  | own0 => simp [deref] at h
  | own => simp [deref] at h
  | dead => simp [deref] at h
theorem ld_sound (hrel : Rel w0 U E nt st a w η) {d d' : D} {u : Value} (hd : RepD w (Ok U st.objs η w) η d u) {t : TypeId} {g : Bool} {z : Nat}
    (h : (deref st.objs d).bind (ldD g z) = some d') (hg : aggOf P t = some g) (hz : szOf P t = some z) (hz0 : z ≠ 0) :
    ∃ u', (Instr.loadAt t u).run P w = .ok u' w ∧ RepD w (Ok U st.objs η w) η d' u' := by
  simp only [Option.bind_eq_some_iff] at h
  obtain ⟨cs, hcs, h⟩ := h
  unfold ldD at h
  cases g with
  | true =>
    simp only [if_true] at h
    split at h
    · rename_i hl
      have hne : cs ≠ [] := by rintro rfl; simp at hl; exact hz0 hl
      obtain ⟨b, o, rfl, hlies⟩ := deref_lies hrel hd hcs hne
      obtain ⟨u', h1, h2⟩ := run_loadVar_agg hg hz hl hlies
      cases h
      exact ⟨u', by simpa [Instr.loadAt, Instr.sureAddr] using h1, .v _ _ h2⟩
    · cases h
  | false =>
    simp only [Bool.false_eq_true, if_false, Option.map_eq_some_iff] at h
    obtain ⟨v, hv, rfl⟩ := h
    have hne : cs ≠ [] := by rintro rfl; simp at hv
    obtain ⟨b, o, rfl, hlies⟩ := deref_lies hrel hd hcs hne
    obtain ⟨x, hx, hr⟩ := hlies 0 v hv
    refine ⟨x, ?_, .v _ _ hr⟩
    simp only [Instr.loadAt, Instr.sureAddr, Sem.run_bind, Sem.run_pure, Result.andThen_ok]
    exact run_loadVar_one (v := v) hg hx
/-- A pointer moved on by some cells. -/
def faD (off : Nat) : D → Option D
  | .v (.ip cells) => some (.v (.ip (cells.drop off)))
  | .ref s o => some (.ref s (o + off))
  | _ => none
theorem ip_drop {ok : Nat → Prop} {cells : List V} {us : Nat → Value} {bl off n : Nat} (hok : ok bl)
    (hc : ∀ (i : Nat) v, cells[i]? = some v → w.cell? ⟨bl, off + i, none⟩ = some (us i)) (hr : ∀ (i : Nat) v, cells[i]? = some v → RepV w ok v (us i)) :
    RepV w ok (.ip (cells.drop n)) (.pointer (some ⟨bl, off + n, none⟩)) :=
  .ip _ (fun i => us (n + i)) bl (off + n) hok (fun i v hi => by
    rw [List.getElem?_drop] at hi
    rw [show off + n + i = off + (n + i) by omega]
    exact hc _ v hi) (fun i v hi => by rw [List.getElem?_drop] at hi; exact hr _ v hi)
theorem faD_rep {ok : Nat → Prop} {off : Nat} {d d' : D} {u : Value} (hd : RepD w ok η d u) (h : faD off d = some d') :
    ∃ b o, u = .pointer (some ⟨b, o, none⟩) ∧ RepD w ok η d' (.pointer (some ⟨b, o + off, none⟩)) := by
  cases hd with
  | v x u hx =>
    cases x <;> simp only [faD] at h <;> try cases h
    cases hx with
    | ip _ us bl o hok hc hr => exact ⟨bl, o, rfl, .v _ _ (ip_drop hok hc hr)⟩
  | ref s o' b o hη => cases h; exact ⟨b, o + o', rfl, by rw [Nat.add_assoc]; exact .ref s (o' + off) b o hη⟩
  | own0 => cases h
  | own => cases h
  | dead => cases h
/-- fieldAddr, of a field that is not empty -/
def foffOf (P : Program) (t : TypeId) (f : Nat) : Option Nat :=
  match P.underlying t with
  | some (.struct fs) => match fs[f]? with
    | some x => match szOf P x.type with
      | some (_ + 1) => some x.offset
      | _ => none
    | none => none
  | _ => none
theorem fa_sound {ok : Nat → Prop} {t : TypeId} {f off : Nat} {d d' : D} {u : Value} (hd : RepD w ok η d u) (h : faD off d = some d') (ho : foffOf P t f = some off) :
    ∃ u', (Instr.fieldAt t u f).run P w = .ok u' w ∧ RepD w ok η d' u' := by
  obtain ⟨b, o, rfl, hr⟩ := faD_rep hd h
  unfold foffOf at ho
  split at ho
  · rename_i fs hu
    split at ho
    · rename_i x hx
      split at ho
      · rename_i z hz
        cases ho
        refine ⟨_, ?_, hr⟩
        simp [Instr.fieldAt, run_underlying hu, hx, Instr.sureAddr, fieldPlace, run_size hz, add_plain]
      · cases ho
    · cases ho
  · cases ho
end
end Go.Proofs.YtljcbmnkjiogmaaDoor.Sv
/-! More operations that only read: an element's address, a part of a slice or string, lengths, arithmetic, parts of values. -/
namespace Go.Proofs.YtljcbmnkjiogmaaDoor.Sv
open Go Go.RowKit
set_option linter.unusedVariables false
set_option linter.unusedSimpArgs false

inductive Opd where
  | tm (i : Nat)
  | cn (v : V)
  deriving Inhabited
def Opd.ev (st : St) : Opd → Option D
  | .tm t => look st.ρ t
  | .cn v => some (.v v)
/-- A constant of the text. -/
def cVal : Value → Option V
  | .bool x => some (.b x)
  | .int k x => some (.n k x)
  | .string x => some (.s x)
  | .pointer none => some .nilp
  | .slice none 0 0 => some (.sl 0 [] true)
  | .nilFunc => some .nilf
  | .nilIface => some .nili
  | _ => none
def cVals : List Value → Option (List V)
  | [] => some []
  | v :: vs => match cVal v, cVals vs with
    | some x, some xs => some (x :: xs)
    | _, _ => none
def cValA : Value → Option V
  | .agg cs => (cVals cs.toList).map .agg
  | v => cVal v
def cOpd : Operand → Option Opd
  | .tmp t => some (.tm t)
  | .const v => (cValA v).map .cn
  | .func f => some (.cn (.clo (.func f) [] []))
  | .global _ => none

section
variable {P : Program} {w w0 : World} {U E : Nat → Prop} {nt : Nat} {st : St} {a : Act} {η : Eta} {ok : Nat → Prop}
theorem cVal_rep {u : Value} {v : V} (h : cVal u = some v) : RepV w ok v u := by
  unfold cVal at h
  split at h <;> cases h
  · exact .b _
  · exact .n _ _
  · exact .s _
  · exact .nilp
  · exact .sl0 _ _
  · exact .nilf
  · exact .nili
theorem cVals_rep : ∀ {us : List Value} {vs : List V}, cVals us = some vs → RepL w ok vs us
  | [], vs, h => by simp [cVals] at h; subst h; exact .nil
  | u :: us, vs, h => by
    unfold cVals at h
    split at h <;> cases h
    rename_i x xs h1 h2
    exact .cons (cVal_rep h1) (cVals_rep h2)
theorem cValA_rep {u : Value} {v : V} (h : cValA u = some v) : RepV w ok v u := by
  unfold cValA at h
  split at h
  · simp only [Option.map_eq_some_iff] at h
    obtain ⟨vs, h1, rfl⟩ := h
    exact (cVals_rep h1).agg
  · exact cVal_rep h
theorem Opd.rep (hrel : Rel w0 U E nt st a w η) {x : Operand} {p : Opd} {d : D} (hc : cOpd x = some p) (he : p.ev st = some d) : RepD w (Ok U st.objs η w) η d (a.eval x) := by
  cases x with
  | tmp t => cases hc; exact (hrel.slots t d he).2
  | const v =>
    simp only [cOpd, Option.map_eq_some_iff] at hc
    obtain ⟨y, hy, rfl⟩ := hc
    cases he
    exact .v _ _ (cValA_rep hy)
  | global g => cases hc
  | func f =>
    cases hc
    cases he
    exact .v _ _ (.clo _ [] [] #[] #[] rfl rfl (fun i v h => by simp at h) (fun i v h => by simp at h))

/-! ### An element's address -/
def iaD (arr : Option Nat) (z : Nat) (x i : D) : Option D :=
  match i with
  | .v (.n _ i) =>
    match arr with
    | some len => if 0 ≤ i ∧ i < len then faD (i.toNat * z) x else none
    | none => match x with
      | .v (.sl len cells _) => if 0 ≤ i ∧ i < len then some (.v (.ip (cells.drop (i.toNat * z)))) else none
      | .own s z' off len => if 0 ≤ i ∧ i < len ∧ z' = z then some (.ref s (off + i.toNat * z)) else none
      | _ => none
  | _ => none
def iaOf (P : Program) (t : TypeId) : Option (Option Nat × Nat) :=
  match P.underlying t with
  | some (.array n e) => (szOf P e).map (some n, ·)
  | some (.slice e) => (szOf P e).map (none, ·)
  | _ => none
theorem ia_sound {t : TypeId} {arr : Option Nat} {z : Nat} {x i d' : D} {u ui : Value} (hx : RepD w ok η x u) (hi : RepD w ok η i ui) (h : iaD arr z x i = some d') (ht : iaOf P t = some (arr, z)) :
    ∃ u', (Instr.indexAt t u ui).run P w = .ok u' w ∧ RepD w ok η d' u' := by
  unfold iaD at h
  split at h
  · rename_i k n
    cases hi with
    | v _ _ hi =>
    cases hi
    unfold iaOf at ht
    split at ht
    · rename_i len e hu
      simp only [Option.map_eq_some_iff, Prod.mk.injEq] at ht
      obtain ⟨z', hz, rfl, rfl⟩ := ht
      simp only at h
      split at h
      · rename_i hb
        obtain ⟨b, o, rfl, hr⟩ := faD_rep hx h
        refine ⟨_, ?_, hr⟩
        simp [Instr.indexAt, asIntOf, run_underlying hu, Instr.sureAddr, hb, run_size hz, add_plain]
      · cases h
    · rename_i e hu
      simp only [Option.map_eq_some_iff, Prod.mk.injEq] at ht
      obtain ⟨z', hz, rfl, rfl⟩ := ht
      simp only at h
      split at h
      · rename_i len cells tt
        split at h
        · rename_i hb
          cases h
          cases hx with
          | v _ _ hx =>
          cases hx with
          | sl0 t a => simp at hb; omega
          | sl _ _ _ us bl off cap hok hl ht hc hr =>
            refine ⟨_, ?_, .v _ _ (ip_drop (n := n.toNat * z') hok hc hr)⟩
            simp [Instr.indexAt, asIntOf, run_underlying hu, hb, run_size hz, add_plain]
        · cases h
      · rename_i s zz off len
        split at h
        · rename_i hb
          obtain ⟨h0, h1, rfl⟩ := hb
          cases h
          cases hx with
          | own0 => omega
          | own _ _ _ _ b o cap hη hl hc =>
            refine ⟨.pointer (some ⟨b, o + (off + n.toNat * zz), none⟩), ?_, .ref _ _ _ _ hη⟩
            simp [Instr.indexAt, asIntOf, run_underlying hu, h0, h1, run_size hz, add_plain, Nat.add_assoc]
        · cases h
      · cases h
    · cases ht
  · cases h

/-! ### Lengths; what is there -/
def lenD (str : Bool) (d : D) : Option D :=
  if str then match d with
    | .v (.s x) => some (.v (.n .i64 x.size))
    | _ => none
  else match d with
    | .v (.sl len _ _) => some (.v (.n .i64 len))
    | .own _ _ _ len => some (.v (.n .i64 len))
    | _ => none
def lenOf' (P : Program) (t : TypeId) : Option Bool := match P.underlying t with | some .string => some true | some (.slice _) => some false | _ => none
theorem len_sound {t ty : TypeId} {ts : Array TypeId} {str : Bool} {x d' : D} {u : Value} (hx : RepD w ok η x u) (h : lenD str x = some d') (h0 : ts[0]? = some t) (ht : lenOf' P t = some str) :
    ∃ u', (Builtin.len_ ts ty #[u]).run P w = .ok u' w ∧ RepD w ok η d' u' := by
  unfold lenOf' at ht
  split at ht <;> cases ht
  · rename_i hu
    simp only [lenD, if_true] at h
    split at h <;> cases h
    cases hx with | v _ _ hx =>
    cases hx
    exact ⟨_, by simp [Builtin.len_, h0, run_underlying hu]; rfl, .v _ _ (.n _ _)⟩
  · rename_i e hu
    simp only [lenD, Bool.false_eq_true, if_false] at h
    split at h <;> cases h
    · cases hx with | v _ _ hx =>
      cases hx <;> exact ⟨_, by simp [Builtin.len_, h0, run_underlying hu]; rfl, .v _ _ (.n _ _)⟩
    · cases hx <;> exact ⟨_, by simp [Builtin.len_, h0, run_underlying hu]; rfl, .v _ _ (.n _ _)⟩
def nckD : D → Option D
  | .v (.ip c) => some (.v (.ip c))
  | .ref s o => some (.ref s o)
  | .v (.clo (.func f) a b) => some (.v (.clo (.func f) a b))
  | _ => none
end
end Go.Proofs.YtljcbmnkjiogmaaDoor.Sv
/-! A part of a slice or of a string. -/
namespace Go.Proofs.YtljcbmnkjiogmaaDoor.Sv
open Go Go.RowKit
set_option linter.unusedVariables false
set_option linter.unusedSimpArgs false

def optN : Option D → Nat → Option Nat
  | none, d => some d
  | some (.v (.n _ i)), _ => if 0 ≤ i then some i.toNat else none
  | some _, _ => none
/-- lo, hi, mx: the bounds as they stand in the text. -/
def slD (str : Bool) (z : Nat) (lo hi mx : Option D) (x : D) : Option D :=
  if str then match x with
    | .v (.s b) => (optN lo 0).bind fun l => (optN hi b.size).bind fun h => if l ≤ h ∧ h ≤ b.size then some (.v (.s (b.extract l h))) else none
    | _ => none
  else match x with
    | .v (.sl len cells t) => (optN lo 0).bind fun l => (optN hi len).bind fun h => match mx with
      | none => if l ≤ h ∧ h ≤ len then some (.v (.sl (h - l) ((cells.drop (l * z)).take ((h - l) * z)) (t && hi.isNone))) else none
      | some _ => (optN mx 0).bind fun m => if l ≤ h ∧ h ≤ m ∧ m ≤ len ∧ hi.isSome then some (.v (.sl (h - l) ((cells.drop (l * z)).take ((h - l) * z)) (m == h))) else none
    | .own s z' off len => (optN lo 0).bind fun l => (optN hi len).bind fun h => if l ≤ h ∧ h ≤ len ∧ z' = z ∧ mx.isNone then some (.own s z (off + l * z) (h - l)) else none
    | _ => none
section
variable {P : Program} {w w0 : World} {U E : Nat → Prop} {nt : Nat} {st : St} {a : Act} {η : Eta} {ok : Nat → Prop}
/-- Operands that may be missing. -/
inductive RepQ (w : World) (ok : Nat → Prop) (η : Eta) : Option D → Option Value → Prop
  | none : RepQ w ok η none none
  | some (d : D) (u : Value) (h : RepD w ok η d u) : RepQ w ok η (some d) (some u)
theorem optN_some {d : Option D} {u : Option Value} {n dn : Nat} (hr : RepQ w ok η d u) (h : optN d dn = some n) :
    (d = none ∧ u = none ∧ n = dn) ∨ (∃ k i, d.isSome = true ∧ u = some (.int k i) ∧ 0 ≤ i ∧ n = i.toNat) := by
  cases hr with
  | none => simp [optN] at h; exact .inl ⟨rfl, rfl, h.symm⟩
  | some d u hd =>
    refine .inr ?_
    unfold optN at h
    split at h
    · rename_i he; cases he
    · rename_i k i he
      cases he
      split at h <;> cases h
      rename_i h0
      cases hd with | v _ _ hd =>
      cases hd
      exact ⟨_, _, rfl, rfl, h0, rfl⟩
    · cases h
theorem run_bound {k : IntKind} {i : Int} {y : Nat} {code : BoundsCode} (h0 : 0 ≤ i) (h1 : i.toNat ≤ y) : (Instr.sliceBound (.int k i) y code).run P w = .ok i.toNat w := by
  have : i ≤ (y : Int) := by omega
  simp [Instr.sliceBound, asIntOf, h0, this]
theorem run_bounds2 {isS : Bool} {len cap : Nat} {dl dh : Option D} {lo hi : Option Value} {l h : Nat} (hl : RepQ w ok η dl lo) (hh : RepQ w ok η dh hi)
    (el : optN dl 0 = some l) (eh : optN dh len = some h) (b1 : l ≤ h) (b2 : h ≤ len) (b3 : len ≤ cap) : (Instr.sliceBounds isS len cap lo hi none).run P w = .ok (l, h, cap) w := by
  rcases optN_some hl el with ⟨-, rfl, rfl⟩ | ⟨k, i, -, rfl, i0, rfl⟩ <;> rcases optN_some hh eh with ⟨-, rfl, rfl⟩ | ⟨k', i', -, rfl, i0', rfl⟩
  · simp [Instr.sliceBounds]
  · simp [Instr.sliceBounds, run_bound (P := P) (w := w) (k := k') (code := if isS = true then .sliceAcap else .sliceAlen) i0' (show i'.toNat ≤ cap by omega)]
  · simp [Instr.sliceBounds, run_bound (P := P) (w := w) (k := k) i0 b1]
  · simp [Instr.sliceBounds, run_bound (P := P) (w := w) (k := k') (code := if isS = true then .sliceAcap else .sliceAlen) i0' (show i'.toNat ≤ cap by omega), run_bound (P := P) (w := w) (k := k) i0 b1]
theorem run_bounds3 {len cap : Nat} {dl dh dm : Option D} {lo hi mx : Option Value} {l h m : Nat} (hl : RepQ w ok η dl lo) (hh : RepQ w ok η dh hi) (hm : RepQ w ok η dm mx)
    (el : optN dl 0 = some l) (eh : optN dh len = some h) (em : optN dm 0 = some m) (sh : dh.isSome = true) (sm : dm.isSome = true) (b1 : l ≤ h) (b2 : h ≤ m) (b3 : m ≤ cap) :
    (Instr.sliceBounds true len cap lo hi mx).run P w = .ok (l, h, m) w := by
  rcases optN_some hm em with ⟨rfl, -, -⟩ | ⟨k2, i2, -, rfl, i20, rfl⟩
  · cases sm
  rcases optN_some hh eh with ⟨rfl, -, -⟩ | ⟨k', i', -, rfl, i0', rfl⟩
  · cases sh
  rcases optN_some hl el with ⟨-, rfl, rfl⟩ | ⟨k, i, -, rfl, i0, rfl⟩
  · simp [Instr.sliceBounds, run_bound (P := P) (w := w) (k := k2) i20 b3, run_bound (P := P) (w := w) (k := k') i0' b2]
  · simp [Instr.sliceBounds, run_bound (P := P) (w := w) (k := k2) i20 b3, run_bound (P := P) (w := w) (k := k') i0' b2, run_bound (P := P) (w := w) (k := k) i0 b1]
/-- string? and the size of an element -/
def slOf (P : Program) (t : TypeId) : Option (Bool × Nat) :=
  match P.underlying t with
  | some .string => some (true, 1)
  | some (.slice e) => (szOf P e).map (false, ·)
  | _ => none
theorem part_rep {cells : List V} {us : Nat → Value} {bl off l k z cap : Nat} {t : Bool} (hok : ok bl) (hl : k ≤ cap) (ht : t = true → cap = k)
    (hc : ∀ (i : Nat) v, cells[i]? = some v → w.cell? ⟨bl, off + i, none⟩ = some (us i)) (hr : ∀ (i : Nat) v, cells[i]? = some v → RepV w ok v (us i)) :
    RepV w ok (.sl k ((cells.drop l).take z) t) (.slice (some ⟨bl, off + l, none⟩) k cap) := by
  refine .sl _ _ _ (fun i => us (l + i)) bl (off + l) cap hok hl ht (fun i v hi => ?_) (fun i v hi => ?_)
  · rw [List.getElem?_take] at hi
    split at hi
    · rw [List.getElem?_drop] at hi
      rw [show off + l + i = off + (l + i) by omega]
      exact hc _ v hi
    · cases hi
  · rw [List.getElem?_take] at hi
    split at hi
    · rw [List.getElem?_drop] at hi; exact hr _ v hi
    · cases hi
theorem sl_sound {t : TypeId} {str : Bool} {z : Nat} {dl dh dm : Option D} {x d' : D} {u : Value} {lo hi mx : Option Value} (hx : RepD w ok η x u)
    (hl : RepQ w ok η dl lo) (hh : RepQ w ok η dh hi) (hm : RepQ w ok η dm mx) (h : slD str z dl dh dm x = some d') (ht : slOf P t = some (str, z)) (hsm : str = true → dm = none) :
    ∃ u', (Instr.sliceAt t u lo hi mx).run P w = .ok u' w ∧ RepD w ok η d' u' := by
  unfold slOf at ht
  split at ht
  · rename_i hu
    cases ht
    obtain rfl := hsm rfl
    cases hm
    simp only [slD, if_true] at h
    split at h
    · rename_i b
      simp only [Option.bind_eq_some_iff] at h
      obtain ⟨l, el, hh', eh, h⟩ := h
      split at h <;> cases h
      rename_i hb
      cases hx with | v _ _ hx =>
      cases hx
      exact ⟨_, by simp [Instr.sliceAt, Instr.slice, run_underlying hu, run_bounds2 (P := P) hl hh el eh hb.1 hb.2 (Nat.le_refl _)] <;> rfl, .v _ _ (.s _)⟩
    · cases h
  · rename_i e hu
    simp only [Option.map_eq_some_iff, Prod.mk.injEq] at ht
    obtain ⟨z', hz, rfl, rfl⟩ := ht
    simp only [slD, Bool.false_eq_true, if_false] at h
    split at h
    · rename_i len cells tt
      simp only [Option.bind_eq_some_iff] at h
      obtain ⟨l, el, hh', eh, h⟩ := h
      cases hx with | v _ _ hx =>
      cases hm with
      | none =>
        simp only at h
        split at h <;> cases h
        rename_i hb
        cases hx with
        | sl0 _ a =>
          have h1 : hh' = 0 := by omega
          have h2 : l = 0 := by omega
          subst h1; subst h2
          exact ⟨_, by simp [Instr.sliceAt, Instr.slice, run_underlying hu, run_size hz, run_bounds2 (P := P) (isS := true) hl hh el eh hb.1 hb.2 (Nat.le_refl _)] <;> rfl, .v _ _ (by simpa using .sl0 _ a)⟩
        | sl _ _ _ us bl off cap hok hl' htt hc hr =>
          refine ⟨_, by simp [Instr.sliceAt, Instr.slice, run_underlying hu, run_size hz, run_bounds2 (P := P) (isS := true) hl hh el eh hb.1 hb.2 hl'] <;> rfl, .v _ _ ?_⟩
          by_cases hcl : cap = l
          · have h1 : hh' - l = 0 := by omega
            rw [if_pos hcl, h1, show cap - l = 0 by omega]
            simpa using .sl0 _ _
          · rw [if_neg hcl]
            simp only [add_plain]
            refine part_rep hok (by omega) (fun htt' => ?_) hc hr
            simp only [Bool.and_eq_true, Option.isNone_iff_eq_none] at htt'
            obtain ⟨h1, rfl⟩ := htt'
            simp [optN] at eh
            have := htt h1
            omega
      | some dm um hdm =>
        simp only [Option.bind_eq_some_iff] at h
        obtain ⟨m, em, h⟩ := h
        split at h <;> cases h
        rename_i hb
        cases hx with
        | sl0 _ a =>
          have h0 : m = 0 := by omega
          have h1 : hh' = 0 := by omega
          have h2 : l = 0 := by omega
          subst h0; subst h1; subst h2
          exact ⟨_, by simp [Instr.sliceAt, Instr.slice, run_underlying hu, run_size hz, run_bounds3 (P := P) hl hh (.some _ _ hdm) el eh em hb.2.2.2 rfl hb.1 hb.2.1 (Nat.le_refl _)] <;> rfl, .v _ _ (by simpa using .sl0 _ a)⟩
        | sl _ _ _ us bl off cap hok hl' htt hc hr =>
          refine ⟨_, by simp [Instr.sliceAt, Instr.slice, run_underlying hu, run_size hz, run_bounds3 (P := P) hl hh (.some _ _ hdm) el eh em hb.2.2.2 rfl hb.1 hb.2.1 (show m ≤ cap by omega)] <;> rfl, .v _ _ ?_⟩
          by_cases hcl : m = l
          · have h1 : hh' - l = 0 := by omega
            rw [if_pos hcl, h1, show m - l = 0 by omega]
            simpa using .sl0 _ _
          · rw [if_neg hcl]
            simp only [add_plain]
            refine part_rep hok (by omega) (fun htt' => ?_) hc hr
            have : m = hh' := by simpa using htt'
            omega
    · rename_i s zz off len
      simp only [Option.bind_eq_some_iff] at h
      obtain ⟨l, el, hh', eh, h⟩ := h
      split at h <;> cases h
      rename_i hb
      obtain ⟨b1, b2, rfl, hn⟩ := hb
      cases hm with
      | some => cases hn
      | none =>
        cases hx with
        | own0 _ _ _ a =>
          have h1 : hh' = 0 := by omega
          have h2 : l = 0 := by omega
          subst h1; subst h2
          exact ⟨_, by simp [Instr.sliceAt, Instr.slice, run_underlying hu, run_size hz, run_bounds2 (P := P) (isS := true) hl hh el eh b1 b2 (Nat.le_refl _)] <;> rfl, by simpa using .own0 _ _ _ a⟩
        | own _ _ _ _ b o cap hη hl' hc =>
          refine ⟨_, by simp [Instr.sliceAt, Instr.slice, run_underlying hu, run_size hz, run_bounds2 (P := P) (isS := true) hl hh el eh b1 b2 hl'] <;> rfl, ?_⟩
          by_cases hcl : cap = l
          · rw [if_pos hcl, show hh' - l = 0 by omega, show cap - l = 0 by omega]
            exact .own0 _ _ _ _
          · rw [if_neg hcl]
            simp only [add_plain]
            rw [show o + off + l * zz = o + (off + l * zz) by omega]
            refine .own _ _ _ _ b o (cap - l) hη (by omega) ?_
            have : l * zz + (cap - l) * zz = cap * zz := by rw [← Nat.add_mul]; congr 1; omega
            omega
    · cases h
  · cases ht
end
end Go.Proofs.YtljcbmnkjiogmaaDoor.Sv
/-! What the operations on values by themselves yield, and that the model does the same. -/
namespace Go.Proofs.YtljcbmnkjiogmaaDoor.Sv
open Go Go.RowKit
set_option linter.unusedVariables false
set_option linter.unusedSimpArgs false

def binI (op : BinOp) (k : IntKind) (x y : Int) : Option V :=
  match op with
  | .add => some (.n k (k.wrap (x + y)))
  | .sub => some (.n k (k.wrap (x - y)))
  | .mul => some (.n k (k.wrap (x * y)))
  | .quo => if y = 0 then none else some (.n k (k.wrap (x.tdiv y)))
  | .rem => if y = 0 then none else some (.n k (x.tmod y))
  | .and => some (.n k (k.wrap (BitVec.ofInt k.bits x &&& BitVec.ofInt k.bits y).toNat))
  | .or => some (.n k (k.wrap (BitVec.ofInt k.bits x ||| BitVec.ofInt k.bits y).toNat))
  | .xor => some (.n k (k.wrap (BitVec.ofInt k.bits x ^^^ BitVec.ofInt k.bits y).toNat))
  | .andNot => some (.n k (k.wrap (BitVec.ofInt k.bits x &&& ~~~ BitVec.ofInt k.bits y).toNat))
  | .eql => some (.b (x == y))
  | .neq => some (.b (x != y))
  | .lss => some (.b (x < y))
  | .leq => some (.b (x ≤ y))
  | .gtr => some (.b (x > y))
  | .geq => some (.b (x ≥ y))
  | .shl => if y < 0 then none else some (.n k (k.wrap (x * 2 ^ (min y.toNat k.bits))))
  | .shr => if y < 0 then none else some (.n k (x.fdiv (2 ^ (min y.toNat k.bits))))
def BinOp.isShift : BinOp → Bool
  | .shl | .shr => true
  | _ => false
def binS (op : BinOp) (x y : ByteArray) : Option V :=
  match op with
  | .add => if ((x.size + y.size : Nat) : Int) > IntKind.i64.max then none else some (.s (x ++ y))
  | .eql => some (.b (x.toList == y.toList))
  | .neq => some (.b !(x.toList == y.toList))
  | .lss => some (.b (Op.bytesLess x.toList y.toList))
  | .leq => some (.b (Op.bytesLess x.toList y.toList || x.toList == y.toList))
  | .gtr => some (.b !(Op.bytesLess x.toList y.toList || x.toList == y.toList))
  | .geq => some (.b !(Op.bytesLess x.toList y.toList))
  | _ => none
def binV (op : BinOp) : V → V → Option V
  | .n k x, .n k' y => if BinOp.isShift op then binI op k x y else if k = k' then binI op k x y else none
  | .s x, .s y => binS op x y
  | _, _ => none
section
variable {P : Program} {w : World} {ok : Nat → Prop}
theorem binV_sound {op : BinOp} {t : TypeId} {x y : V} {u v : Value} {r : V} (hx : RepV w ok x u) (hy : RepV w ok y v) (h : binV op x y = some r) (xo yo : Operand) :
    ∃ z, ((do eqGuard op t xo yo u v; binOp op t u v) : Sem Value).run P w = .ok z w ∧ RepV w ok r z := by
  unfold binV at h
  split at h
  · rename_i k a k' b
    cases hx; cases hy
    have hg : (eqGuard op t xo yo (.int k a) (.int k' b)).run P w = .ok () w := by unfold eqGuard; cases op <;> simp
    simp only [Sem.run_bind, hg, Result.andThen_ok]
    split at h
    · rename_i hs
      cases op <;> simp [BinOp.isShift] at hs <;> simp only [binI] at h <;> split at h <;> cases h <;> rename_i hb
      · exact ⟨_, by simp [binOp, Op.shift, hb] <;> rfl, .n _ _⟩
      · exact ⟨_, by simp [binOp, Op.shift, hb] <;> rfl, .n _ _⟩
    · rename_i hs
      split at h
      · rename_i hk
        subst hk
        cases op <;> simp [BinOp.isShift] at hs <;> simp only [binI] at h
        case quo => split at h <;> cases h; rename_i hb; exact ⟨_, by simp [binOp, Op.intDiv, hb] <;> rfl, .n _ _⟩
        case rem => split at h <;> cases h; rename_i hb; exact ⟨_, by simp [binOp, Op.intDiv, hb] <;> rfl, .n _ _⟩
        all_goals cases h
        all_goals first
          | exact ⟨_, by simp only [binOp, ne_eq, not_true_eq_false, if_false, Op.intArith, Sem.run_pure]; rfl, .n _ _⟩
          | exact ⟨_, by simp only [binOp, ne_eq, not_true_eq_false, if_false, Op.intBits, Sem.run_pure]; rfl, .n _ _⟩
          | exact ⟨_, by simp only [binOp, ne_eq, not_true_eq_false, if_false, Op.intCmp, Sem.run_pure], .b _⟩
      · cases h
  · rename_i a b
    cases hx; cases hy
    have hg : (eqGuard op t xo yo (.string a) (.string b)).run P w = .ok () w := by unfold eqGuard; cases op <;> simp
    simp only [Sem.run_bind, hg, Result.andThen_ok]
    cases op <;> simp only [binS] at h
    case add => split at h <;> cases h; rename_i hb; exact ⟨_, by simp only [binOp, Op.stringOp, if_neg hb]; rfl, .s _⟩
    all_goals (cases h <;> exact ⟨_, by simp only [binOp, Op.stringOp, Sem.run_pure], .b _⟩)
  · cases h

/-! ### Equality of parts -/
/-- The kinds of what is compared by sight. -/
inductive EK where
  | b | n | s
  deriving DecidableEq
def eqk : EK → V → V → Option Bool
  | .n, .n k x, .n k' y => if k = k' then some (x == y) else none
  | .b, .b x, .b y => some (x == y)
  | .s, .s x, .s y => some (x.toList == y.toList)
  | _, _, _ => none
def eqLv : List (Nat × EK) → List V → List V → Option Bool
  | [], _, _ => some true
  | (l, e) :: ls, xs, ys => match xs[l]?, ys[l]? with
    | some x, some y => match eqk e x y, eqLv ls xs ys with
      | some p, some q => some (p && q)
      | _, _ => none
    | _, _ => none
def ekOf (P : Program) (t : TypeId) : Option EK := match P.underlying t with | some .bool => some .b | some (.int _) => some .n | some .string => some .s | _ => none
/-- The fields one by one; self: what is known of a field that is a struct itself. -/
def eqLeavesG (P : Program) (self : TypeId → Option (List (Nat × EK))) (stop : Bool) : List Field → Option (List (Nat × EK))
  | [] => some []
  | f :: fs => if f.name = "_" ∨ stop = true then none else match eqLeavesG P self stop fs with
    | none => none
    | some r => match ekOf P f.type with
      | some e => some ((f.offset, e) :: r)
      | none => match self f.type, szOf P f.type with
        | some ls, some z => if ls.all (·.1 < z) then some (ls.map (fun x => (f.offset + x.1, x.2)) ++ r) else none
        | _, _ => none
def eqLeaves (P : Program) : Nat → TypeId → Option (List (Nat × EK))
  | 0, _ => none
  | d + 1, t => match P.underlying t with
    | some (.struct fs) => if P.stoodInHeld t then none else eqLeavesG P (eqLeaves P d) (d == 0) fs.toList
    | _ => none
def eqLeavesF (P : Program) (d : Nat) (fs : List Field) : Option (List (Nat × EK)) := eqLeavesG P (eqLeaves P d) (d == 0) fs
theorem eqLeavesF_nil (P : Program) (d : Nat) : eqLeavesF P d [] = some [] := rfl
theorem eqLeavesF_cons (P : Program) (d : Nat) (f : Field) (fs : List Field) : eqLeavesF P d (f :: fs) = if f.name = "_" ∨ d = 0 then none else match eqLeavesF P d fs with
    | none => none
    | some r => match ekOf P f.type with
      | some e => some ((f.offset, e) :: r)
      | none => match eqLeaves P d f.type, szOf P f.type with
        | some ls, some z => if ls.all (·.1 < z) then some (ls.map (fun x => (f.offset + x.1, x.2)) ++ r) else none
        | _, _ => none := by
  have : (f.name = "_" ∨ (d == 0) = true) = (f.name = "_" ∨ d = 0) := by simp
  conv => lhs; unfold eqLeavesF eqLeavesG
  simp only [this]
  rfl
theorem eqk_sound {d : Nat} {t : TypeId} {e : EK} {x y : V} {u v : Value} {r : Bool} (hx : RepV w ok x u) (hy : RepV w ok y v) (h : eqk e x y = some r) (ht : ekOf P t = some e) :
    (Op.equalIn (d + 1) t u v).run P w = .ok r w := by
  unfold eqk at h
  unfold ekOf at ht
  split at h
  · split at h <;> cases h
    rename_i hk; subst hk
    cases hx; cases hy
    split at ht <;> cases ht
    rename_i hu; simp [Op.equalIn, run_underlying hu]
  · cases h
    cases hx; cases hy
    split at ht <;> cases ht
    rename_i hu; simp [Op.equalIn, run_underlying hu]
  · cases h
    cases hx; cases hy
    split at ht <;> cases ht
    rename_i hu; simp [Op.equalIn, run_underlying hu, beq_toListBytes]
  · cases h
theorem ekOf_agg {t : TypeId} {e : EK} (h : ekOf P t = some e) : aggOf P t = some false := by
  unfold ekOf at h
  unfold aggOf
  split at h <;> cases h <;> (rename_i hu; simp [hu])
theorem eqLv_app : ∀ {ls ms : List (Nat × EK)} {xs ys : List V} {r : Bool}, eqLv (ls ++ ms) xs ys = some r → ∃ p q, eqLv ls xs ys = some p ∧ eqLv ms xs ys = some q ∧ r = (p && q)
  | [], ms, xs, ys, r, h => ⟨true, r, rfl, h, by simp⟩
  | (l, e) :: ls, ms, xs, ys, r, h => by
    simp only [List.cons_append, eqLv] at h ⊢
    split at h
    · rename_i x y hx hy
      split at h <;> cases h
      rename_i p q hp hq
      obtain ⟨p', q', h1, h2, rfl⟩ := eqLv_app hq
      exact ⟨p && p', q', by simp [hx, hy, hp, h1], h2, by simp [Bool.and_assoc]⟩
    · cases h
theorem eqLv_shift {off z : Nat} {xs ys : List V} : ∀ {ls : List (Nat × EK)} {r : Bool}, ls.all (·.1 < z) = true → eqLv (ls.map (fun x => (off + x.1, x.2))) xs ys = some r → eqLv ls ((xs.drop off).take z) ((ys.drop off).take z) = some r
  | [], r, _, h => h
  | (l, e) :: ls, r, ha, h => by
    simp only [List.all_cons, Bool.and_eq_true, decide_eq_true_eq] at ha
    simp only [List.map_cons, eqLv] at h ⊢
    have e1 : ∀ zs : List V, ((zs.drop off).take z)[l]? = zs[off + l]? := fun zs => by rw [List.getElem?_take, if_pos ha.1, List.getElem?_drop]
    rw [e1, e1]
    split at h
    · rename_i x y hx hy
      split at h <;> cases h
      rename_i p q hp hq
      simp [hp, eqLv_shift ha.2 hq]
    · cases h
theorem run_part_one {t : TypeId} {us : Array Value} {off : Nat} {u : Value} (hg : aggOf P t = some false) (h : us[off]? = some u) : (part t us off).run P w = .ok u w := by
  simp [part, run_agg hg, h]
theorem run_part_agg {t : TypeId} {us : Array Value} {off z : Nat} (hg : aggOf P t = some true) (hz : szOf P t = some z) : (part t us off).run P w = .ok (.agg (us.extract off (off + z))) w := by
  simp [part, run_agg hg, run_size hz]
theorem RepL.extract {xs : List V} {us : Array Value} (h : RepL w ok xs us.toList) (off z : Nat) : RepL w ok ((xs.drop off).take z) (us.extract off (off + z)).toList := by
  have : (us.extract off (off + z)).toList = (us.toList.drop off).take z := by
    simp [Array.toList_extract, List.extract_eq_take_drop]
  rw [this]
  exact (h.drop off).take z
theorem eqLeavesF_sound (d : Nat) (IH : ∀ {t : TypeId} {ls : List (Nat × EK)} {xs ys : List V} {us vs : Array Value} {r : Bool}, eqLeaves P d t = some ls →
    RepL w ok xs us.toList → RepL w ok ys vs.toList → eqLv ls xs ys = some r → (Op.equalIn d t (.agg us) (.agg vs)).run P w = .ok r w) {xs ys : List V} {us vs : Array Value}
    (hx : RepL w ok xs us.toList) (hy : RepL w ok ys vs.toList) : ∀ (fs : List Field) {ls : List (Nat × EK)} {r : Bool}, eqLeavesF P d fs = some ls →
    eqLv ls xs ys = some r → (Op.eqFields d us vs fs).run P w = .ok r w := by
  intro fs
  induction fs with
  | nil =>
    intro ls r h he
    simp only [eqLeavesF_nil, Option.some.injEq] at h
    subst h
    simp only [eqLv, Option.some.injEq] at he
    subst he
    simp [Op.eqFields]
  | cons f fs ih =>
    intro ls r h he
    rw [eqLeavesF_cons] at h
    split at h
    · cases h
    · rename_i hn
      obtain ⟨hnn, hd⟩ := not_or.1 hn
      split at h
      · cases h
      · rename_i rs hrs
        split at h
        · rename_i e hek
          cases h
          simp only [eqLv] at he
          split at he
          · rename_i x y hxx hyy
            split at he <;> cases he
            rename_i p q hp hq
            obtain ⟨u, hu, hru⟩ := hx.2 _ _ hxx
            obtain ⟨v, hv, hrv⟩ := hy.2 _ _ hyy
            have ih := ih hrs hq
            obtain ⟨d', rfl⟩ : ∃ d', d = d' + 1 := ⟨d - 1, by omega⟩
            have h1 := eqk_sound (P := P) (d := d') hru hrv hp hek
            simp only [Op.eqFields, ne_eq, hnn, not_false_eq_true, if_true, Sem.run_bind, run_part_one (P := P) (ekOf_agg hek) (show us[f.offset]? = some u by simpa using hu), run_part_one (P := P) (ekOf_agg hek) (show vs[f.offset]? = some v by simpa using hv), Result.andThen_ok, h1]
            cases p
            · simp
            · simpa using ih
          · cases he
        · rename_i hek
          split at h
          · rename_i ls' z hls hz
            split at h <;> cases h
            rename_i hall
            obtain ⟨p, q, hp, hq, rfl⟩ := eqLv_app he
            have hp' := eqLv_shift hall hp
            have ih := ih hrs hq
            have h1 := IH hls (hx.extract f.offset z) (hy.extract f.offset z) hp'
            have hg : aggOf P f.type = some true := by
              cases d with
              | zero => simp at hd
              | succ d =>
                unfold eqLeaves at hls
                split at hls
                · rename_i hu; simp [aggOf, hu]
                · cases hls
            simp only [Op.eqFields, ne_eq, hnn, not_false_eq_true, if_true, Sem.run_bind, run_part_agg (P := P) hg hz, Result.andThen_ok, h1]
            cases p
            · simp
            · simpa using ih
          · cases h
theorem eqLeaves_sound (d : Nat) : ∀ {t : TypeId} {ls : List (Nat × EK)} {xs ys : List V} {us vs : Array Value} {r : Bool}, eqLeaves P d t = some ls →
    RepL w ok xs us.toList → RepL w ok ys vs.toList → eqLv ls xs ys = some r → (Op.equalIn d t (.agg us) (.agg vs)).run P w = .ok r w := by
  induction d with
  | zero => intro t ls xs ys us vs r h; simp [eqLeaves] at h
  | succ d ih =>
    intro t ls xs ys us vs r h hx hy he
    unfold eqLeaves at h
    split at h
    · rename_i fs hu
      split at h
      · cases h
      · rename_i hs
        have hf : P.fieldsOf t = fs := by simp [Program.fieldsOf, hu]
        rw [run_equalIn_struct (P := P) w d t us vs (by rw [hf]; exact hu) (by simpa using hs), hf]
        exact eqLeavesF_sound d ih hx hy fs.toList h he
    · cases h
end
end Go.Proofs.YtljcbmnkjiogmaaDoor.Sv
/-! Values that are put together of parts, and their parts. -/
namespace Go.Proofs.YtljcbmnkjiogmaaDoor.Sv
open Go Go.RowKit
set_option linter.unusedVariables false
set_option linter.unusedSimpArgs false

def setL : List V → Nat → List V → List V
  | cs, _, [] => cs
  | cs, o, v :: vs => setL (cs.set o v) (o + 1) vs
theorem setL_length : ∀ (vs cs : List V) (o : Nat), (setL cs o vs).length = cs.length
  | [], cs, o => rfl
  | v :: vs, cs, o => by simp [setL, setL_length vs]
/-- Parts laid over cells: where, how many, what. -/
def fillV : List ((Nat × Nat) × V) → List V → Option (List V)
  | [], cells => some cells
  | ((off, z), v) :: r, cells => if v.cells.length = z ∧ off + z ≤ cells.length then fillV r (setL cells off v.cells) else none
section
variable {P : Program} {w : World} {ok : Nat → Prop}
theorem cells_rep {v : V} {u : Value} (h : RepV w ok v u) : RepL w ok v.cells u.cells.toList := by
  have one : ∀ {v : V} {u : Value}, v.cells = [v] → u.cells = #[u] → RepV w ok v u → RepL w ok v.cells u.cells.toList := fun h1 h2 h => by
    rw [h1, h2]; exact .cons h .nil
  cases h with
  | agg xs us hl hr => exact RepL.of_array hl hr
  | b x => exact one rfl rfl (.b x)
  | n k x => exact one rfl rfl (.n k x)
  | s x => exact one rfl rfl (.s x)
  | nilp => exact one rfl rfl .nilp
  | ip cells us bl off hok hc hr => exact one rfl rfl (.ip cells us bl off hok hc hr)
  | sl0 t a => exact one rfl rfl (.sl0 t a)
  | sl len cells t us bl off cap hok hl ht hc hr => exact one rfl rfl (.sl len cells t us bl off cap hok hl ht hc hr)
  | tup xs us hl hr => exact one rfl rfl (.tup xs us hl hr)
  | clo fn first cap fs cs hl hl' hr hr' => exact one rfl rfl (.clo fn first cap fs cs hl hl' hr hr')
  | nilf => exact one rfl rfl .nilf
  | ifc t v u h => exact one rfl rfl (.ifc t v u h)
  | nili => exact one rfl rfl .nili
theorem RepL.set {xs : List V} {us : List Value} (h : RepL w ok xs us) {i : Nat} {v : V} {u : Value} (hv : RepV w ok v u) : RepL w ok (xs.set i v) (us.set i u) := by
  refine ⟨by simp [h.1], fun j x hj => ?_⟩
  rw [List.getElem?_set] at hj ⊢
  split at hj
  · rename_i hij
    split at hj <;> cases hj
    rename_i hlt
    exact ⟨u, by subst hij; simp [h.1, hlt], hv⟩
  · rename_i hij
    rw [if_neg hij]
    exact h.2 j x hj
theorem foldl_setL (off : Nat) : ∀ (vs : List V) (us : List Value) (cs : List V) (cu : Array Value) (j : Nat), RepL w ok vs us → RepL w ok cs cu.toList →
    RepL w ok (setL cs (off + j) vs) ((us.zipIdx j).foldl (fun cs (c, j) => cs.setIfInBounds (off + j) c) cu).toList
  | [], us, cs, cu, j, hv, hc => by
    obtain rfl : us = [] := by have := hv.1; simpa using this
    exact hc
  | v :: vs, us, cs, cu, j, hv, hc => by
    obtain ⟨u, us', rfl, h1, h2⟩ := hv.head
    simp only [List.zipIdx_cons, List.foldl_cons, setL]
    have := foldl_setL off vs us' (cs.set (off + j) v) (cu.setIfInBounds (off + j) u) (j + 1) h2 (by simpa using hc.set h1)
    rwa [show off + j + 1 = off + (j + 1) by omega]
/-- Parts one by one: where each goes. -/
def RepP (w : World) (ok : Nat → Prop) (place : Nat → Option (Nat × Nat)) : List ((Nat × Nat) × V) → List (Nat × Value) → Prop
  | [], [] => True
  | (p, v) :: r, (i, u) :: r' => place i = some p ∧ RepV w ok v u ∧ RepP w ok place r r'
  | _, _ => False
theorem fill_rep {place : Nat → Option (Nat × Nat)} : ∀ (ps : List ((Nat × Nat) × V)) (qs : List (Nat × Value)) (cs cs' : List V) (cu : Array Value), RepP w ok place ps qs → RepL w ok cs cu.toList → fillV ps cs = some cs' →
    ∃ cu', Instr.fill place cu qs = some cu' ∧ RepL w ok cs' cu'.toList
  | [], [], cs, cs', cu, _, hc, h => by cases h; exact ⟨cu, rfl, hc⟩
  | ((off, z), v) :: r, (i, u) :: r', cs, cs', cu, hp, hc, h => by
    obtain ⟨h1, h2, h3⟩ := hp
    unfold fillV at h
    split at h
    · rename_i hb
      have hcr := cells_rep h2
      have hs : u.cells.size = z := by have := hcr.1; simp at this; omega
      have hcs : cu.size = cs.length := by have := hc.1; simpa using this
      unfold Instr.fill
      simp only [h1]
      rw [if_neg (by simp only [ne_eq, hs, not_true_eq_false, decide_false, Bool.false_or, decide_eq_true_eq]; simp; omega)]
      refine fill_rep r r' _ cs' _ h3 ?_ h
      have := foldl_setL off v.cells u.cells.toList cs cu 0 hcr hc
      rw [← Array.foldl_toList, Array.toList_zipIdx]
      simpa using this
    · cases h
theorem RepL.of_cells {c : Array Value} {cs : List V} (h : cVals c.toList = some cs) : RepL w ok cs c.toList := cVals_rep h
/-- The zero value's cells. -/
def zeroOf (P : Program) (t : TypeId) : Option (List V) := (P.info? t).bind fun i => i.zero.bind fun z => cVals z.cells.toList
def pairUp : List (Nat × Nat) → List V → Option (List ((Nat × Nat) × V))
  | [], [] => some []
  | p :: ps, v :: vs => (pairUp ps vs).map ((p, v) :: ·)
  | _, _ => none
def buildV (zero : List V) (ps : List (Nat × Nat)) (vs : List V) : Option V := (pairUp ps vs).bind fun q => (fillV q zero).map .agg
/-- Where the parts of a literal go. -/
def placeOf (P : Program) (t : TypeId) (i : Nat) : Option (Nat × Nat) :=
  match P.underlying t with
  | some (.array _ e) => (szOf P e).map fun z => (i * z, z)
  | some (.struct fs) => (fs.toList.mapM (fun f => (P.info? f.type).map fun i => (f.offset, i.size))).bind fun ps => ps[i]?
  | _ => none
def allSome {α : Type} : List (Option α) → Option (List α)
  | [] => some []
  | some x :: l => (allSome l).map (x :: ·)
  | none :: _ => none
theorem pairUp_rep {place : Nat → Option (Nat × Nat)} : ∀ (is : List Nat) (ps : List (Nat × Nat)) (vs : List V) (us : List Value) (q : List ((Nat × Nat) × V)),
    allSome (is.map place) = some ps → RepL w ok vs us → pairUp ps vs = some q → RepP w ok place q (is.zip us)
  | [], ps, vs, us, q, h1, h2, h3 => by
    cases h1
    cases vs with
    | nil => cases h3; simp [RepP]
    | cons v vs => cases h3
  | i :: is, ps, vs, us, q, h1, h2, h3 => by
    simp only [List.map_cons] at h1
    cases hp : place i with
    | none => simp [hp, allSome] at h1
    | some p =>
      simp only [hp, allSome, Option.map_eq_some_iff] at h1
      obtain ⟨ps', h1, rfl⟩ := h1
      cases vs with
      | nil => cases h3
      | cons v vs =>
        obtain ⟨u, us', rfl, hu, hus⟩ := h2.head
        simp only [pairUp, Option.map_eq_some_iff] at h3
        obtain ⟨q', h3, rfl⟩ := h3
        exact ⟨hp, hu, pairUp_rep is ps' vs us' q' h1 hus h3⟩
theorem buildV_sound {t : TypeId} {is : List Nat} {ps : List (Nat × Nat)} {zero : List V} {vs : List V} {us : List Value} {r : V} (hz : zeroOf P t = some zero)
    (hp : allSome (is.map (placeOf P t)) = some ps) (hv : RepL w ok vs us) (h : buildV zero ps vs = some r) (hne : ∃ d, P.underlying t = some d ∧ ((∃ n e z, d = .array n e ∧ szOf P e = some z) ∨ ∃ fs x, d = .struct fs ∧ fs.toList.mapM (fun f => (P.info? f.type).map fun i => (f.offset, i.size)) = some x)) :
    ∃ z, (Instr.build t (is.zip us).toArray).run P w = .ok z w ∧ RepV w ok r z := by
  unfold buildV at h
  simp only [Option.bind_eq_some_iff, Option.map_eq_some_iff] at h
  obtain ⟨q, hq, cs', hf, rfl⟩ := h
  unfold zeroOf at hz
  simp only [Option.bind_eq_some_iff] at hz
  obtain ⟨it, hit, z, hzz, hcz⟩ := hz
  have hrp := pairUp_rep (w := w) (ok := ok) is ps vs us q hp hv hq
  obtain ⟨cu', h1, h2⟩ := fill_rep q _ zero cs' z.cells hrp (RepL.of_cells hcz) hf
  obtain ⟨d, hu, hd⟩ := hne
  refine ⟨.agg cu', run_build w t _ cu' ?_, ?_⟩
  · unfold Program.built
    rcases hd with ⟨n, e, ze, rfl, hze⟩ | ⟨fs, x, rfl, hx⟩
    · simp only [szOf, Option.map_eq_some_iff] at hze
      obtain ⟨ie, hie, rfl⟩ := hze
      simp only [hit, hu, hzz, hie]
      rw [← h1]
      congr 1
      funext i
      simp [placeOf, hu, szOf, hie]
    · simp only [hit, hu, hzz, hx]
      rw [← h1]
      congr 1
      funext i
      simp [placeOf, hu, hx]
  · have := h2.agg
    simpa using this

/-! ### A slice literal, by itself -/
def zerosL (zero : List V) : Nat → List V
  | 0 => []
  | n + 1 => zero ++ zerosL zero n
def bslV (n : Nat) (zero : List V) (ps : List (Nat × Nat)) (vs : List V) : Option V :=
  (pairUp ps vs).bind fun q => (fillV q (zerosL zero n)).map fun cs => .sl n cs true
def elemPlace (z i : Nat) : Option (Nat × Nat) := some (i * z, z)
theorem zerosL_length (zero : List V) (n : Nat) : (zerosL zero n).length = n * zero.length := by
  induction n with
  | zero => simp [zerosL]
  | succ n ih => simp [zerosL, ih, Nat.succ_mul, Nat.add_comm]
theorem zerosL_get (zero : List V) : ∀ (n i : Nat) (v : V), (zerosL zero n)[i]? = some v → zero[i % zero.length]? = some v
  | 0, i, v, h => by simp [zerosL] at h
  | n + 1, i, v, h => by
    simp only [zerosL] at h
    rw [List.getElem?_append] at h
    split at h
    · rename_i hi; rwa [Nat.mod_eq_of_lt hi]
    · rename_i hi
      have := zerosL_get zero n _ v h
      rwa [← Nat.mod_eq_sub_mod (by omega)] at this
theorem zeros_rep {zero : List V} {zu : Array Value} (h : RepL w ok zero zu.toList) (n : Nat) : RepL w ok (zerosL zero n) ((Array.range (n * zu.size)).map (zu[· % zu.size]!)).toList := by
  have hs : zu.size = zero.length := by have := h.1; simpa using this
  refine ⟨by simp [zerosL_length, hs], fun i v hv => ?_⟩
  have hlt := (List.getElem?_eq_some_iff.1 hv).1
  rw [zerosL_length] at hlt
  obtain ⟨u, hu, hr⟩ := h.2 _ _ (zerosL_get zero n i v hv)
  have hz : 0 < zero.length := by
    rcases Nat.eq_zero_or_pos zero.length with h0 | h0
    · rw [h0] at hlt; omega
    · exact h0
  have hm : i % zu.size < zu.size := Nat.mod_lt _ (by omega)
  refine ⟨u, ?_, hr⟩
  rw [← hs] at hu
  have hu' : zu[i % zu.size]? = some u := by simpa using hu
  have e1 : i < n * zu.size := by rw [hs]; exact hlt
  simp only [Array.toList_map, List.getElem?_map]
  have : (Array.range (n * zu.size)).toList[i]? = some i := by simp [e1]
  rw [this]
  simp [getElem!_def, hu']
theorem newRow_rep {cs : List V} {cu : Array Value} {e : TypeId} {n : Nat} {t : Bool} (h : RepL w ok cs cu.toList) {ok' : Nat → Prop} (hk : ∀ b, ok b → ok' b) (hlt : ∀ b, ok b → b < w.heap.size) (hn : ok' w.heap.size) :
    RepV (w.alloc (.cells cu e)) ok' (.sl n cs t) (.slice (some ⟨w.heap.size, 0, none⟩) n n) := by
  have hm := RepL.mono (w' := w.alloc (.cells cu e)) (ok' := ok') (fun b hb => ⟨hk b hb, Below.heap_alloc _ _ _ (hlt b hb)⟩) h
  have hs : cu.size = cs.length := by have := h.1; simpa using this
  refine .sl _ _ _ (fun i => cu.getD i undef) _ 0 n hn (Nat.le_refl _) (fun _ => rfl) (fun i v hi => ?_) (fun i v hi => ?_)
  · have := (List.getElem?_eq_some_iff.1 hi).1
    have hlt : i < cu.size := by omega
    simp [Array.getElem?_eq_getElem hlt, Array.getD, hlt]
  · obtain ⟨u, hu, hr⟩ := hm.2 i v hi
    have : cu.getD i undef = u := by simp at hu; simp [hu]
    rw [this]; exact hr
theorem bslV_sound {t e : TypeId} {n z : Nat} {is : List Nat} {ps : List (Nat × Nat)} {zero vs : List V} {us : List Value} {r : V} (hu : P.underlying t = some (.slice e)) (hz : zeroOf P e = some zero) (hsz : szOf P e = some z) (hzl : zero.length = z)
    (hp : allSome (is.map (elemPlace z)) = some ps) (hsm : n * z ≤ 2 ^ 24) (hpos : n * z ≠ 0) (hv : RepL w ok vs us) (h : bslV n zero ps vs = some r) :
    ∃ u w', (Instr.buildSlice t n (is.zip us).toArray).run P w = .ok u w' ∧ Below w.heap.size w w' ∧ ∀ ok' : Nat → Prop, (∀ b, ok b → ok' b) → (∀ b, ok b → b < w.heap.size) → (∀ b, w.heap.size ≤ b → b < w'.heap.size → ok' b) → RepV w' ok' r u := by
  unfold bslV at h
  simp only [Option.bind_eq_some_iff, Option.map_eq_some_iff] at h
  obtain ⟨q, hq, cs', hf, rfl⟩ := h
  unfold zeroOf at hz
  simp only [Option.bind_eq_some_iff] at hz
  obtain ⟨it, hit, zv, hzz, hcz⟩ := hz
  simp only [szOf, hit, Option.map_some, Option.some.injEq] at hsz
  have hcl : zv.cells.size = z := by have := (RepL.of_cells (w := w) (ok := ok) hcz).1; simp at this; omega
  have hrp := pairUp_rep (w := w) (ok := ok) is ps vs us q hp hv hq
  have hzr := zeros_rep (RepL.of_cells (w := w) (ok := ok) hcz) n
  rw [hcl] at hzr
  obtain ⟨cu', h1, h2⟩ := fill_rep q _ _ cs' _ hrp hzr hf
  have hrun := run_buildSlice (P := P) w t e n (is.zip us).toArray cu' it zv hu hit hzz (by rw [hsz]; omega) (by rw [hsz]; exact hpos) (by rw [hsz, hcl]; exact h1)
  refine ⟨_, _, hrun, (Below.refl _ _).alloc (Nat.le_refl _) _, fun ok' hk hlt hn => newRow_rep h2 hk hlt (hn _ (Nat.le_refl _) (by simp))⟩
end
end Go.Proofs.YtljcbmnkjiogmaaDoor.Sv
/-! The remaining operations on values by themselves. -/
namespace Go.Proofs.YtljcbmnkjiogmaaDoor.Sv
open Go Go.RowKit
set_option linter.unusedVariables false
set_option linter.unusedSimpArgs false

def unV (op : UnOp) : V → Option V
  | .n k x => match op with
    | .neg => some (.n k (k.wrap (0 - x)))
    | .xor => some (.n k (k.wrap (BitVec.ofInt k.bits (if k.signed then -1 else k.max) ^^^ BitVec.ofInt k.bits x).toNat))
    | _ => none
  | .b x => match op with
    | .not => some (.b !x)
    | _ => none
  | _ => none
/-- A part of a value: whether it is an aggregate, where, how many cells. -/
def partV (g : Bool) (off z : Nat) (xs : List V) : Option V := if g then (if off + z ≤ xs.length then some (.agg ((xs.drop off).take z)) else none) else xs[off]?
inductive PO where
  | bin (op : BinOp)
  | beq (neg : Bool)
  | veq (neg : Bool) (ls : List (Nat × EK))
  | un (op : UnOp)
  | toInt (k : IntKind)
  | same
  | fld (g : Bool) (off z : Nat)
  | idxA (g : Bool) (len z : Nat)
  | idxS
  | ext (i : Nat)
  | mkI (t : TypeId)
  | mkF (fn : Fn) (nf : Nat)
  | build (zero : List V) (ps : List (Nat × Nat))
  | bsl (n : Nat) (zero : List V) (ps : List (Nat × Nat))
  | pick
  | mx
  | mn
  | lenA (n : Nat)
  | s2b
  | b2s
  | i2s
def mxI (k : IntKind) : List V → Int → Option V
  | [], x => some (.n k x)
  | .n _ y :: r, x => mxI k r (if y > x then y else x)
  | _, _ => none
def mnI (k : IntKind) : List V → Int → Option V
  | [], x => some (.n k x)
  | .n _ y :: r, x => mnI k r (if y < x then y else x)
  | _, _ => none
def beqV (neg : Bool) : List V → Option V
  | [.b x, .b y] => some (.b (if neg then !(x == y) else x == y))
  | _ => none
def veqV (neg : Bool) (ls : List (Nat × EK)) : List V → Option V
  | [.agg xs, .agg ys] => (eqLv ls xs ys).map fun r => .b (if neg then !r else r)
  | _ => none
def fldV (g : Bool) (off z : Nat) : List V → Option V
  | [.agg xs] => partV g off z xs
  | _ => none
def idxAV (g : Bool) (len z : Nat) : List V → Option V
  | [.agg xs, .n _ i] => if 0 ≤ i ∧ i < len then partV g (i.toNat * z) z xs else none
  | _ => none
def idxSV : List V → Option V
  | [.s x, .n _ i] => if 0 ≤ i then x[i.toNat]?.map fun b => .n .u8 b.toNat else none
  | _ => none
def extV (i : Nat) : List V → Option V
  | [.tup xs] => xs[i]?
  | _ => none
def toIntV (k : IntKind) : List V → Option V
  | [.n _ x] => some (.n k (k.wrap x))
  | _ => none
def sameV : List V → Option V
  | [.s x] => some (.s x)
  | _ => none
def pickV : List V → Option V
  | [.b c, x, y] => some (if c then x else y)
  | _ => none
def mxV : List V → Option V
  | .n k x :: r => mxI k r x
  | _ => none
def mnV : List V → Option V
  | .n k x :: r => mnI k r x
  | _ => none
def binL (op : BinOp) : List V → Option V
  | [x, y] => binV op x y
  | _ => none
def unL (op : UnOp) : List V → Option V
  | [x] => unV op x
  | _ => none
def mkIV (t : TypeId) : List V → Option V
  | [x] => some (.ifc t x)
  | _ => none
def lenAV (n : Nat) : List V → Option V
  | [_] => some (.n .i64 n)
  | _ => none
/-- The bytes of a string, and back. -/
def bytesV (l : List UInt8) : List V := l.map fun b => .n .u8 b.toNat
def s2bV : List V → Option V
  | [.s x] => some (.sl x.data.toList.length (bytesV x.data.toList) false)
  | _ => none
def unbyte : List V → Option (List UInt8)
  | [] => some []
  | .n .u8 x :: r => if 0 ≤ x ∧ x < 256 then (unbyte r).map (UInt8.ofNat x.toNat :: ·) else none
  | _ => none
def b2sV : List V → Option V
  | [.sl n cs _] => if cs.length = n then (unbyte cs).map fun l => .s ⟨l.toArray⟩ else none
  | _ => none
/-- A letter as a string. -/
def i2sV : List V → Option V
  | [.n _ x] => some (.s (Utf8.encode x))
  | _ => none
def PO.run : PO → List V → Option V
  | .bin op, xs => binL op xs
  | .beq neg, xs => beqV neg xs
  | .veq neg ls, xs => veqV neg ls xs
  | .un op, xs => unL op xs
  | .toInt k, xs => toIntV k xs
  | .same, xs => sameV xs
  | .fld g off z, xs => fldV g off z xs
  | .idxA g len z, xs => idxAV g len z xs
  | .idxS, xs => idxSV xs
  | .ext i, xs => extV i xs
  | .mkI t, xs => mkIV t xs
  | .mkF fn nf, xs => some (.clo fn (xs.take nf) (xs.drop nf))
  | .build zero ps, xs => buildV zero ps xs
  | .bsl n zero ps, xs => bslV n zero ps xs
  | .pick, xs => pickV xs
  | .mx, xs => mxV xs
  | .mn, xs => mnV xs
  | .lenA n, xs => lenAV n xs
  | .s2b, xs => s2bV xs
  | .b2s, xs => b2sV xs
  | .i2s, xs => i2sV xs
section
variable {P : Program} {w : World} {ok : Nat → Prop}
theorem RepL.one {v : V} {us : List Value} (h : RepL w ok [v] us) : ∃ u, us = [u] ∧ RepV w ok v u := by
  obtain ⟨u, us', rfl, h1, h2⟩ := h.head
  have : us' = [] := by have := h2.1; simpa using this
  subst this
  exact ⟨u, rfl, h1⟩
theorem RepL.two {v v' : V} {us : List Value} (h : RepL w ok [v, v'] us) : ∃ u u', us = [u, u'] ∧ RepV w ok v u ∧ RepV w ok v' u' := by
  obtain ⟨u, us', rfl, h1, h2⟩ := h.head
  obtain ⟨u', rfl, h3⟩ := h2.one
  exact ⟨u, u', rfl, h1, h3⟩
theorem RepL.three {v v' v'' : V} {us : List Value} (h : RepL w ok [v, v', v''] us) : ∃ u u' u'', us = [u, u', u''] ∧ RepV w ok v u ∧ RepV w ok v' u' ∧ RepV w ok v'' u'' := by
  obtain ⟨u, us', rfl, h1, h2⟩ := h.head
  obtain ⟨u', u'', rfl, h3, h4⟩ := h2.two
  exact ⟨u, u', u'', rfl, h1, h3, h4⟩
theorem beq_sound {op : BinOp} {neg : Bool} {t : TypeId} {x y : V} {u v : Value} {r : V} (hx : RepV w ok x u) (hy : RepV w ok y v) (h : beqV neg [x, y] = some r) (ht : P.underlying t = some .bool)
    (hop : op = if neg then .neq else .eql) (xo yo : Operand) : ∃ z, ((do eqGuard op t xo yo u v; binOp op t u v) : Sem Value).run P w = .ok z w ∧ RepV w ok r z := by
  unfold beqV at h
  split at h <;> cases h
  rename_i a b h1
  cases h1
  cases hx; cases hy
  have hg : ∀ op : BinOp, (eqGuard op t xo yo (.bool a) (.bool b)).run P w = .ok () w := fun op => by unfold eqGuard; cases op <;> simp
  subst hop
  simp only [Sem.run_bind, hg, Result.andThen_ok]
  cases neg
  · exact ⟨_, by simpa using run_eql_bool (P := P) w t a b ht, .b _⟩
  · exact ⟨_, by simpa using run_neq_bool (P := P) w t a b ht, .b _⟩
theorem veq_sound {op : BinOp} {neg : Bool} {t : TypeId} {ls : List (Nat × EK)} {x y : V} {u v : Value} {r : V} (hx : RepV w ok x u) (hy : RepV w ok y v) (h : veqV neg ls [x, y] = some r) (ht : eqLeaves P 10000 t = some ls)
    (hgt : P.eqGuardType P.depth t = false) (hop : op = if neg then .neq else .eql) (xo yo : Operand) : ∃ z, ((do eqGuard op t xo yo u v; binOp op t u v) : Sem Value).run P w = .ok z w ∧ RepV w ok r z := by
  unfold veqV at h
  split at h
  case h_2 => cases h
  rename_i xs ys h1
  cases h1
  simp only [Option.map_eq_some_iff] at h
  obtain ⟨q, hq, rfl⟩ := h
  cases hx with | agg _ us hl hr =>
  cases hy with | agg _ vs hl' hr' =>
  have he := eqLeaves_sound (P := P) 10000 ht (RepL.of_array hl hr) (RepL.of_array hl' hr') hq
  simp only [Sem.run_bind, run_eqGuard_agg (P := P) w op t xo yo us vs hgt, Result.andThen_ok]
  subst hop
  cases neg
  · exact ⟨.bool q, by simp [run_eql_struct, he], .b _⟩
  · exact ⟨.bool !q, by simp [run_neq_struct, he], .b _⟩
theorem un_sound {op : UnOp} {x r : V} {u : Value} (hx : RepV w ok x u) (h : unV op x = some r) : ∃ z, (Op.unary op u).run P w = .ok z w ∧ RepV w ok r z := by
  unfold unV at h
  split at h
  · cases hx
    split at h <;> cases h
    · exact ⟨_, by simp only [Op.unary, Op.intArith, Sem.run_pure], .n _ _⟩
    · exact ⟨_, by simp only [Op.unary, Op.intBits, Sem.run_pure], .n _ _⟩
  · cases hx
    split at h <;> cases h
    exact ⟨_, by simp only [Op.unary, Sem.run_pure], .b _⟩
  · cases h
theorem part_sound {t : TypeId} {g : Bool} {off z : Nat} {xs : List V} {us : Array Value} {r : V} (hg : aggOf P t = some g) (hz : szOf P t = some z) (hx : RepL w ok xs us.toList) (h : partV g off z xs = some r) :
    ∃ u, (part t us off).run P w = .ok u w ∧ RepV w ok r u := by
  unfold partV at h
  cases g
  · obtain ⟨u, hu, hr⟩ := hx.2 off r h
    exact ⟨u, run_part_one hg (by simpa using hu), hr⟩
  · simp only [if_true] at h
    split at h <;> cases h
    have := (hx.extract off z).agg
    exact ⟨_, run_part_agg hg hz, this⟩
theorem fld_sound {t : TypeId} {f : Nat} {fs : Array Field} {fd : Field} {g : Bool} {z : Nat} {x r : V} {u : Value} (hx : RepV w ok x u) (h : fldV g fd.offset z [x] = some r)
    (hu : P.underlying t = some (.struct fs)) (hf : fs[f]? = some fd) (hg : aggOf P fd.type = some g) (hz : szOf P fd.type = some z) : ∃ v, (Instr.field t u f).run P w = .ok v w ∧ RepV w ok r v := by
  unfold fldV at h
  split at h
  case h_2 => cases h
  rename_i h1
  cases h1
  cases hx with | agg _ us hl hr =>
  obtain ⟨v, h1, h2⟩ := part_sound hg hz (RepL.of_array hl hr) h
  exact ⟨v, by simp [Instr.field, run_underlying hu, hf, asAgg, h1], h2⟩
theorem idxA_sound {t e : TypeId} {len z : Nat} {g : Bool} {x i r : V} {u v : Value} (hx : RepV w ok x u) (hi : RepV w ok i v) (h : idxAV g len z [x, i] = some r)
    (hu : P.underlying t = some (.array len e)) (hg : aggOf P e = some g) (hz : szOf P e = some z) : ∃ y, (Instr.index t u v).run P w = .ok y w ∧ RepV w ok r y := by
  unfold idxAV at h
  split at h
  case h_2 => cases h
  rename_i h1
  cases h1
  split at h
  · rename_i hb
    cases hx with | agg _ us hl hr =>
    cases hi
    obtain ⟨y, h1, h2⟩ := part_sound hg hz (RepL.of_array hl hr) h
    exact ⟨y, by simp [Instr.index, asIntOf, run_underlying hu, hb, run_size hz, h1], h2⟩
  · cases h
theorem idxS_sound {t : TypeId} {x i r : V} {u v : Value} (hx : RepV w ok x u) (hi : RepV w ok i v) (h : idxSV [x, i] = some r) (hu : P.underlying t = some .string) :
    ∃ y, (Instr.index t u v).run P w = .ok y w ∧ RepV w ok r y := by
  unfold idxSV at h
  split at h
  case h_2 => cases h
  rename_i h1
  cases h1
  split at h
  · rename_i hb
    simp only [Option.map_eq_some_iff] at h
    obtain ⟨b, hb', rfl⟩ := h
    cases hx; cases hi
    exact ⟨_, by simp [Instr.index, asIntOf, run_underlying hu, hb, hb'] <;> rfl, .n _ _⟩
  · cases h
theorem ext_sound {i : Nat} {x r : V} {u : Value} (hx : RepV w ok x u) (h : extV i [x] = some r) : ∃ y, (Instr.extract u i).run P w = .ok y w ∧ RepV w ok r y := by
  unfold extV at h
  split at h
  case h_2 => cases h
  rename_i h1
  cases h1
  cases hx with | tup _ us hl hr =>
  obtain ⟨y, hy, hr⟩ := (RepL.of_array hl hr).2 _ _ h
  exact ⟨y, by
    have : us[i]? = some y := by simpa using hy
    simp [Instr.extract, this], hr⟩
theorem mx_sound {k : IntKind} : ∀ {vs : List V} {us : List Value} {x : Int} {r : V}, RepL w ok vs us → mxI k vs x = some r → ∃ z, ((us.foldlM Builtin.max2 (Value.int k x)) : Sem Value).run P w = .ok z w ∧ RepV w ok r z
  | [], us, x, r, h, he => by
    obtain rfl : us = [] := by have := h.1; simpa using this
    cases he
    exact ⟨_, rfl, .n _ _⟩
  | v :: vs, us, x, r, h, he => by
    obtain ⟨u, us', rfl, h1, h2⟩ := h.head
    unfold mxI at he
    split at he
    · rename_i he'; cases he'
    · rename_i he'
      cases he'
      cases h1
      obtain ⟨z, hz, hr⟩ := mx_sound h2 he
      exact ⟨z, by simp only [List.foldlM_cons, Sem.run_bind, Builtin.max2, Sem.run_pure, Result.andThen_ok]; exact hz, hr⟩
    · cases he
theorem mn_sound {k : IntKind} : ∀ {vs : List V} {us : List Value} {x : Int} {r : V}, RepL w ok vs us → mnI k vs x = some r → ∃ z, ((us.foldlM Builtin.min2 (Value.int k x)) : Sem Value).run P w = .ok z w ∧ RepV w ok r z
  | [], us, x, r, h, he => by
    obtain rfl : us = [] := by have := h.1; simpa using this
    cases he
    exact ⟨_, rfl, .n _ _⟩
  | v :: vs, us, x, r, h, he => by
    obtain ⟨u, us', rfl, h1, h2⟩ := h.head
    unfold mnI at he
    split at he
    · rename_i he'; cases he'
    · rename_i he'
      cases he'
      cases h1
      obtain ⟨z, hz, hr⟩ := mn_sound h2 he
      exact ⟨z, by simp only [List.foldlM_cons, Sem.run_bind, Builtin.min2, Sem.run_pure, Result.andThen_ok]; exact hz, hr⟩
    · cases he
end
end Go.Proofs.YtljcbmnkjiogmaaDoor.Sv
/-! The operations of the program's text, put for what they do; those that only read. -/
namespace Go.Proofs.YtljcbmnkjiogmaaDoor.Sv
open Go Go.RowKit
set_option linter.unusedVariables false
set_option linter.unusedSimpArgs false

/-- An operation, its types looked up. -/
inductive SO where
  | po (p : PO)
  | mv
  | pick
  | ld (g : Bool) (z : Nat) (hd : Bool)
  | fa (off : Nat)
  | ia (arr : Option Nat) (z : Nat)
  | len (str : Bool)
  | nck
  | sl (str : Bool) (z : Nat) (lo hi mx : Bool)
  | alloc (zero : List V)
  | box
  | st (z : Nat)
  | mk (z bytes : Nat) (zero : List V)
  | app (z bytes : Nat)
  | appv (z bytes : Nat)
  | call (f : FuncId)
  | callD
  | bad
  | adopt (z : Nat)
  | callM (f : FuncId)
  | callV (f : FuncId)
  | callN (f : FuncId)
  | clr (z : Nat) (zero : List V)
  | bslO (n : Nat) (zero : List V) (ps : List (Nat × Nat))
  | cv
  | appo (z bytes : Nat)
def allV : List D → Option (List V)
  | [] => some []
  | .v x :: ds => (allV ds).map (x :: ·)
  | _ :: _ => none
def optArg (b : Bool) (ds : List D) : Option (Option D × List D) :=
  if b then match ds with
    | d :: r => some (some d, r)
    | [] => none
  else some (none, ds)
def slArgs (str : Bool) (z : Nat) (a b c : Bool) : List D → Option D
  | x :: ds => (optArg a ds).bind fun (lo, ds) => (optArg b ds).bind fun (hi, ds) => (optArg c ds).bind fun (mx, ds) => if str && c then none else slD str z lo hi mx x
  | [] => none
/-- What an operation yields that only reads. -/
def SO.rd (objs : List (Nat × List V)) : SO → List D → Option D
  | .po p, ds => (allV ds).bind fun vs => (p.run vs).map .v
  | .mv, [d] => some d
  | .pick, [.v (.b c), x, y] => some (if c then x else y)
  | .ld g z _, [d] => (deref objs d).bind (ldD g z)
  | .fa off, [d] => faD off d
  | .ia arr z, [x, i] => iaD arr z x i
  | .len str, [d] => lenD str d
  | .nck, [d] => nckD d
  | .sl str z a b c, ds => slArgs str z a b c ds
  | _, _ => none
def cBin (P : Program) (op : BinOp) (t : TypeId) : Option PO :=
  match P.underlying t with
  | some (.int _) | some .string => some (.bin op)
  | some .bool => match op with
    | .eql => some (.beq false)
    | .neq => some (.beq true)
    | _ => none
  | some (.struct _) => if P.eqGuardType P.depth t then none else match op with
    | .eql => (eqLeaves P 10000 t).map (.veq false)
    | .neq => (eqLeaves P 10000 t).map (.veq true)
    | _ => none
  | _ => none
def cConv (P : Program) (src dst : TypeId) : Option PO :=
  match P.underlying src, P.underlying dst with
  | some (.int _), some (.int k) => some (.toInt k)
  | some (.int _), some .string => some .i2s
  | some .string, some .string => some .same
  | some .string, some (.slice e) => match P.underlying e with
    | some (.int .u8) => some .s2b
    | _ => none
  | some (.slice e), some .string => match P.underlying e with
    | some (.int .u8) => some .b2s
    | _ => none
  | _, _ => none
def cBuild (P : Program) (t : TypeId) (is : List Nat) : Option PO :=
  match P.underlying t with
  | some (.array _ e) => match szOf P e, zeroOf P t, allSome (is.map (placeOf P t)) with
    | some _, some zero, some ps => some (.build zero ps)
    | _, _, _ => none
  | some (.struct fs) => match fs.toList.mapM (fun f => (P.info? f.type).map fun i => (f.offset, i.size)), zeroOf P t, allSome (is.map (placeOf P t)) with
    | some _, some zero, some ps => some (.build zero ps)
    | _, _, _ => none
  | _ => none
def cBsl (P : Program) (t : TypeId) (n : Nat) (is : List Nat) : Option PO :=
  match P.underlying t with
  | some (.slice e) => match zeroOf P e, szOf P e with
    | some zero, some z => match allSome (is.map (elemPlace z)) with
      | some ps => if zero.length = z ∧ n * z ≤ 2 ^ 24 ∧ n * z ≠ 0 then some (.bsl n zero ps) else none
      | none => none
    | _, _ => none
  | _ => none
/-- A row of bytes. -/
def isBytes (P : Program) (t : TypeId) : Bool := match P.underlying t with
  | some (.slice e) => match P.underlying e with
    | some (.int .u8) => true
    | _ => false
  | _ => false
/-- A slice literal, a value by itself or (hd, of bytes) a row of one's own. -/
def cBs (P : Program) (hd : Bool) (t : TypeId) (n : Nat) (is : List Nat) : Option SO :=
  match cBsl P t n is with
  | some (.bsl n zero ps) => if hd && isBytes P t then (if zero.length = 1 then some (.bslO n zero ps) else none) else some (.po (.bsl n zero ps))
  | _ => none
def cCv (P : Program) (src dst : TypeId) : Option SO := if src = dst ∧ isBytes P src = true then some .cv else (cConv P src dst).map .po
theorem cBs_is {P : Program} {hd : Bool} {t : TypeId} {n : Nat} {is : List Nat} {so : SO} (h : cBs P hd t n is = some so) :
    ∃ n' zero ps, cBsl P t n is = some (.bsl n' zero ps) ∧ (so = .po (.bsl n' zero ps) ∨ (so = .bslO n' zero ps ∧ zero.length = 1)) := by
  unfold cBs at h
  split at h
  · rename_i hc
    split at h
    · split at h <;> cases h
      exact ⟨_, _, _, hc, .inr ⟨rfl, by assumption⟩⟩
    · cases h
      exact ⟨_, _, _, hc, .inl rfl⟩
  · cases h
theorem cCv_is {P : Program} {src dst : TypeId} {so : SO} (h : cCv P src dst = some so) : (src = dst ∧ so = .cv ∧ isBytes P src = true) ∨ ∃ p, so = .po p ∧ cConv P src dst = some p := by
  unfold cCv at h
  split at h
  · rename_i hc
    cases h
    exact .inl ⟨hc.1, rfl, hc.2⟩
  · simp only [Option.map_eq_some_iff] at h
    obtain ⟨p, hp, rfl⟩ := h
    exact .inr ⟨p, rfl, hp⟩
def cField (P : Program) (t : TypeId) (f : Nat) : Option PO :=
  match P.underlying t with
  | some (.struct fs) => match fs[f]? with
    | some fd => match aggOf P fd.type, szOf P fd.type with
      | some g, some z => some (.fld g fd.offset z)
      | _, _ => none
    | none => none
  | _ => none
def cIndex (P : Program) (t : TypeId) : Option PO :=
  match P.underlying t with
  | some (.array n e) => match aggOf P e, szOf P e with
    | some g, some z => some (.idxA g n z)
    | _, _ => none
  | some .string => some .idxS
  | _ => none
def cMk (P : Program) (t : TypeId) : Option SO :=
  match P.underlying t with
  | some (.slice e) => match szOf P e, bytesOf' P e, zeroOf P e with
    | some z, some b, some zero => if zero.length = z ∧ z ≠ 0 then some (.mk z b zero) else none
    | _, _, _ => none
  | _ => none
def cApp (P : Program) (t t2 : TypeId) : Option SO :=
  match P.underlying t, P.underlying t2 with
  | some (.slice e), some (.slice _) => match szOf P e, bytesOf' P e, zeroOf P e with
    | some z, some b, some zero => if zero.length = z ∧ z ≠ 0 then some (.app z b) else none
    | _, _, _ => none
  | _, _ => none
def cClr (P : Program) (t : TypeId) : Option SO :=
  match P.underlying t with
  | some (.slice e) => match szOf P e, zeroOf P e with
    | some (z + 1), some zero => if zero.length = z + 1 then some (.clr (z + 1) zero) else none
    | _, _ => none
  | _ => none
theorem cClr_is {P : Program} {t : TypeId} {so : SO} (h : cClr P t = some so) : ∃ e z zero, P.underlying t = some (.slice e) ∧ szOf P e = some (z + 1) ∧ zeroOf P e = some zero ∧ zero.length = z + 1 ∧ so = .clr (z + 1) zero := by
  unfold cClr at h
  split at h
  · rename_i e hu
    split at h
    · rename_i z zero hz h0
      split at h <;> cases h
      exact ⟨e, z, zero, hu, hz, h0, by assumption, rfl⟩
    · cases h
  · cases h
def cBuiltin (P : Program) (b : Builtin) (ts : List TypeId) : Option SO :=
  match b, ts with
  | .len, [t] => match P.underlying t with
    | some (.array n _) => some (.po (.lenA n))
    | _ => (lenOf' P t).map .len
  | .max, _ => some (.po .mx)
  | .min, _ => some (.po .mn)
  | .append, [t, t2] => cApp P t t2
  | .clear, [t] => cClr P t
  | _, _ => none
def notMethod : Fn → Bool
  | .func _ => true
  | _ => false
/-- The operation, and its operands. -/
def cOp (P : Program) (hd : Bool) (op : Op) : Option (SO × List Operand) :=
  match op with
  | .move x | .assign x => some (.mv, [x])
  | .pick c x y => some (.pick, [c, x, y])
  | .alloc e => (zeroOf P e).map fun z => (.alloc z, [])
  | .box _ x => some (.box, [x])
  | .build t parts => (cBuild P t (parts.toList.map (·.1))).map fun p => (.po p, parts.toList.map (·.2))
  | .buildSlice t n parts => (cBs P hd t n (parts.toList.map (·.1))).map fun s => (s, parts.toList.map (·.2))
  | .load t x => match aggOf P t, szOf P t with
    | some g, some (z + 1) => some (.ld g (z + 1) hd, [x])
    | _, _ => none
  | .store t x v => match szOf P t with
    | some (z + 1) => some (.st (z + 1), [x, v])
    | _ => none
  | .nilCheck x => some (.nck, [x])
  | .binOp op t x y _ => (cBin P op t).map fun p => (.po p, [x, y])
  | .unOp op _ x => some (.po (.un op), [x])
  | .convert src dst x => (cCv P src dst).map fun s => (s, [x])
  | .makeInterface t x => if P.concrete t then some (.po (.mkI t), [x]) else none
  | .makeFunc fn first cap => some (.po (.mkF fn first.size), first.toList ++ cap.toList)
  | .makeSlice t l c => (cMk P t).map fun s => (s, [l, c])
  | .slice t x lo hi mx => (slOf P t).map fun (str, z) => (.sl str z lo.isSome hi.isSome mx.isSome, x :: (lo.toList ++ hi.toList ++ mx.toList))
  | .fieldAddr t x f => (foffOf P t f).map fun off => (.fa off, [x])
  | .field t x f => (cField P t f).map fun p => (.po p, [x])
  | .indexAddr t x i => (iaOf P t).map fun (arr, z) => (.ia arr z, [x, i])
  | .index t x i => (cIndex P t).map fun p => (.po p, [x, i])
  | .extract x i => some (.po (.ext i), [x])
  | .call c => match c.callee with
    | .value (.func f) => some (.call f, c.args.toList)
    | .value x => some (.callD, x :: c.args.toList)
    | .builtin b => (cBuiltin P b c.argTypes.toList).map fun s => (s, c.args.toList)
    | .invoke _ _ => none
  | _ => none
/-- What stands for operands, one by one. -/
def RepDL (w : World) (ok : Nat → Prop) (η : Eta) (ds : List D) (us : List Value) : Prop := us.length = ds.length ∧ ∀ (i : Nat) d, ds[i]? = some d → ∃ u, us[i]? = some u ∧ RepD w ok η d u
section
variable {P : Program} {w w0 : World} {U E : Nat → Prop} {nt : Nat} {st : St} {a : Act} {η : Eta} {ok : Nat → Prop}
theorem RepDL.nil : RepDL w ok η [] [] := ⟨rfl, fun i v h => by simp at h⟩
theorem RepDL.cons {d : D} {ds : List D} {u : Value} {us : List Value} (h : RepD w ok η d u) (hs : RepDL w ok η ds us) : RepDL w ok η (d :: ds) (u :: us) := by
  refine ⟨by simp [hs.1], fun i x hx => ?_⟩
  cases i with
  | zero => simp at hx; subst hx; exact ⟨u, rfl, h⟩
  | succ i => simp at hx; simpa using hs.2 i x hx
theorem RepDL.head {d : D} {ds : List D} {us : List Value} (h : RepDL w ok η (d :: ds) us) : ∃ u us', us = u :: us' ∧ RepD w ok η d u ∧ RepDL w ok η ds us' := by
  cases us with
  | nil => simp [RepDL] at h
  | cons u us =>
    obtain ⟨hl, hr⟩ := h
    obtain ⟨u', hu, hv⟩ := hr 0 d rfl
    simp at hu
    subst hu
    exact ⟨u, us, rfl, hv, by simpa using hl, fun i x hx => by simpa using hr (i + 1) x (by simpa using hx)⟩
theorem RepDL.nil_eq {us : List Value} (h : RepDL w ok η [] us) : us = [] := by have := h.1; simpa using this
theorem RepDL.one {d : D} {us : List Value} (h : RepDL w ok η [d] us) : ∃ u, us = [u] ∧ RepD w ok η d u := by
  obtain ⟨u, us', rfl, h1, h2⟩ := h.head
  obtain rfl := h2.nil_eq
  exact ⟨u, rfl, h1⟩
theorem RepDL.two {d d' : D} {us : List Value} (h : RepDL w ok η [d, d'] us) : ∃ u u', us = [u, u'] ∧ RepD w ok η d u ∧ RepD w ok η d' u' := by
  obtain ⟨u, us', rfl, h1, h2⟩ := h.head
  obtain ⟨u', rfl, h3⟩ := h2.one
  exact ⟨u, u', rfl, h1, h3⟩
theorem RepDL.vals : ∀ {ds : List D} {us : List Value} {vs : List V}, RepDL w ok η ds us → allV ds = some vs → RepL w ok vs us
  | [], us, vs, h, hv => by cases hv; rw [h.nil_eq]; exact .nil
  | d :: ds, us, vs, h, hv => by
    obtain ⟨u, us', rfl, h1, h2⟩ := h.head
    cases d <;> simp only [allV] at hv <;> try cases hv
    simp only [Option.map_eq_some_iff] at hv
    obtain ⟨vs', hv, rfl⟩ := hv
    cases h1 with | v _ _ h1 =>
    exact .cons h1 (h2.vals hv)
theorem zip_eval (parts : Array (Nat × Operand)) (ρ : Operand → Value) : (parts.map fun (i, x) => (i, ρ x)) = ((parts.toList.map (·.1)).zip ((parts.toList.map (·.2)).map ρ)).toArray := by
  apply Array.ext'
  simp only [Array.toList_map]
  generalize parts.toList = l
  induction l with
  | nil => rfl
  | cons x l ih => obtain ⟨i, y⟩ := x; simp [ih]
end
end Go.Proofs.YtljcbmnkjiogmaaDoor.Sv
/-! Each operation that only reads does in the model what is said of it. -/
namespace Go.Proofs.YtljcbmnkjiogmaaDoor.Sv
open Go Go.RowKit
set_option linter.unusedVariables false
set_option linter.unusedSimpArgs false
section
variable {P : Program} {w w0 : World} {U E : Nat → Prop} {nt : Nat} {st : St} {a : Act} {η : Eta} {ok : Nat → Prop}
/-- What a run of a reading part gives. -/
def Gives (P : Program) (w : World) (U : Nat → Prop) (objs : List (Nat × List V)) (η : Eta) (s : Sem Value) (d : D) : Prop :=
  ∃ u w', s.run P w = .ok u w' ∧ Below w.heap.size w w' ∧ RepD w' (Ok U objs η w') η d u
theorem Gives.same {s : Sem Value} {d : D} {objs : List (Nat × List V)} {u : Value} (h : s.run P w = .ok u w) (hr : RepD w (Ok U objs η w) η d u) : Gives P w U objs η s d :=
  ⟨u, w, h, Below.refl _ _, hr⟩
theorem Gives.val {s : Sem Value} {v : V} {objs : List (Nat × List V)} (h : ∃ u, s.run P w = .ok u w ∧ RepV w (Ok U objs η w) v u) : Gives P w U objs η s (.v v) :=
  let ⟨u, h1, h2⟩ := h; .same h1 (.v _ _ h2)
theorem Gives.exec {s : Sem Value} {d : D} {objs : List (Nat × List V)} {ρ : Operand → Value} {o : Oper} (he : execOp ρ o = (do pure (.value (← s)))) (h : Gives P w U objs η s d) :
    ∃ u w', (execOp ρ o).run P w = .ok (.value u) w' ∧ Below w.heap.size w w' ∧ RepD w' (Ok U objs η w') η d u := by
  obtain ⟨u, w', h1, h2, h3⟩ := h
  exact ⟨u, w', by rw [he]; simp [h1], h2, h3⟩
theorem po_split {p : PO} {objs : List (Nat × List V)} {ds : List D} {d : D} (h : (SO.po p).rd objs ds = some d) : ∃ vs r, allV ds = some vs ∧ p.run vs = some r ∧ d = .v r := by
  simp only [SO.rd, Option.bind_eq_some_iff, Option.map_eq_some_iff] at h
  obtain ⟨vs, h1, r, h2, rfl⟩ := h
  exact ⟨vs, r, h1, h2, rfl⟩
theorem bin_gives {op : BinOp} {t : TypeId} {p : PO} {ds : List D} {d : D} {x y : Operand} (hc : cBin P op t = some p) (hv : RepDL w (Ok U st.objs η w) η ds [a.eval x, a.eval y]) (h : (SO.po p).rd st.objs ds = some d) :
    Gives P w U st.objs η (do eqGuard op t x y (a.eval x) (a.eval y); binOp op t (a.eval x) (a.eval y)) d := by
  obtain ⟨vs, r, h1, h2, rfl⟩ := po_split h
  have hl := hv.vals h1
  have hlen : vs.length = 2 := by have := hl.1; simpa using this.symm
  obtain ⟨v1, v2, rfl⟩ : ∃ v1 v2, vs = [v1, v2] := by
    match vs, hlen with
    | [v1, v2], _ => exact ⟨v1, v2, rfl⟩
  obtain ⟨u1, u2, he, r1, r2⟩ := hl.two
  simp only [List.cons.injEq, and_true] at he
  obtain ⟨he1, he2⟩ := he
  rw [← he1] at r1
  rw [← he2] at r2
  unfold cBin at hc
  split at hc
  · cases hc; exact .val (binV_sound r1 r2 h2 x y)
  · cases hc; exact .val (binV_sound r1 r2 h2 x y)
  · rename_i hu
    split at hc <;> cases hc
    · exact .val (beq_sound r1 r2 h2 hu rfl x y)
    · exact .val (beq_sound r1 r2 h2 hu rfl x y)
  · split at hc
    · cases hc
    · rename_i hg
      split at hc
      · simp only [Option.map_eq_some_iff] at hc
        obtain ⟨ls, hls, rfl⟩ := hc
        exact .val (veq_sound r1 r2 h2 hls (by simpa using hg) rfl x y)
      · simp only [Option.map_eq_some_iff] at hc
        obtain ⟨ls, hls, rfl⟩ := hc
        exact .val (veq_sound r1 r2 h2 hls (by simpa using hg) rfl x y)
      · cases hc
  · cases hc
theorem vals_one {ds : List D} {u : Value} {vs : List V} (hv : RepDL w ok η ds [u]) (h : allV ds = some vs) : ∃ v, vs = [v] ∧ RepV w ok v u := by
  have hl := hv.vals h
  have hlen : vs.length = 1 := by have := hl.1; simpa using this.symm
  obtain ⟨v, rfl⟩ : ∃ v, vs = [v] := by
    match vs, hlen with
    | [v], _ => exact ⟨v, rfl⟩
  obtain ⟨u', he, hr⟩ := hl.one
  cases he
  exact ⟨v, rfl, hr⟩
theorem vals_two {ds : List D} {u u' : Value} {vs : List V} (hv : RepDL w ok η ds [u, u']) (h : allV ds = some vs) : ∃ v v', vs = [v, v'] ∧ RepV w ok v u ∧ RepV w ok v' u' := by
  have hl := hv.vals h
  have hlen : vs.length = 2 := by have := hl.1; simpa using this.symm
  obtain ⟨v, v', rfl⟩ : ∃ v v', vs = [v, v'] := by
    match vs, hlen with
    | [v, v'], _ => exact ⟨v, v', rfl⟩
  obtain ⟨u1, u2, he, h1, h2⟩ := hl.two
  cases he
  exact ⟨v, v', rfl, h1, h2⟩
theorem vals_three {ds : List D} {u u' u'' : Value} {vs : List V} (hv : RepDL w ok η ds [u, u', u'']) (h : allV ds = some vs) : ∃ v v' v'', vs = [v, v', v''] ∧ RepV w ok v u ∧ RepV w ok v' u' ∧ RepV w ok v'' u'' := by
  have hl := hv.vals h
  have hlen : vs.length = 3 := by have := hl.1; simpa using this.symm
  obtain ⟨v, v', v'', rfl⟩ : ∃ v v' v'', vs = [v, v', v''] := by
    match vs, hlen with
    | [v, v', v''], _ => exact ⟨v, v', v'', rfl⟩
  obtain ⟨u1, u2, u3, he, h1, h2, h3⟩ := hl.three
  cases he
  exact ⟨v, v', v'', rfl, h1, h2, h3⟩
theorem unbyte_len : ∀ {cs : List V} {l : List UInt8}, unbyte cs = some l → cs = bytesV l
  | [], l, h => by cases h; rfl
  | c :: r, l, h => by
    unfold unbyte at h
    split at h
    · rename_i heq; cases heq
    · rename_i x r' heq
      cases heq
      split at h
      · rename_i hx
        simp only [Option.map_eq_some_iff] at h
        obtain ⟨l', h1, rfl⟩ := h
        rw [unbyte_len h1]
        simp only [bytesV, List.map_cons]
        congr 2
        rw [UInt8.toNat_ofNat']
        omega
      · cases h
    · cases h
theorem conv_gives {src dst : TypeId} {p : PO} {ds : List D} {d : D} {u : Value} {objs : List (Nat × List V)} (hc : cConv P src dst = some p) (hv : RepDL w (Ok U objs η w) η ds [u]) (h : (SO.po p).rd objs ds = some d)
    (hlies : ∀ s cs b o, look objs s = some cs → η s = some (b, o) → b < w.heap.size) (hU : ∀ b, U b → b < w.heap.size) :
    Gives P w U objs η (convert src dst u) d := by
  obtain ⟨vs, r, h1, h2, rfl⟩ := po_split h
  obtain ⟨v, rfl, hr⟩ := vals_one hv h1
  unfold cConv at hc
  split at hc
  · cases hc
    rename_i hs hd
    simp only [PO.run, toIntV] at h2
    split at h2 <;> cases h2
    rename_i he
    cases he
    cases hr
    exact .same (by simp [convert, run_underlying hs, run_underlying hd, Conv.intToInt] <;> rfl) (.v _ _ (.n _ _))
  · cases hc
    rename_i hs hd
    simp only [PO.run, i2sV] at h2
    split at h2 <;> cases h2
    rename_i he
    cases he
    cases hr
    exact .same (by simp [convert, run_underlying hs, run_underlying hd, Conv.intToString] <;> rfl) (.v _ _ (.s _))
  · cases hc
    rename_i hs hd
    simp only [PO.run, sameV] at h2
    split at h2 <;> cases h2
    rename_i he
    cases he
    cases hr
    exact .same (by simp [convert, run_underlying hs, run_underlying hd] <;> rfl) (.v _ _ (.s _))
  · rename_i e hs hd
    split at hc <;> cases hc
    rename_i he
    simp only [PO.run, s2bV] at h2
    split at h2 <;> cases h2
    rename_i hx
    cases hx
    cases hr
    rename_i x
    have hrun := run_bytes_of_string (P := P) w src dst e x hs hd he
    have hbel : ∀ o, Below w.heap.size w (w.drew.alloc o) := fun o => ((Below.refl _ w).drew).alloc (by simp) o
    refine ⟨_, _, hrun, hbel _, .v _ _ ?_⟩
    have hl : x.size = x.data.toList.length := (Array.length_toList (xs := x.data)).symm
    rw [hl]
    refine .sl _ _ _ (fun i => .int .u8 ((x.data.toList.getD i 0).toNat : Int)) _ 0 _ ⟨by simp, fun hu => by have := hU _ hu; omega, fun s cs o h1 h2 => by have := hlies s cs _ o h1 h2; omega⟩ (by rw [← hl]; exact grownCap_ge ..) (fun h => by cases h) (fun i v hi => ?_) (fun i v hi => ?_)
    · simp only [bytesV, List.getElem?_map, Option.map_eq_some_iff] at hi
      obtain ⟨b, hb, rfl⟩ := hi
      have hlt := (List.getElem?_eq_some_iff.1 hb).1
      have h3 := World.cell?_alloc_mark w.drew (bytesRow x (grownCap w x.size 0 e)) e ((bytesRow x (grownCap w x.size 0 e)).size, (bytesRow x (grownCap w x.size 0 e)).size + 1) i
      rw [show w.drew.heap.size = w.heap.size by simp] at h3
      rw [Nat.zero_add, ← hl, h3, bytesRow_at x _ i (by simpa using hlt)]
      simp only [List.getD_eq_getElem?_getD, hb, Option.getD_some]
      congr 4
      have := (List.getElem?_eq_some_iff.1 hb).2
      rw [← this]; simp
    · simp only [bytesV, List.getElem?_map, Option.map_eq_some_iff] at hi
      obtain ⟨b, hb, rfl⟩ := hi
      simp only [List.getD_eq_getElem?_getD, hb, Option.getD_some]
      exact .n _ _
  · rename_i e hs hd
    split at hc <;> cases hc
    rename_i he
    simp only [PO.run, b2sV] at h2
    split at h2
    case h_2 => cases h2
    rename_i n cs t hx
    cases hx
    split at h2
    case isFalse => cases h2
    rename_i hn
    simp only [Option.map_eq_some_iff] at h2
    obtain ⟨l, hl, rfl⟩ := h2
    have hcs := unbyte_len hl
    subst hcs
    have hln : n = l.length := by simpa [bytesV] using hn.symm
    generalize hb : bytesV l = bs at hr
    cases hr with
    | sl0 _ p =>
      have h0 : l = [] := by cases l with
        | nil => rfl
        | cons x l => simp at hln
      subst h0
      refine .same ?_ (.v _ _ (.s _))
      rw [run_convert_bytes_string w src dst e _ 0 0 hs he hd]
      cases p <;> simp [Conv.bytesToString, loadCells] <;> rfl
    | sl _ _ _ us bl off cap hok hl' ht hc hr =>
      subst hb
      rw [hln]
      refine .same (run_convert_bytes_back (P := P) w src dst e ⟨bl, off, none⟩ cap l hs he hd fun j hj => ?_) (.v _ _ (.s _))
      have hj' : (bytesV l)[j]? = some (.n .u8 (l[j].toNat : Int)) := by simp [bytesV, hj]
      have h4 := hc j _ hj'
      have h5 := hr j _ hj'
      generalize us j = u at h4 h5
      cases h5
      rw [add_plain]
      exact h4
  · cases hc
theorem field_gives {t : TypeId} {f : Nat} {p : PO} {ds : List D} {d : D} {u : Value} {objs : List (Nat × List V)} (hc : cField P t f = some p) (hv : RepDL w (Ok U objs η w) η ds [u]) (h : (SO.po p).rd objs ds = some d) :
    Gives P w U objs η (Instr.field t u f) d := by
  obtain ⟨vs, r, h1, h2, rfl⟩ := po_split h
  obtain ⟨v, rfl, hr⟩ := vals_one hv h1
  unfold cField at hc
  split at hc
  · rename_i hu
    split at hc
    · rename_i hf
      split at hc <;> cases hc
      rename_i hg hz
      exact .val (fld_sound hr h2 hu hf hg hz)
    · cases hc
  · cases hc
theorem index_gives {t : TypeId} {p : PO} {ds : List D} {d : D} {u i : Value} {objs : List (Nat × List V)} (hc : cIndex P t = some p) (hv : RepDL w (Ok U objs η w) η ds [u, i]) (h : (SO.po p).rd objs ds = some d) :
    Gives P w U objs η (Instr.index t u i) d := by
  obtain ⟨vs, r, h1, h2, rfl⟩ := po_split h
  obtain ⟨v, v', rfl, hr, hr'⟩ := vals_two hv h1
  unfold cIndex at hc
  split at hc
  · rename_i hu
    split at hc <;> cases hc
    rename_i hg hz
    exact .val (idxA_sound hr hr' h2 hu hg hz)
  · rename_i hu
    cases hc
    exact .val (idxS_sound hr hr' h2 hu)
  · cases hc
theorem build_gives {t : TypeId} {is : List Nat} {us : List Value} {p : PO} {ds : List D} {d : D} {objs : List (Nat × List V)} (hc : cBuild P t is = some p) (hv : RepDL w (Ok U objs η w) η ds us) (h : (SO.po p).rd objs ds = some d) :
    Gives P w U objs η (Instr.build t (is.zip us).toArray) d := by
  obtain ⟨vs, r, h1, h2, rfl⟩ := po_split h
  have hl := hv.vals h1
  unfold cBuild at hc
  split at hc
  · rename_i n e hu
    split at hc <;> cases hc
    rename_i hz h0 hp
    exact .val (buildV_sound h0 hp hl h2 ⟨_, hu, .inl ⟨n, e, _, rfl, hz⟩⟩)
  · rename_i fs hu
    split at hc <;> cases hc
    rename_i hz h0 hp
    exact .val (buildV_sound h0 hp hl h2 ⟨_, hu, .inr ⟨fs, _, rfl, hz⟩⟩)
  · cases hc
theorem bsl_gives {t : TypeId} {n : Nat} {is : List Nat} {us : List Value} {p : PO} {ds : List D} {d : D} {objs : List (Nat × List V)} (hc : cBsl P t n is = some p) (hv : RepDL w (Ok U objs η w) η ds us) (h : (SO.po p).rd objs ds = some d)
    (hlies : ∀ s cs b o, look objs s = some cs → η s = some (b, o) → b < w.heap.size) (hU : ∀ b, U b → b < w.heap.size) :
    Gives P w U objs η (Instr.buildSlice t n (is.zip us).toArray) d := by
  obtain ⟨vs, r, h1, h2, rfl⟩ := po_split h
  have hl := hv.vals h1
  unfold cBsl at hc
  split at hc
  · rename_i e hu
    split at hc
    · rename_i zero z hz hsz
      split at hc
      · rename_i ps hp
        split at hc <;> cases hc
        rename_i hb
        obtain ⟨u, w', g1, g2, g3⟩ := bslV_sound hu hz hsz hb.1 hp hb.2.1 hb.2.2 hl h2
        exact ⟨u, w', g1, g2, .v _ _ (g3 _ (fun b hb => (hb.below g2).1) (fun b hb => hb.1) (fun b hb hb' => ⟨hb', fun hu => by have := hU b hu; omega, fun s cs o h1 h2 => by have := hlies s cs b o h1 h2; omega⟩))⟩
      · cases hc
    · cases hc
  · cases hc
theorem len_gives {c : Call} {so : SO} {ty : TypeId} {us : List Value} {ds : List D} {d : D} {b : Builtin} {objs : List (Nat × List V)} (hb : cBuiltin P b c.argTypes.toList = some so) (hv : RepDL w (Ok U objs η w) η ds us) (h : so.rd objs ds = some d)
    (ha : c.args.map a.eval = us.toArray) (cs : Array Bool) : ∃ s : Sem Value, builtin b c.argTypes ty cs us.toArray = (do pure (.value (← s))) ∧ Gives P w U objs η s d := by
  unfold cBuiltin at hb
  split at hb
  · rename_i t hts
    have h0 : c.argTypes[0]? = some t := by rw [← Array.getElem?_toList, hts]; rfl
    refine ⟨Builtin.len_ c.argTypes ty us.toArray, rfl, ?_⟩
    split at hb
    · rename_i n e hu
      cases hb
      obtain ⟨vs, r, h1, h2, rfl⟩ := po_split h
      simp only [PO.run] at h2
      unfold lenAV at h2
      split at h2 <;> cases h2
      have hl := (hv.vals h1).1
      obtain ⟨u, rfl⟩ : ∃ u, us = [u] := by
        match us, hl with
        | [u], _ => exact ⟨u, rfl⟩
      exact .same (by simp [Builtin.len_, h0, run_underlying hu] <;> rfl) (.v _ _ (.n _ _))
    · simp only [Option.map_eq_some_iff] at hb
      obtain ⟨str, hs, rfl⟩ := hb
      match ds, h with
      | [x], h =>
        obtain ⟨u, rfl, hr⟩ := hv.one
        obtain ⟨u', g1, g2⟩ := len_sound hr h h0 hs
        exact .same g1 g2
  · cases hb
    refine ⟨Builtin.max_ c.argTypes ty us.toArray, rfl, ?_⟩
    obtain ⟨vs, r, h1, h2, rfl⟩ := po_split h
    have hl := hv.vals h1
    simp only [PO.run] at h2
    unfold mxV at h2
    split at h2
    · obtain ⟨u, us', rfl, r1, r2⟩ := hl.head
      cases r1
      obtain ⟨z, g1, g2⟩ := mx_sound (P := P) r2 h2
      exact .same (by simpa [Builtin.max_] using g1) (.v _ _ g2)
    · cases h2
  · cases hb
    refine ⟨Builtin.min_ c.argTypes ty us.toArray, rfl, ?_⟩
    obtain ⟨vs, r, h1, h2, rfl⟩ := po_split h
    have hl := hv.vals h1
    simp only [PO.run] at h2
    unfold mnV at h2
    split at h2
    · obtain ⟨u, us', rfl, r1, r2⟩ := hl.head
      cases r1
      obtain ⟨z, g1, g2⟩ := mn_sound (P := P) r2 h2
      exact .same (by simpa [Builtin.min_] using g1) (.v _ _ g2)
    · cases h2
  · unfold cApp at hb
    split at hb
    · split at hb
      · split at hb <;> cases hb
        cases h
      · cases hb
    · cases hb
  · obtain ⟨e, z, zero, _, _, _, _, rfl⟩ := cClr_is hb
    match ds, h with
    | [], h => cases h
    | [_], h => cases h
    | _ :: _ :: _, h => cases h
  · cases hb
set_option maxHeartbeats 4000000 in
theorem rd_sound {hd : Bool} {o : Oper} {so : SO} {xs : List Operand} {ds : List D} {d : D} (hrel : Rel w0 U E nt st a w η) (hc : cOp P hd o.op = some (so, xs))
    (hv : RepDL w (Ok U st.objs η w) η ds (xs.map a.eval)) (h : so.rd st.objs ds = some d) :
    ∃ u w', (execOp a.eval o).run P w = .ok (.value u) w' ∧ Below w.heap.size w w' ∧ RepD w' (Ok U st.objs η w') η d u := by
  have hU : ∀ b, U b → b < w.heap.size := fun b hb => Nat.lt_of_lt_of_le (hrel.uold b hb).1 hrel.keeps.size
  have hlies : ∀ s cs b o, look st.objs s = some cs → η s = some (b, o) → b < w.heap.size := fun s cs b o h1 h2 => (hrel.lies s cs b o h1 h2).2
  obtain ⟨dst, op, type, pos, after, guard⟩ := o
  simp only at hc
  cases op <;> simp only [cOp] at hc <;> try (cases hc; done)
  case move x =>
    cases hc
    match ds, h with
    | [e], h =>
      cases h
      obtain ⟨u, he, hr⟩ := hv.one
      cases he
      exact Gives.exec (s := pure (a.eval x)) rfl (.same rfl hr)
  case assign x =>
    cases hc
    match ds, h with
    | [e], h =>
      cases h
      obtain ⟨u, he, hr⟩ := hv.one
      cases he
      exact Gives.exec (s := pure (a.eval x)) rfl (.same rfl hr)
  case pick c x y =>
    cases hc
    match ds, h with
    | [.v (.b b), p, q], h =>
      cases h
      obtain ⟨u, us, he, hr, hv⟩ := hv.head
      obtain ⟨u2, us2, he2, hr2, hv⟩ := hv.head
      obtain ⟨u3, he3, hr3⟩ := hv.one
      simp only [List.map_cons, List.map_nil, List.cons.injEq] at he
      obtain ⟨rfl, rfl⟩ := he
      simp only [List.cons.injEq] at he2
      obtain ⟨rfl, rfl⟩ := he2
      simp only [List.cons.injEq, and_true] at he3
      subst he3
      generalize hcc : a.eval c = uc at hr
      cases hr with | v _ _ hr =>
      cases hr
      cases b
      · exact ⟨a.eval y, w, by simp [execOp, hcc, asBool], Below.refl _ _, hr3⟩
      · exact ⟨a.eval x, w, by simp [execOp, hcc, asBool], Below.refl _ _, hr2⟩
  case alloc e =>
    simp only [Option.map_eq_some_iff] at hc
    obtain ⟨z, hz, hc⟩ := hc
    cases hc
    cases h
  case box e x => cases hc; cases h
  case build t parts =>
    simp only [Option.map_eq_some_iff] at hc
    obtain ⟨p, hp, hc⟩ := hc
    cases hc
    refine Gives.exec (s := Instr.build t (parts.map fun (i, x) => (i, a.eval x))) rfl ?_
    rw [zip_eval]
    exact build_gives hp hv h
  case buildSlice t n parts =>
    simp only [Option.map_eq_some_iff] at hc
    obtain ⟨so', hs, hc⟩ := hc
    cases hc
    unfold cBs at hs
    split at hs
    case h_2 => cases hs
    rename_i n' zero ps hp
    split at hs
    · split at hs <;> cases hs
      cases h
    cases hs
    refine Gives.exec (s := Instr.buildSlice t n (parts.map fun (i, x) => (i, a.eval x))) rfl ?_
    rw [zip_eval]
    exact bsl_gives hp hv h hlies hU
  case load t x =>
    split at hc <;> cases hc
    rename_i g z hg hz
    match ds, h with
    | [e], h =>
      obtain ⟨u, he, hr⟩ := hv.one
      cases he
      obtain ⟨u', g1, g2⟩ := ld_sound hrel hr h hg hz (by omega)
      exact Gives.exec (s := Instr.loadAt t (a.eval x)) rfl (.same g1 g2)
  case store t x v =>
    split at hc <;> cases hc
    cases h
  case nilCheck x =>
    cases hc
    match ds, h with
    | [e], h =>
      obtain ⟨u, he, hr⟩ := hv.one
      simp only [List.map_cons, List.map_nil, List.cons.injEq, and_true] at he
      rw [← he] at hr
      generalize hu : a.eval x = ux at hr
      refine ⟨ux, w, ?_, Below.refl _ _, ?_⟩
      · simp only [SO.rd] at h
        unfold nckD at h
        split at h <;> cases h
        · cases hr with | v _ _ hr => cases hr; simp [execOp, hu]
        · cases hr; simp [execOp, hu]
        · cases hr with | v _ _ hr => cases hr; simp [execOp, hu]
      · simp only [SO.rd] at h
        unfold nckD at h
        split at h <;> cases h <;> exact hr
  case binOp op t x y yt =>
    simp only [Option.map_eq_some_iff] at hc
    obtain ⟨p, hp, hc⟩ := hc
    cases hc
    exact Gives.exec (s := do eqGuard op t x y (a.eval x) (a.eval y); binOp op t (a.eval x) (a.eval y)) rfl (bin_gives hp hv h)
  case unOp op t x =>
    cases hc
    obtain ⟨vs, r, h1, h2, rfl⟩ := po_split h
    obtain ⟨v, rfl, r1⟩ := vals_one hv h1
    exact Gives.exec (s := Op.unary op (a.eval x)) rfl (.val (un_sound r1 h2))
  case convert src dst x =>
    simp only [Option.map_eq_some_iff] at hc
    obtain ⟨so', hs, hc⟩ := hc
    cases hc
    unfold cCv at hs
    split at hs
    · cases hs
      cases h
    simp only [Option.map_eq_some_iff] at hs
    obtain ⟨p, hp, rfl⟩ := hs
    exact Gives.exec (s := convert src dst (a.eval x)) rfl (conv_gives hp hv h hlies hU)
  case makeInterface t x =>
    split at hc <;> cases hc
    rename_i ht
    obtain ⟨vs, r, h1, h2, rfl⟩ := po_split h
    obtain ⟨v, rfl, r1⟩ := vals_one hv h1
    cases h2
    exact Gives.exec (s := Instr.makeInterface t (a.eval x)) rfl (.same (run_makeInterface (P := P) w t _ ht) (.v _ _ (.ifc _ _ _ r1)))
  case makeFunc fn first cap =>
    cases hc
    obtain ⟨vs, r, h1, h2, rfl⟩ := po_split h
    cases h2
    have hl := hv.vals h1
    simp only [List.map_append] at hl
    have e1 : (first.map a.eval).toList = first.toList.map a.eval := by simp
    have e2 : (cap.map a.eval).toList = cap.toList.map a.eval := by simp
    have hf := hl.take first.size
    have hca := hl.drop first.size
    rw [List.take_left' (by simp)] at hf
    rw [List.drop_left' (by simp)] at hca
    rw [← e1] at hf
    rw [← e2] at hca
    have hf' := hf.to_array
    have hca' := hca.to_array
    simp only [Array.toArray_toList] at hf' hca'
    exact Gives.exec (s := Instr.makeFunc fn (first.map a.eval) (cap.map a.eval)) rfl (.same rfl (.v _ _ (.clo _ _ _ _ _ hf'.1 hca'.1 hf'.2 hca'.2)))
  case makeSlice t l c =>
    simp only [Option.map_eq_some_iff] at hc
    obtain ⟨s, hs, hc⟩ := hc
    cases hc
    unfold cMk at hs
    split at hs
    · split at hs
      · split at hs <;> cases hs
        cases h
      · cases hs
    · cases hs
  case slice t x lo hi mx =>
    simp only [Option.map_eq_some_iff] at hc
    obtain ⟨⟨str, z⟩, hz, hc⟩ := hc
    cases hc
    refine Gives.exec (s := Instr.sliceAt t (a.eval x) (lo.map a.eval) (hi.map a.eval) (mx.map a.eval)) rfl ?_
    match ds, h with
    | e :: ds, h =>
      simp only [SO.rd, slArgs, Option.bind_eq_some_iff] at h
      obtain ⟨⟨dl, ds1⟩, h1, ⟨dh, ds2⟩, h2, ⟨dm, ds3⟩, h3, h⟩ := h
      split at h
      · cases h
      rename_i hsm
      obtain ⟨u, us', he, hr, hrs⟩ := hv.head
      simp only [List.map_cons, List.cons.injEq] at he
      obtain ⟨he1, he2⟩ := he
      subst he1
      rw [← he2] at hrs
      have opt : ∀ (y : Option Operand) (ys : List Operand) (ds ds' : List D) (q : Option D), optArg y.isSome ds = some (q, ds') → RepDL w (Ok U st.objs η w) η ds ((y.toList ++ ys).map a.eval) → RepQ w (Ok U st.objs η w) η q (y.map a.eval) ∧ RepDL w (Ok U st.objs η w) η ds' (ys.map a.eval) := fun y ys ds ds' q ho hd => by
        cases y with
        | none => cases ho; exact ⟨.none, hd⟩
        | some y =>
          simp only [optArg, Option.isSome_some, if_true] at ho
          cases ds with
          | nil => cases ho
          | cons e ds =>
            cases ho
            obtain ⟨u, us', he, h1, h2⟩ := hd.head
            simp only [Option.toList_some, List.cons_append, List.nil_append, List.map_cons, List.cons.injEq] at he
            obtain ⟨rfl, rfl⟩ := he
            exact ⟨.some _ _ h1, h2⟩
      obtain ⟨ql, hrs⟩ := opt lo (hi.toList ++ mx.toList) _ _ _ h1 (by simpa using hrs)
      obtain ⟨qh, hrs⟩ := opt hi mx.toList _ _ _ h2 (by simpa using hrs)
      obtain ⟨qm, hrs⟩ := opt mx [] _ _ _ h3 (by simpa using hrs)
      obtain ⟨u', g1, g2⟩ := sl_sound (P := P) hr ql qh qm h hz (fun hs => by
        subst hs
        simp only [Bool.true_and] at hsm
        cases mx with
        | none => cases h3; rfl
        | some y => simp at hsm)
      exact .same g1 g2
  case fieldAddr t x f =>
    simp only [Option.map_eq_some_iff] at hc
    obtain ⟨off, ho, hc⟩ := hc
    cases hc
    match ds, h with
    | [e], h =>
      obtain ⟨u, he, hr⟩ := hv.one
      cases he
      obtain ⟨u', g1, g2⟩ := fa_sound hr h ho
      exact Gives.exec (s := Instr.fieldAt t (a.eval x) f) rfl (.same g1 g2)
  case field t x f =>
    simp only [Option.map_eq_some_iff] at hc
    obtain ⟨p, hp, hc⟩ := hc
    cases hc
    exact Gives.exec (s := Instr.field t (a.eval x) f) rfl (field_gives hp hv h)
  case indexAddr t x i =>
    simp only [Option.map_eq_some_iff] at hc
    obtain ⟨⟨arr, z⟩, hz, hc⟩ := hc
    cases hc
    match ds, h with
    | [e, e'], h =>
      obtain ⟨u, u', he, hr, hr'⟩ := hv.two
      cases he
      obtain ⟨u', g1, g2⟩ := ia_sound hr hr' h hz
      exact Gives.exec (s := Instr.indexAt t (a.eval x) (a.eval i)) rfl (.same g1 g2)
  case index t x i =>
    simp only [Option.map_eq_some_iff] at hc
    obtain ⟨p, hp, hc⟩ := hc
    cases hc
    exact Gives.exec (s := Instr.index t (a.eval x) (a.eval i)) rfl (index_gives hp hv h)
  case extract x i =>
    cases hc
    obtain ⟨vs, r, h1, h2, rfl⟩ := po_split h
    obtain ⟨v, rfl, r1⟩ := vals_one hv h1
    exact Gives.exec (s := Instr.extract (a.eval x) i) rfl (.val (ext_sound r1 h2))
  case call c =>
    split at hc
    · cases hc; cases h
    · cases hc; cases h
    · rename_i b hcal
      simp only [Option.map_eq_some_iff] at hc
      obtain ⟨s, hs, hc⟩ := hc
      cases hc
      have ea : c.args.map a.eval = (c.args.toList.map a.eval).toArray := by apply Array.ext'; simp
      obtain ⟨s', e1, g⟩ := len_gives (ty := type) hs hv h ea (c.args.map fun | .const _ => true | _ => false)
      refine Gives.exec (s := s') ?_ g
      simp only [execOp, resolve, hcal, pure_bind, invoke]
      rw [ea]
      exact e1
    · cases hc
end
end Go.Proofs.YtljcbmnkjiogmaaDoor.Sv
