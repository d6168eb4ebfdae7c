/- Calls, and one operation's step. No condition. -/
import Derived.Test.YtdceakejbnolpaaSv12
namespace Go.Proofs.Ytdceakejbnolpaa.Sv
open Go Go.RowKit
set_option linter.unusedVariables false
set_option linter.unusedSimpArgs false

/-- An append onto a value by itself that has no room. -/
def appV (objs : List (Nat × List V)) (z by_ : Nat) : List D → Option D
  | [.v (.sl n xs true), x] => (appArg objs z x).bind fun (m, ys) => if xs.length = n * z ∧ (n + m) * by_ ≤ 2 ^ 47 ∧ by_ ≠ 0 then some (.v (.sl (n + m) (xs ++ ys) false)) else none
  | _ => none
/-- What an operation yields that only reads, an append onto a value by itself among them. -/
def SO.rdx (objs : List (Nat × List V)) (so : SO) (ds : List D) : Option D :=
  match so with
  | .app z by_ => appV objs z by_ ds
  | .appv z by_ => appV objs z by_ ds
  | so => so.rd objs ds
/-- What an argument reads as when it is handed on. -/
def snapV (objs : List (Nat × List V)) : D → Option V
  | .v x => some x
  | .own s z off ln => (look objs s).map fun cs => .sl ln ((cs.drop off).take (ln * z)) false
  | .ref s off => (look objs s).map fun cs => .ip (cs.drop off)
  | .dead => none
def snapL (objs : List (Nat × List V)) : List D → Option (List V)
  | [] => some []
  | d :: ds => match snapV objs d, snapL objs ds with
    | some v, some vs => some (v :: vs)
    | _, _ => none
def D.isV : D → Bool
  | .v _ => true
  | _ => false
/-- A value that leads nowhere. -/
def V.flat1 : V → Bool
  | .b _ | .n _ _ | .s _ | .nilp | .nilf | .nili => true
  | _ => false
def V.flat : V → Bool
  | .tup xs => xs.all V.flat1
  | .agg xs => xs.all V.flat1
  | v => v.flat1
def CallOk (P : Program) (f : FuncId) (args : Array Value) (w : World) (R : Ending → World → Prop) : Prop :=
  match (callFunc f args).run P w with
  | .ok (.enter g as_) w1 => g = f ∧ as_ = args ∧ w1 = w ∧ Calls P f args w R
  | .ok (.value v) w1 => R (.returned v) w1
  | _ => False
/-- A call that turns nothing that was there and hands back r, whatever memory it finds its arguments in; what it hands back lies apart from the blocks of U, if the arguments do. -/
def Pure (P : Program) (f : FuncId) (args : List V) (r : V) : Prop :=
  ∀ (w : World) (U : Nat → Prop) (us : List Value), (∀ b, U b → b < w.heap.size) → RepL w (fun b => b < w.heap.size ∧ ¬ U b) args us →
    CallOk P f us.toArray w fun e w' => ∃ u, e = .returned u ∧ RepV w' (fun b => b < w'.heap.size ∧ ¬ U b) r u ∧ Below w.heap.size w w'
/-! ### Calls that write to an object that they are handed -/
/-- The same of the object named k. -/
def D.rekey (k : Nat) : D → D
  | .v x => .v x
  | .ref _ o => .ref k o
  | .own _ z o l => .own k z o l
  | .dead => .dead
def onlyZ : D → Bool
  | .own 0 _ 0 _ | .ref 0 0 => true
  | _ => false
def resZ : D → Bool
  | .v _ | .own 0 _ _ _ | .ref 0 _ => true
  | _ => false
def okMu (w : World) (U : Nat → Prop) (pl : Option (Nat × Nat)) (b : Nat) : Prop := b < w.heap.size ∧ ¬ U b ∧ ∀ o, pl ≠ some (b, o)
/-- Of what was there only the block at pl is written, and no block changes its size. -/
structure Turned (w w' : World) (pl : Option (Nat × Nat)) : Prop where
  os : w'.os = w.os
  tape : w'.tape = w.tape
  output : w'.output = w.output
  size : w.heap.size ≤ w'.heap.size
  block : ∀ k, k < w.heap.size → (∀ o, pl ≠ some (k, o)) → w'.heap[k]? = w.heap[k]?
  row : ∀ k, k < w.heap.size → rowSize w' k = rowSize w k
/-- A call that is handed values and one object (named 0), with the cells cs; it hands back r and leaves the cells cs'. -/
def Mut (P : Program) (f : FuncId) (pre : List V) (d : D) (cs : List V) (post : List V) (r : D) (cs' : List V) : Prop :=
  resZ r = true ∧ ∀ (w : World) (U : Nat → Prop) (pl : Option (Nat × Nat)) (us1 : List Value) (u : Value) (us2 : List Value), (∀ b, U b → b < w.heap.size) → (∀ b o, pl = some (b, o) → ¬ U b ∧ b < w.heap.size) →
    RepL w (okMu w U pl) pre us1 → RepD w (okMu w U pl) (fun _ => pl) d u → RepL w (okMu w U pl) post us2 → RepO w (okMu w U pl) (fun _ => pl) 0 cs →
    CallOk P f (us1 ++ u :: us2).toArray w fun e w' => ∃ ur, e = .returned ur ∧ RepD w' (okMu w' U pl) (fun _ => pl) r ur ∧ RepO w' (okMu w' U pl) (fun _ => pl) 0 cs' ∧ Turned w w' pl
/-- An operation, its types looked up and its guard's slot. -/
structure SOp where
  dst : Option Nat
  guard : Option (Nat × Bool)
  so : SO
  args : List Opd
def evs (st : St) : List Opd → Option (List D)
  | [] => some []
  | x :: xs => match x.ev st, evs st xs with
    | some d, some ds => some (d :: ds)
    | _, _ => none
/-- The step of an operation that is wanted. -/
inductive Step (P : Program) (o : SOp) (st : St) : St → Prop
  | rd (ds : List D) (d : D) (h1 : evs st o.args = some ds) (h2 : o.so.rdx st.objs ds = some d) : Step P o st (st.put o.dst d)
  | ef (ds : List D) (st' : St) (h1 : evs st o.args = some ds) (h2 : o.so.ef st o.dst ds = some st') : Step P o st st'
  | call (f : FuncId) (ds : List D) (vs : List V) (r : V) (hf : o.so = .call f) (h1 : evs st o.args = some ds) (h2 : snapL st.objs ds = some vs) (h3 : Pure P f vs r)
      (h4 : ds.all D.isV = true ∨ r.flat = true) : Step P o st (st.put o.dst (.v r))
  | callD (f : FuncId) (first cap : List V) (ds : List D) (vs : List V) (r : V) (hf : o.so = .callD) (h1 : evs st o.args = some (.v (.clo (.func f) first cap) :: ds)) (h2 : snapL st.objs ds = some vs) (h3 : Pure P f (first ++ vs ++ cap) r)
      (h4 : ds.all D.isV = true ∨ r.flat = true) : Step P o st (st.put o.dst (.v r))
  | callM (f : FuncId) (pre post : List V) (d : D) (s : Nat) (cs cs' : List V) (r : D) (hf : o.so = .callM f) (h1 : evs st o.args = some (pre.map .v ++ d.rekey s :: post.map .v)) (hz : onlyZ d = true) (h2 : look st.objs s = some cs) (h3 : Mut P f pre d cs post r cs') :
      Step P o st ((⟨st.ρ, upd st.objs s cs'⟩ : St).put o.dst (r.rekey s))
/-- The slot of a guard does not want it. -/
def isOff (want : Bool) : Option D → Bool
  | some (.v (.b x)) => x != want
  | some (.v (.tup [])) => true
  | _ => false
/-- The step of an operation, wanted or not. -/
inductive GStep (P : Program) (o : SOp) (st : St) : St → Prop
  | yes (st' : St) (h : Step P o st st') (hg : o.guard = none ∨ ∃ g want, o.guard = some (g, want) ∧ look st.ρ g = some (.v (.b want))) : GStep P o st st'
  | no (g : Nat) (want : Bool) (hg : o.guard = some (g, want)) (h : isOff want (look st.ρ g) = true) : GStep P o st (st.put o.dst (.v (.tup [])))
section
variable {P : Program} {w w0 w' : World} {U E : Nat → Prop} {nt : Nat} {st st' : St} {a : Act} {η : Eta} {ok : Nat → Prop}
theorem flat1_rep {v : V} {u : Value} {w1 : World} {ok1 : Nat → Prop} (h : RepV w ok v u) (hf : v.flat1 = true) : RepV w1 ok1 v u := by
  cases h <;> first | (simp [V.flat1] at hf; done) | constructor
theorem flat_rep {v : V} {u : Value} {w1 : World} {ok1 : Nat → Prop} (h : RepV w ok v u) (hf : v.flat = true) : RepV w1 ok1 v u := by
  cases h with
  | agg xs us hl hr => exact .agg xs us hl fun i v hi => flat1_rep (hr i v hi) (List.all_eq_true.1 hf _ (List.mem_of_getElem? hi))
  | tup xs us hl hr => exact .tup xs us hl fun i v hi => flat1_rep (hr i v hi) (List.all_eq_true.1 hf _ (List.mem_of_getElem? hi))
  | b x => exact .b x
  | n k x => exact .n k x
  | s x => exact .s x
  | nilp => exact .nilp
  | nilf => exact .nilf
  | nili => exact .nili
  | ip => simp [V.flat, V.flat1] at hf
  | sl0 => simp [V.flat, V.flat1] at hf
  | sl => simp [V.flat, V.flat1] at hf
  | clo => simp [V.flat, V.flat1] at hf
  | ifc => simp [V.flat, V.flat1] at hf
theorem isV_snap {objs : List (Nat × List V)} : ∀ {ds : List D} {vs : List V}, ds.all D.isV = true → snapL objs ds = some vs → allV ds = some vs
  | [], vs, _, h => by cases h; rfl
  | d :: ds, vs, ha, h => by
    simp only [List.all_cons, Bool.and_eq_true] at ha
    unfold snapL at h
    split at h <;> cases h
    rename_i v vs' h1 h2
    have ih := isV_snap ha.2 h2
    cases d with
    | v x => cases h1; simp [allV, ih]
    | ref => simp [D.isV] at ha
    | own => simp [D.isV] at ha
    | dead => simp [D.isV] at ha
theorem snap_rep' {ok' : Nat → Prop} (hrel : Rel w0 U E nt st a w η) (hok : ∀ b, Ok U st.objs η w b → ok' b) {d : D} (hblk : ∀ s cs b o, d.ment s = true → look st.objs s = some cs → η s = some (b, o) → ok' b) {u : Value} {v : V}
    (hd : RepD w (Ok U st.objs η w) η d u) (h : snapV st.objs d = some v) : RepV w ok' v u := by
  have hm : ∀ {v : V} {u : Value}, RepV w (Ok U st.objs η w) v u → RepV w ok' v u := fun hr => hr.mono fun b hb => ⟨hok b hb, rfl⟩
  have blk := hblk
  cases hd with
  | v x u hx => cases h; exact hm hx
  | ref s off b o hη =>
    simp only [snapV, Option.map_eq_some_iff] at h
    obtain ⟨cs, hcs, rfl⟩ := h
    obtain ⟨us, h1, h2⟩ := lies_list (w := w) (ok := ok') b (cs.drop off) (o + off) (fun i v hi => by
      obtain ⟨x, hx, hr⟩ := (hrel.objs s cs hcs).lies hη i v hi
      exact ⟨x, hx, hm hr⟩)
    refine .ip _ (fun i => us.getD i undef) b (o + off) (blk s cs b o (by simp [D.ment]) hcs hη) (fun i v hi => ?_) (fun i v hi => ?_)
    · obtain ⟨u, hu, hr⟩ := h1.2 i v hi
      have := h2 i u hu
      rw [add_plain] at this
      simp only [List.getD, hu, Option.getD_some]
      exact this
    · obtain ⟨u, hu, hr⟩ := h1.2 i v hi
      simp only [List.getD, hu, Option.getD_some]
      exact hr
  | own0 s z off p =>
    simp only [snapV, Option.map_eq_some_iff] at h
    obtain ⟨cs, hcs, rfl⟩ := h
    simpa using RepV.sl0 _ p
  | own s z off ln b o cap hη hl hc =>
    simp only [snapV, Option.map_eq_some_iff] at h
    obtain ⟨cs, hcs, rfl⟩ := h
    obtain ⟨us, h1, h2⟩ := lies_list (w := w) (ok := ok') b ((cs.drop off).take (ln * z)) (o + off) (fun i v hi => by
      rw [List.getElem?_take] at hi
      split at hi
      · obtain ⟨x, hx, hr⟩ := (hrel.objs s cs hcs).lies hη i v hi
        exact ⟨x, hx, hm hr⟩
      · cases hi)
    refine .sl _ _ _ (fun i => us.getD i undef) b (o + off) cap (blk s cs b o (by simp [D.ment]) hcs hη) hl (fun h => by cases h) (fun i v hi => ?_) (fun i v hi => ?_)
    · obtain ⟨u, hu, hr⟩ := h1.2 i v hi
      have := h2 i u hu
      rw [add_plain] at this
      simp only [List.getD, hu, Option.getD_some]
      exact this
    · obtain ⟨u, hu, hr⟩ := h1.2 i v hi
      simp only [List.getD, hu, Option.getD_some]
      exact hr
  | dead => cases h
theorem snap_rep (hrel : Rel w0 U E nt st a w η) {d : D} {u : Value} {v : V} (hd : RepD w (Ok U st.objs η w) η d u) (h : snapV st.objs d = some v) : RepV w (fun b => b < w.heap.size ∧ ¬ U b) v u :=
  snap_rep' hrel (fun b hb => ⟨hb.1, hb.2.1⟩) (fun s cs b o _ h1 h2 => by
    obtain ⟨h3, h4⟩ := hrel.lies s cs b o h1 h2
    refine ⟨h4, fun hu => ?_⟩
    have hU := hrel.uold b hu
    rcases h3 with h3 | h3
    · have := hU.1; omega
    · exact hU.2 h3) hd h
theorem snapL_rep (hrel : Rel w0 U E nt st a w η) : ∀ {ds : List D} {us : List Value} {vs : List V}, RepDL w (Ok U st.objs η w) η ds us → snapL st.objs ds = some vs → RepL w (fun b => b < w.heap.size ∧ ¬ U b) vs us
  | [], us, vs, hd, h => by cases h; rw [hd.nil_eq]; exact .nil
  | d :: ds, us, vs, hd, h => by
    obtain ⟨u, us', rfl, h1, h2⟩ := hd.head
    unfold snapL at h
    split at h <;> cases h
    rename_i v vs' g1 g2
    exact .cons (snap_rep hrel h1 g1) (snapL_rep hrel h2 g2)
/-- A call leaves a state that tells it. -/
theorem call_sound (hrel : Rel w0 U E nt st a w η) {f : FuncId} {ds : List D} {us : List Value} {vs first cap : List V} {fs cs : List Value} {r : V} {dst : Option Nat} (hd : RepDL w (Ok U st.objs η w) η ds us) (h2 : snapL st.objs ds = some vs)
    (hf : RepL w (Ok U st.objs η w) first fs) (hc : RepL w (Ok U st.objs η w) cap cs) (h3 : Pure P f (first ++ vs ++ cap) r) (h4 : ds.all D.isV = true ∨ r.flat = true) (hn : ∀ t, dst = some t → t < nt) :
    CallOk P f (fs ++ us ++ cs).toArray w fun e w' => ∃ u, e = .returned u ∧ RelX w0 U E nt (st.put dst (.v r)) (a.put dst u) w' := by
  have hU : ∀ b, U b → b < w.heap.size := fun b hb => Nat.lt_of_lt_of_le (hrel.uold b hb).1 hrel.keeps.size
  have fin : ∀ (R R' : Ending → World → Prop), (∀ e w', R e w' → R' e w') → CallOk P f (fs ++ us ++ cs).toArray w R → CallOk P f (fs ++ us ++ cs).toArray w R' := fun R R' hRR h => by
    unfold CallOk at h ⊢
    split at h
    · obtain ⟨g1, g2, g3, g4⟩ := h
      exact ⟨g1, g2, g3, g4.mono hRR⟩
    · exact hRR _ _ h
    · exact h.elim
  have hm : ∀ {v : V} {u : Value}, RepV w (Ok U st.objs η w) v u → RepV w (fun b => b < w.heap.size ∧ ¬ U b) v u := fun hr => hr.mono fun b hb => ⟨⟨hb.1, hb.2.1⟩, rfl⟩
  rcases h4 with h4 | h4
  · -- all arguments are values by themselves: the call's own objects are out of its reach
    have hvs := hd.vals (isV_snap h4 h2)
    let U' : Nat → Prop := fun b => U b ∨ ∃ s cs o, look st.objs s = some cs ∧ η s = some (b, o)
    have hU' : ∀ b, U' b → b < w.heap.size := fun b hb => by
      rcases hb with hb | ⟨s, cs, o, g1, g2⟩
      · exact hU b hb
      · exact (hrel.lies s cs b o g1 g2).2
    have hcv : ∀ {v : V} {u : Value}, RepV w (Ok U st.objs η w) v u → RepV w (fun b => b < w.heap.size ∧ ¬ U' b) v u := fun hr => hr.mono fun b hb => ⟨⟨hb.1, fun hu => by
      rcases hu with hu | ⟨s, cs, o, g1, g2⟩
      · exact hb.2.1 hu
      · exact hb.2.2 s cs o g1 g2⟩, rfl⟩
    have hcl : ∀ {vs : List V} {us : List Value}, RepL w (Ok U st.objs η w) vs us → RepL w (fun b => b < w.heap.size ∧ ¬ U' b) vs us := fun hr => ⟨hr.1, fun i v hi => let ⟨u, g1, g2⟩ := hr.2 i v hi; ⟨u, g1, hcv g2⟩⟩
    refine fin _ _ (fun e w' ⟨u, he, hr, hb⟩ => ⟨u, he, η, ?_⟩) (h3 w U' _ hU' (((hcl hf).append (hcl hvs)).append (hcl hc)))
    refine (hrel.below hb).put (.v _ _ (hr.mono fun b hb' => ⟨⟨hb'.1, fun hu => hb'.2 (.inl hu), fun s cs o g1 g2 => hb'.2 (.inr ⟨s, cs, o, g1, g2⟩)⟩, rfl⟩)) hn
  · have hcl : ∀ {vs : List V} {us : List Value}, RepL w (Ok U st.objs η w) vs us → RepL w (fun b => b < w.heap.size ∧ ¬ U b) vs us := fun hr => ⟨hr.1, fun i v hi => let ⟨u, g1, g2⟩ := hr.2 i v hi; ⟨u, g1, hm g2⟩⟩
    refine fin _ _ (fun e w' ⟨u, he, hr, hb⟩ => ⟨u, he, η, ?_⟩) (h3 w U _ hU (((hcl hf).append (snapL_rep hrel hd h2)).append (hcl hc)))
    exact (hrel.below hb).put (.v _ _ (flat_rep hr h4)) hn
theorem RepDL.vs : ∀ {vs : List V} {us : List Value}, RepDL w ok η (vs.map .v) us → RepL w ok vs us
  | [], us, h => by rw [h.nil_eq]; exact .nil
  | v :: vs, us, h => by
    obtain ⟨u, us', rfl, h1, h2⟩ := h.head
    cases h1 with | v _ _ h1 =>
    exact .cons h1 h2.vs
theorem RepDL.split : ∀ {vs : List V} {ds : List D} {us : List Value}, RepDL w ok η (vs.map .v ++ ds) us → ∃ us1 us2, us = us1 ++ us2 ∧ RepL w ok vs us1 ∧ RepDL w ok η ds us2
  | [], ds, us, h => ⟨[], us, rfl, .nil, h⟩
  | v :: vs, ds, us, h => by
    obtain ⟨u, us', rfl, h1, h2⟩ := h.head
    cases h1 with | v _ _ h1 =>
    obtain ⟨us1, us2, rfl, h3, h4⟩ := h2.split
    exact ⟨u :: us1, us2, rfl, .cons h1 h3, h4⟩
theorem RepD.rekey {ok' : Nat → Prop} {η' : Eta} {d : D} {s s' : Nat} {u : Value} (hk : ∀ b, ok b → ok' b) (hη : ∀ x, η s = some x → η' s' = some x) (h : RepD w ok η (d.rekey s) u) : RepD w ok' η' (d.rekey s') u := by
  cases d with
  | v x => cases h with | v _ _ h => exact .v _ _ (h.mono fun b hb => ⟨hk b hb, rfl⟩)
  | ref k o => cases h with | ref _ _ b o' h => exact .ref _ _ _ _ (hη _ h)
  | own k z o l =>
    cases h with
    | own0 _ _ _ p => exact .own0 _ _ _ _
    | own _ _ _ _ b o' cap h hl hc => exact .own _ _ _ _ _ _ _ (hη _ h) hl hc
  | dead => exact .dead _
theorem RepO.rekey {ok' : Nat → Prop} {η' : Eta} {s s' : Nat} {cs : List V} (hk : ∀ b, ok b → ok' b) (hη : η' s' = η s) (h : RepO w ok η s cs) : RepO w ok' η' s' cs := by
  unfold RepO at h ⊢
  rw [hη]
  cases hs : η s with
  | none => rw [hs] at h; exact h
  | some bo =>
    obtain ⟨b, o⟩ := bo
    rw [hs] at h
    obtain ⟨c, e, fr, h1, h2, h3, h4⟩ := h
    exact ⟨c, e, fr, h1, h2, h3, fun i v hv => (h4 i v hv).mono fun b hb => ⟨hk b hb, rfl⟩⟩
/-- An object's block was written, and new blocks were made. -/
theorem Rel.turned (h : Rel w0 U E nt st a w η) {s : Nat} {cs cs0 : List V} (hs : look st.objs s = some cs0) (ht : Turned w w' (η s))
    (hO : ∀ ok', (∀ b', b' < w'.heap.size → ¬ U b' → (∀ s' cs' o, look st.objs s' = some cs' → η s' ≠ some (b', o)) → ok' b') → RepO w' ok' η s cs) : Rel w0 U E nt ⟨st.ρ, upd st.objs s cs⟩ a w' η := by
  have hlu : ∀ t, look (upd st.objs s cs) t = if t = s then some cs else look st.objs t := fun t => by rw [look_upd, hs]; rfl
  have hok' : ∀ b', b' < w'.heap.size → ¬ U b' → (∀ s' cs' o, look st.objs s' = some cs' → η s' ≠ some (b', o)) → Ok U (upd st.objs s cs) η w' b' := fun b' h1 h2 h3 => ⟨h1, h2, fun s' cs' o' g1 g2 => by
    rw [hlu] at g1
    split at g1
    · rename_i e; subst e; exact h3 _ _ _ hs g2
    · exact h3 _ _ _ g1 g2⟩
  have hok : ∀ b', Ok U st.objs η w b' → Ok U (upd st.objs s cs) η w' b' := fun b' hb' => hok' b' (Nat.lt_of_lt_of_le hb'.1 ht.size) hb'.2.1 hb'.2.2
  have hne : ∀ b', Ok U st.objs η w b' → ∀ o, η s ≠ some (b', o) := fun b' hb' o e => hb'.2.2 s cs0 o hs e
  have hv : ∀ v u, RepV w (Ok U st.objs η w) v u → RepV w' (Ok U (upd st.objs s cs) η w') v u := fun v u hr => hr.mono fun b' hb' => ⟨hok b' hb', ht.block b' hb'.1 (hne b' hb')⟩
  refine ⟨h.size, h.defers, ⟨ht.os.trans h.keeps.os, ht.tape.trans h.keeps.tape, ht.output.trans h.keeps.output, Nat.le_trans h.keeps.size ht.size, fun k hk hE => (ht.block k (Nat.lt_of_lt_of_le hk h.keeps.size) fun o e => ?_).trans (h.keeps.block k hk hE), fun k hk => (ht.row k (Nat.lt_of_lt_of_le hk h.keeps.size)).trans (h.keeps.row k hk)⟩, h.uold, fun t d htt => ?_, fun s' cs' hs' => ?_, fun s' cs' b' o' h1 h2 => ?_, fun s1 s2 cs1 cs2 b' o1 o2 h1 h2 h3 h4 => ?_⟩
  · rcases (h.lies _ _ _ _ hs e).1 with h1 | h1
    · omega
    · exact hE h1
  · refine ⟨(h.slots t d htt).1, (h.slots t d htt).2.change hv (fun b => ?_)⟩
    rcases Nat.lt_or_ge b w.heap.size with hb | hb
    · rw [ht.row b hb]; exact Nat.le_refl _
    · rw [rowSize_pos hb]; exact Nat.zero_le _
  · simp only at hs'
    rw [hlu] at hs'
    split at hs'
    · rename_i e; subst e; cases hs'; exact hO _ hok'
    · rename_i e
      refine (h.objs s' cs' hs').change rfl hv fun b o hb => ht.block b (h.lies _ _ _ _ hs' hb).2 fun o' e' => e (h.inj _ _ _ _ _ _ _ hs' hs hb e')
  · simp only at h1
    rw [hlu] at h1
    split at h1
    · rename_i e; subst e
      obtain ⟨g1, g2⟩ := h.lies _ _ _ _ hs h2
      exact ⟨g1, Nat.lt_of_lt_of_le g2 ht.size⟩
    · obtain ⟨g1, g2⟩ := h.lies _ _ _ _ h1 h2
      exact ⟨g1, Nat.lt_of_lt_of_le g2 ht.size⟩
  · simp only at h1 h2
    rw [hlu] at h1 h2
    have g1 : ∃ c, look st.objs s1 = some c := by
      split at h1
      · rename_i e; subst e; exact ⟨_, hs⟩
      · exact ⟨_, h1⟩
    have g2 : ∃ c, look st.objs s2 = some c := by
      split at h2
      · rename_i e; subst e; exact ⟨_, hs⟩
      · exact ⟨_, h2⟩
    obtain ⟨c1, g1⟩ := g1
    obtain ⟨c2, g2⟩ := g2
    exact h.inj _ _ _ _ _ _ _ g1 g2 h3 h4
theorem onlyZ_rekey {d : D} (h : onlyZ d = true) : d.rekey 0 = d := by
  unfold onlyZ at h
  split at h <;> first | rfl | cases h
theorem resZ_rekey {d : D} (h : resZ d = true) : d.rekey 0 = d := by
  unfold resZ at h
  split at h <;> first | rfl | cases h
theorem callM_sound (hrel : Rel w0 U E nt st a w η) {f : FuncId} {pre post : List V} {d r : D} {s : Nat} {cs cs' : List V} {us : List Value} {dst : Option Nat} (hd : RepDL w (Ok U st.objs η w) η (pre.map .v ++ d.rekey s :: post.map .v) us) (hz : onlyZ d = true)
    (hs : look st.objs s = some cs) (hM : Mut P f pre d cs post r cs') (hn : ∀ t, dst = some t → t < nt) :
    CallOk P f us.toArray w fun e w' => ∃ u, e = .returned u ∧ RelX w0 U E nt ((⟨st.ρ, upd st.objs s cs'⟩ : St).put dst (r.rekey s)) (a.put dst u) w' := by
  obtain ⟨us1, us2, rfl, h1, h2⟩ := hd.split
  obtain ⟨u, us2, rfl, h2, h3⟩ := h2.head
  have h3 := h3.vs
  obtain ⟨hr, hM⟩ := hM
  let U' : Nat → Prop := fun b => U b ∨ ∃ s' cs o, s' ≠ s ∧ look st.objs s' = some cs ∧ η s' = some (b, o)
  have hU' : ∀ b, U' b → b < w.heap.size := fun b hb => by
    rcases hb with hb | ⟨s', cs, o, _, g1, g2⟩
    · exact Nat.lt_of_lt_of_le (hrel.uold b hb).1 hrel.keeps.size
    · exact (hrel.lies s' cs b o g1 g2).2
  have hpl : ∀ b o, η s = some (b, o) → ¬ U' b ∧ b < w.heap.size := fun b o hb => by
    obtain ⟨g1, g2⟩ := hrel.lies _ _ _ _ hs hb
    refine ⟨fun hu => ?_, g2⟩
    rcases hu with hu | ⟨s', cs, o', h1, h2, h3⟩
    · have hu' := hrel.uold b hu
      rcases g1 with g1 | g1
      · have := hu'.1; omega
      · exact hu'.2 g1
    · exact h1 (hrel.inj _ _ _ _ _ _ _ h2 hs h3 hb)
  have hok : ∀ b, Ok U st.objs η w b → okMu w U' (η s) b := fun b hb => ⟨hb.1, fun hu => by
    rcases hu with hu | ⟨s', cs, o, _, g1, g2⟩
    · exact hb.2.1 hu
    · exact hb.2.2 s' cs o g1 g2, fun o e => hb.2.2 s cs o hs e⟩
  have hcl : ∀ {vs : List V} {us : List Value}, RepL w (Ok U st.objs η w) vs us → RepL w (okMu w U' (η s)) vs us := fun hr => ⟨hr.1, fun i v hi => let ⟨u, g1, g2⟩ := hr.2 i v hi; ⟨u, g1, g2.mono fun b hb => ⟨hok b hb, rfl⟩⟩⟩
  have hd0 : RepD w (okMu w U' (η s)) (fun _ => η s) d u := by
    have := h2.rekey (s' := 0) (η' := fun _ => η s) hok (fun x hx => hx)
    rwa [onlyZ_rekey hz] at this
  have hO : RepO w (okMu w U' (η s)) (fun _ => η s) 0 cs := (hrel.objs s cs hs).rekey hok rfl
  have main := hM w U' (η s) us1 u us2 hU' hpl (hcl h1) hd0 (hcl h3) hO
  have fin : ∀ (R R' : Ending → World → Prop), (∀ e w', R e w' → R' e w') → CallOk P f (us1 ++ u :: us2).toArray w R → CallOk P f (us1 ++ u :: us2).toArray w R' := fun R R' hRR h => by
    unfold CallOk at h ⊢
    split at h
    · obtain ⟨g1, g2, g3, g4⟩ := h
      exact ⟨g1, g2, g3, g4.mono hRR⟩
    · exact hRR _ _ h
    · exact h.elim
  refine fin _ _ (fun e w' ⟨ur, he, k1, k2, k3⟩ => ⟨ur, he, η, ?_⟩) main
  have hlu : ∀ t, look (upd st.objs s cs') t = if t = s then some cs' else look st.objs t := fun t => by rw [look_upd, hs]; rfl
  refine (hrel.turned hs k3 fun ok' hk => k2.rekey (fun b hb => hk b hb.1 (fun hu => hb.2.1 (.inl hu)) fun s' cs0 o g1 g2 => ?_) rfl).put ?_ hn
  · by_cases e : s' = s
    · subst e; exact hb.2.2 o g2
    · exact hb.2.1 (.inr ⟨s', cs0, o, e, g1, g2⟩)
  · refine RepD.rekey (s := 0) (η := fun _ => η s) (ok := okMu w' U' (η s)) (fun b hb => ⟨hb.1, fun hu => hb.2.1 (.inl hu), fun s' cs0 o g1 g2 => ?_⟩) (fun x hx => hx) (by rw [resZ_rekey hr]; exact k1)
    simp only at g1
    rw [hlu] at g1
    split at g1
    · rename_i e; subst e; exact hb.2.2 o g2
    · rename_i e; exact hb.2.1 (.inr ⟨s', cs0, o, e, g1, g2⟩)
end
end Go.Proofs.Ytdceakejbnolpaa.Sv
