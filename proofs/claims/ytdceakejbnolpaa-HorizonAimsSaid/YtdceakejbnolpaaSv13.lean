/- Calls, and one operation's step. No condition. -/
import Derived.Test.YtdceakejbnolpaaSv12
namespace Go.Proofs.Ytdceakejbnolpaa.Sv
open Go Go.RowKit
set_option linter.unusedVariables false
set_option linter.unusedSimpArgs false

/-- An append onto a value by itself that has no room. -/
def appV (objs : List (Nat × List V)) (z by_ : Nat) : List D → Option D
  | [.v (.sl n xs true), x] => (appArg objs z x).bind fun (m, ys) => if xs.length = n * z ∧ (n + m) * by_ ≤ 2 ^ 47 ∧ by_ ≠ 0 then some (.v (.sl (n + m) (xs ++ ys) false)) else none
  | _ => none
/-- What an operation yields that only reads, an append onto a value by itself among them. -/
def SO.rdx (objs : List (Nat × List V)) (so : SO) (ds : List D) : Option D :=
  match so with
  | .app z by_ => appV objs z by_ ds
  | .appv z by_ => appV objs z by_ ds
  | so => so.rd objs ds
/-- What an argument reads as when it is handed on. -/
def snapV (objs : List (Nat × List V)) : D → Option V
  | .v x => some x
  | .own s z off ln => (look objs s).map fun cs => .sl ln ((cs.drop off).take (ln * z)) false
  | .ref s off => (look objs s).map fun cs => .ip (cs.drop off)
  | .dead => none
def snapL (objs : List (Nat × List V)) : List D → Option (List V)
  | [] => some []
  | d :: ds => match snapV objs d, snapL objs ds with
    | some v, some vs => some (v :: vs)
    | _, _ => none
def D.isV : D → Bool
  | .v _ => true
  | _ => false
/-- A value that leads nowhere. -/
def V.flat1 : V → Bool
  | .b _ | .n _ _ | .s _ | .nilp | .nilf | .nili => true
  | _ => false
def V.flat : V → Bool
  | .tup xs => xs.all V.flat1
  | .agg xs => xs.all V.flat1
  | v => v.flat1
def CallOk (P : Program) (f : FuncId) (args : Array Value) (w : World) (R : Ending → World → Prop) : Prop :=
  match (callFunc f args).run P w with
  | .ok (.enter g as_) w1 => g = f ∧ as_ = args ∧ w1 = w ∧ Calls P f args w R
  | .ok (.value v) w1 => R (.returned v) w1
  | _ => False
/-- A call that turns nothing that was there and hands back r, whatever memory it finds its arguments in; what it hands back lies apart from the blocks of U, if the arguments do. -/
def Pure (P : Program) (f : FuncId) (args : List V) (r : V) : Prop :=
  ∀ (w : World) (U : Nat → Prop) (us : List Value), (∀ b, U b → b < w.heap.size) → RepL w (fun b => b < w.heap.size ∧ ¬ U b) args us →
    CallOk P f us.toArray w fun e w' => ∃ u, e = .returned u ∧ RepV w' (fun b => b < w'.heap.size ∧ ¬ U b) r u ∧ Below w.heap.size w w'
/-- An operation, its types looked up and its guard's slot. -/
structure SOp where
  dst : Option Nat
  guard : Option (Nat × Bool)
  so : SO
  args : List Opd
def evs (st : St) : List Opd → Option (List D)
  | [] => some []
  | x :: xs => match x.ev st, evs st xs with
    | some d, some ds => some (d :: ds)
    | _, _ => none
/-- The step of an operation that is wanted. -/
inductive Step (P : Program) (o : SOp) (st : St) : St → Prop
  | rd (ds : List D) (d : D) (h1 : evs st o.args = some ds) (h2 : o.so.rdx st.objs ds = some d) : Step P o st (st.put o.dst d)
  | ef (ds : List D) (st' : St) (h1 : evs st o.args = some ds) (h2 : o.so.ef st o.dst ds = some st') : Step P o st st'
  | call (f : FuncId) (ds : List D) (vs : List V) (r : V) (hf : o.so = .call f) (h1 : evs st o.args = some ds) (h2 : snapL st.objs ds = some vs) (h3 : Pure P f vs r)
      (h4 : ds.all D.isV = true ∨ r.flat = true) : Step P o st (st.put o.dst (.v r))
  | callD (f : FuncId) (first cap : List V) (ds : List D) (vs : List V) (r : V) (hf : o.so = .callD) (h1 : evs st o.args = some (.v (.clo (.func f) first cap) :: ds)) (h2 : snapL st.objs ds = some vs) (h3 : Pure P f (first ++ vs ++ cap) r)
      (h4 : ds.all D.isV = true ∨ r.flat = true) : Step P o st (st.put o.dst (.v r))
/-- The slot of a guard does not want it. -/
def isOff (want : Bool) : Option D → Bool
  | some (.v (.b x)) => x != want
  | some (.v (.tup [])) => true
  | _ => false
/-- The step of an operation, wanted or not. -/
inductive GStep (P : Program) (o : SOp) (st : St) : St → Prop
  | yes (st' : St) (h : Step P o st st') (hg : o.guard = none ∨ ∃ g want, o.guard = some (g, want) ∧ look st.ρ g = some (.v (.b want))) : GStep P o st st'
  | no (g : Nat) (want : Bool) (hg : o.guard = some (g, want)) (h : isOff want (look st.ρ g) = true) : GStep P o st (st.put o.dst (.v (.tup [])))
section
variable {P : Program} {w w0 w' : World} {U E : Nat → Prop} {nt : Nat} {st st' : St} {a : Act} {η : Eta} {ok : Nat → Prop}
theorem flat1_rep {v : V} {u : Value} {w1 : World} {ok1 : Nat → Prop} (h : RepV w ok v u) (hf : v.flat1 = true) : RepV w1 ok1 v u := by
  cases h <;> first | (simp [V.flat1] at hf; done) | constructor
theorem flat_rep {v : V} {u : Value} {w1 : World} {ok1 : Nat → Prop} (h : RepV w ok v u) (hf : v.flat = true) : RepV w1 ok1 v u := by
  cases h with
  | agg xs us hl hr => exact .agg xs us hl fun i v hi => flat1_rep (hr i v hi) (List.all_eq_true.1 hf _ (List.mem_of_getElem? hi))
  | tup xs us hl hr => exact .tup xs us hl fun i v hi => flat1_rep (hr i v hi) (List.all_eq_true.1 hf _ (List.mem_of_getElem? hi))
  | b x => exact .b x
  | n k x => exact .n k x
  | s x => exact .s x
  | nilp => exact .nilp
  | nilf => exact .nilf
  | nili => exact .nili
  | ip => simp [V.flat, V.flat1] at hf
  | sl0 => simp [V.flat, V.flat1] at hf
  | sl => simp [V.flat, V.flat1] at hf
  | clo => simp [V.flat, V.flat1] at hf
  | ifc => simp [V.flat, V.flat1] at hf
theorem isV_snap {objs : List (Nat × List V)} : ∀ {ds : List D} {vs : List V}, ds.all D.isV = true → snapL objs ds = some vs → allV ds = some vs
  | [], vs, _, h => by cases h; rfl
  | d :: ds, vs, ha, h => by
    simp only [List.all_cons, Bool.and_eq_true] at ha
    unfold snapL at h
    split at h <;> cases h
    rename_i v vs' h1 h2
    have ih := isV_snap ha.2 h2
    cases d with
    | v x => cases h1; simp [allV, ih]
    | ref => simp [D.isV] at ha
    | own => simp [D.isV] at ha
    | dead => simp [D.isV] at ha
theorem snap_rep' {ok' : Nat → Prop} (hrel : Rel w0 U E nt st a w η) (hok : ∀ b, Ok U st.objs η w b → ok' b) {d : D} (hblk : ∀ s cs b o, d.ment s = true → look st.objs s = some cs → η s = some (b, o) → ok' b) {u : Value} {v : V}
    (hd : RepD w (Ok U st.objs η w) η d u) (h : snapV st.objs d = some v) : RepV w ok' v u := by
  have hm : ∀ {v : V} {u : Value}, RepV w (Ok U st.objs η w) v u → RepV w ok' v u := fun hr => hr.mono fun b hb => ⟨hok b hb, rfl⟩
  have blk := hblk
  cases hd with
  | v x u hx => cases h; exact hm hx
  | ref s off b o hη =>
    simp only [snapV, Option.map_eq_some_iff] at h
    obtain ⟨cs, hcs, rfl⟩ := h
    obtain ⟨us, h1, h2⟩ := lies_list (w := w) (ok := ok') b (cs.drop off) (o + off) (fun i v hi => by
      obtain ⟨x, hx, hr⟩ := (hrel.objs s cs hcs).lies hη i v hi
      exact ⟨x, hx, hm hr⟩)
    refine .ip _ (fun i => us.getD i undef) b (o + off) (blk s cs b o (by simp [D.ment]) hcs hη) (fun i v hi => ?_) (fun i v hi => ?_)
    · obtain ⟨u, hu, hr⟩ := h1.2 i v hi
      have := h2 i u hu
      rw [add_plain] at this
      simp only [List.getD, hu, Option.getD_some]
      exact this
    · obtain ⟨u, hu, hr⟩ := h1.2 i v hi
      simp only [List.getD, hu, Option.getD_some]
      exact hr
  | own0 s z off p =>
    simp only [snapV, Option.map_eq_some_iff] at h
    obtain ⟨cs, hcs, rfl⟩ := h
    simpa using RepV.sl0 _ p
  | own s z off ln b o cap hη hl hc =>
    simp only [snapV, Option.map_eq_some_iff] at h
    obtain ⟨cs, hcs, rfl⟩ := h
    obtain ⟨us, h1, h2⟩ := lies_list (w := w) (ok := ok') b ((cs.drop off).take (ln * z)) (o + off) (fun i v hi => by
      rw [List.getElem?_take] at hi
      split at hi
      · obtain ⟨x, hx, hr⟩ := (hrel.objs s cs hcs).lies hη i v hi
        exact ⟨x, hx, hm hr⟩
      · cases hi)
    refine .sl _ _ _ (fun i => us.getD i undef) b (o + off) cap (blk s cs b o (by simp [D.ment]) hcs hη) hl (fun h => by cases h) (fun i v hi => ?_) (fun i v hi => ?_)
    · obtain ⟨u, hu, hr⟩ := h1.2 i v hi
      have := h2 i u hu
      rw [add_plain] at this
      simp only [List.getD, hu, Option.getD_some]
      exact this
    · obtain ⟨u, hu, hr⟩ := h1.2 i v hi
      simp only [List.getD, hu, Option.getD_some]
      exact hr
  | dead => cases h
theorem snap_rep (hrel : Rel w0 U E nt st a w η) {d : D} {u : Value} {v : V} (hd : RepD w (Ok U st.objs η w) η d u) (h : snapV st.objs d = some v) : RepV w (fun b => b < w.heap.size ∧ ¬ U b) v u :=
  snap_rep' hrel (fun b hb => ⟨hb.1, hb.2.1⟩) (fun s cs b o _ h1 h2 => by
    obtain ⟨h3, h4⟩ := hrel.lies s cs b o h1 h2
    refine ⟨h4, fun hu => ?_⟩
    have hU := hrel.uold b hu
    rcases h3 with h3 | h3
    · have := hU.1; omega
    · exact hU.2 h3) hd h
theorem snapL_rep (hrel : Rel w0 U E nt st a w η) : ∀ {ds : List D} {us : List Value} {vs : List V}, RepDL w (Ok U st.objs η w) η ds us → snapL st.objs ds = some vs → RepL w (fun b => b < w.heap.size ∧ ¬ U b) vs us
  | [], us, vs, hd, h => by cases h; rw [hd.nil_eq]; exact .nil
  | d :: ds, us, vs, hd, h => by
    obtain ⟨u, us', rfl, h1, h2⟩ := hd.head
    unfold snapL at h
    split at h <;> cases h
    rename_i v vs' g1 g2
    exact .cons (snap_rep hrel h1 g1) (snapL_rep hrel h2 g2)
/-- A call leaves a state that tells it. -/
theorem call_sound (hrel : Rel w0 U E nt st a w η) {f : FuncId} {ds : List D} {us : List Value} {vs first cap : List V} {fs cs : List Value} {r : V} {dst : Option Nat} (hd : RepDL w (Ok U st.objs η w) η ds us) (h2 : snapL st.objs ds = some vs)
    (hf : RepL w (Ok U st.objs η w) first fs) (hc : RepL w (Ok U st.objs η w) cap cs) (h3 : Pure P f (first ++ vs ++ cap) r) (h4 : ds.all D.isV = true ∨ r.flat = true) (hn : ∀ t, dst = some t → t < nt) :
    CallOk P f (fs ++ us ++ cs).toArray w fun e w' => ∃ u, e = .returned u ∧ RelX w0 U E nt (st.put dst (.v r)) (a.put dst u) w' := by
  have hU : ∀ b, U b → b < w.heap.size := fun b hb => Nat.lt_of_lt_of_le (hrel.uold b hb).1 hrel.keeps.size
  have fin : ∀ (R R' : Ending → World → Prop), (∀ e w', R e w' → R' e w') → CallOk P f (fs ++ us ++ cs).toArray w R → CallOk P f (fs ++ us ++ cs).toArray w R' := fun R R' hRR h => by
    unfold CallOk at h ⊢
    split at h
    · obtain ⟨g1, g2, g3, g4⟩ := h
      exact ⟨g1, g2, g3, g4.mono hRR⟩
    · exact hRR _ _ h
    · exact h.elim
  have hm : ∀ {v : V} {u : Value}, RepV w (Ok U st.objs η w) v u → RepV w (fun b => b < w.heap.size ∧ ¬ U b) v u := fun hr => hr.mono fun b hb => ⟨⟨hb.1, hb.2.1⟩, rfl⟩
  rcases h4 with h4 | h4
  · -- all arguments are values by themselves: the call's own objects are out of its reach
    have hvs := hd.vals (isV_snap h4 h2)
    let U' : Nat → Prop := fun b => U b ∨ ∃ s cs o, look st.objs s = some cs ∧ η s = some (b, o)
    have hU' : ∀ b, U' b → b < w.heap.size := fun b hb => by
      rcases hb with hb | ⟨s, cs, o, g1, g2⟩
      · exact hU b hb
      · exact (hrel.lies s cs b o g1 g2).2
    have hcv : ∀ {v : V} {u : Value}, RepV w (Ok U st.objs η w) v u → RepV w (fun b => b < w.heap.size ∧ ¬ U' b) v u := fun hr => hr.mono fun b hb => ⟨⟨hb.1, fun hu => by
      rcases hu with hu | ⟨s, cs, o, g1, g2⟩
      · exact hb.2.1 hu
      · exact hb.2.2 s cs o g1 g2⟩, rfl⟩
    have hcl : ∀ {vs : List V} {us : List Value}, RepL w (Ok U st.objs η w) vs us → RepL w (fun b => b < w.heap.size ∧ ¬ U' b) vs us := fun hr => ⟨hr.1, fun i v hi => let ⟨u, g1, g2⟩ := hr.2 i v hi; ⟨u, g1, hcv g2⟩⟩
    refine fin _ _ (fun e w' ⟨u, he, hr, hb⟩ => ⟨u, he, η, ?_⟩) (h3 w U' _ hU' (((hcl hf).append (hcl hvs)).append (hcl hc)))
    refine (hrel.below hb).put (.v _ _ (hr.mono fun b hb' => ⟨⟨hb'.1, fun hu => hb'.2 (.inl hu), fun s cs o g1 g2 => hb'.2 (.inr ⟨s, cs, o, g1, g2⟩)⟩, rfl⟩)) hn
  · have hcl : ∀ {vs : List V} {us : List Value}, RepL w (Ok U st.objs η w) vs us → RepL w (fun b => b < w.heap.size ∧ ¬ U b) vs us := fun hr => ⟨hr.1, fun i v hi => let ⟨u, g1, g2⟩ := hr.2 i v hi; ⟨u, g1, hm g2⟩⟩
    refine fin _ _ (fun e w' ⟨u, he, hr, hb⟩ => ⟨u, he, η, ?_⟩) (h3 w U _ hU (((hcl hf).append (snapL_rep hrel hd h2)).append (hcl hc)))
    exact (hrel.below hb).put (.v _ _ (flat_rep hr h4)) hn
end
end Go.Proofs.Ytdceakejbnolpaa.Sv
