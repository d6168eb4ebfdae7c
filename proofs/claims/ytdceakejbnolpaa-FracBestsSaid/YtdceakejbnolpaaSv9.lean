/- Each operation that only reads does in the model what is said of it. No condition. -/
import Derived.Test.YtdceakejbnolpaaSv8
namespace Go.Proofs.Ytdceakejbnolpaa.Sv
open Go Go.RowKit
set_option linter.unusedVariables false
set_option linter.unusedSimpArgs false
section
variable {P : Program} {w w0 : World} {U E : Nat → Prop} {nt : Nat} {st : St} {a : Act} {η : Eta} {ok : Nat → Prop}
/-- What a run of a reading part gives. -/
def Gives (P : Program) (w : World) (U : Nat → Prop) (objs : List (Nat × List V)) (η : Eta) (s : Sem Value) (d : D) : Prop :=
  ∃ u w', s.run P w = .ok u w' ∧ Below w.heap.size w w' ∧ RepD w' (Ok U objs η w') η d u
theorem Gives.same {s : Sem Value} {d : D} {objs : List (Nat × List V)} {u : Value} (h : s.run P w = .ok u w) (hr : RepD w (Ok U objs η w) η d u) : Gives P w U objs η s d :=
  ⟨u, w, h, Below.refl _ _, hr⟩
theorem Gives.val {s : Sem Value} {v : V} {objs : List (Nat × List V)} (h : ∃ u, s.run P w = .ok u w ∧ RepV w (Ok U objs η w) v u) : Gives P w U objs η s (.v v) :=
  let ⟨u, h1, h2⟩ := h; .same h1 (.v _ _ h2)
theorem Gives.exec {s : Sem Value} {d : D} {objs : List (Nat × List V)} {ρ : Operand → Value} {o : Oper} (he : execOp ρ o = (do pure (.value (← s)))) (h : Gives P w U objs η s d) :
    ∃ u w', (execOp ρ o).run P w = .ok (.value u) w' ∧ Below w.heap.size w w' ∧ RepD w' (Ok U objs η w') η d u := by
  obtain ⟨u, w', h1, h2, h3⟩ := h
  exact ⟨u, w', by rw [he]; simp [h1], h2, h3⟩
theorem po_split {p : PO} {objs : List (Nat × List V)} {ds : List D} {d : D} (h : (SO.po p).rd objs ds = some d) : ∃ vs r, allV ds = some vs ∧ p.run vs = some r ∧ d = .v r := by
  simp only [SO.rd, Option.bind_eq_some_iff, Option.map_eq_some_iff] at h
  obtain ⟨vs, h1, r, h2, rfl⟩ := h
  exact ⟨vs, r, h1, h2, rfl⟩
theorem bin_gives {op : BinOp} {t : TypeId} {p : PO} {ds : List D} {d : D} {x y : Operand} (hc : cBin P op t = some p) (hv : RepDL w (Ok U st.objs η w) η ds [a.eval x, a.eval y]) (h : (SO.po p).rd st.objs ds = some d) :
    Gives P w U st.objs η (do eqGuard op t x y (a.eval x) (a.eval y); binOp op t (a.eval x) (a.eval y)) d := by
  obtain ⟨vs, r, h1, h2, rfl⟩ := po_split h
  have hl := hv.vals h1
  have hlen : vs.length = 2 := by have := hl.1; simpa using this.symm
  obtain ⟨v1, v2, rfl⟩ : ∃ v1 v2, vs = [v1, v2] := by
    match vs, hlen with
    | [v1, v2], _ => exact ⟨v1, v2, rfl⟩
  obtain ⟨u1, u2, he, r1, r2⟩ := hl.two
  simp only [List.cons.injEq, and_true] at he
  obtain ⟨he1, he2⟩ := he
  rw [← he1] at r1
  rw [← he2] at r2
  unfold cBin at hc
  split at hc
  · cases hc; exact .val (binV_sound r1 r2 h2 x y)
  · cases hc; exact .val (binV_sound r1 r2 h2 x y)
  · rename_i hu
    split at hc <;> cases hc
    · exact .val (beq_sound r1 r2 h2 hu rfl x y)
    · exact .val (beq_sound r1 r2 h2 hu rfl x y)
  · split at hc
    · cases hc
    · rename_i hg
      split at hc
      · simp only [Option.map_eq_some_iff] at hc
        obtain ⟨ls, hls, rfl⟩ := hc
        exact .val (veq_sound r1 r2 h2 hls (by simpa using hg) rfl x y)
      · simp only [Option.map_eq_some_iff] at hc
        obtain ⟨ls, hls, rfl⟩ := hc
        exact .val (veq_sound r1 r2 h2 hls (by simpa using hg) rfl x y)
      · cases hc
  · cases hc
theorem vals_one {ds : List D} {u : Value} {vs : List V} (hv : RepDL w ok η ds [u]) (h : allV ds = some vs) : ∃ v, vs = [v] ∧ RepV w ok v u := by
  have hl := hv.vals h
  have hlen : vs.length = 1 := by have := hl.1; simpa using this.symm
  obtain ⟨v, rfl⟩ : ∃ v, vs = [v] := by
    match vs, hlen with
    | [v], _ => exact ⟨v, rfl⟩
  obtain ⟨u', he, hr⟩ := hl.one
  cases he
  exact ⟨v, rfl, hr⟩
theorem vals_two {ds : List D} {u u' : Value} {vs : List V} (hv : RepDL w ok η ds [u, u']) (h : allV ds = some vs) : ∃ v v', vs = [v, v'] ∧ RepV w ok v u ∧ RepV w ok v' u' := by
  have hl := hv.vals h
  have hlen : vs.length = 2 := by have := hl.1; simpa using this.symm
  obtain ⟨v, v', rfl⟩ : ∃ v v', vs = [v, v'] := by
    match vs, hlen with
    | [v, v'], _ => exact ⟨v, v', rfl⟩
  obtain ⟨u1, u2, he, h1, h2⟩ := hl.two
  cases he
  exact ⟨v, v', rfl, h1, h2⟩
theorem vals_three {ds : List D} {u u' u'' : Value} {vs : List V} (hv : RepDL w ok η ds [u, u', u'']) (h : allV ds = some vs) : ∃ v v' v'', vs = [v, v', v''] ∧ RepV w ok v u ∧ RepV w ok v' u' ∧ RepV w ok v'' u'' := by
  have hl := hv.vals h
  have hlen : vs.length = 3 := by have := hl.1; simpa using this.symm
  obtain ⟨v, v', v'', rfl⟩ : ∃ v v' v'', vs = [v, v', v''] := by
    match vs, hlen with
    | [v, v', v''], _ => exact ⟨v, v', v'', rfl⟩
  obtain ⟨u1, u2, u3, he, h1, h2, h3⟩ := hl.three
  cases he
  exact ⟨v, v', v'', rfl, h1, h2, h3⟩
theorem conv_gives {src dst : TypeId} {p : PO} {ds : List D} {d : D} {u : Value} {objs : List (Nat × List V)} (hc : cConv P src dst = some p) (hv : RepDL w (Ok U objs η w) η ds [u]) (h : (SO.po p).rd objs ds = some d) :
    Gives P w U objs η (convert src dst u) d := by
  obtain ⟨vs, r, h1, h2, rfl⟩ := po_split h
  obtain ⟨v, rfl, hr⟩ := vals_one hv h1
  unfold cConv at hc
  split at hc <;> cases hc
  · rename_i hs hd
    simp only [PO.run, toIntV] at h2
    split at h2 <;> cases h2
    rename_i he
    cases he
    cases hr
    exact .same (by simp [convert, run_underlying hs, run_underlying hd, Conv.intToInt] <;> rfl) (.v _ _ (.n _ _))
  · rename_i hs hd
    simp only [PO.run, sameV] at h2
    split at h2 <;> cases h2
    rename_i he
    cases he
    cases hr
    exact .same (by simp [convert, run_underlying hs, run_underlying hd] <;> rfl) (.v _ _ (.s _))
theorem field_gives {t : TypeId} {f : Nat} {p : PO} {ds : List D} {d : D} {u : Value} {objs : List (Nat × List V)} (hc : cField P t f = some p) (hv : RepDL w (Ok U objs η w) η ds [u]) (h : (SO.po p).rd objs ds = some d) :
    Gives P w U objs η (Instr.field t u f) d := by
  obtain ⟨vs, r, h1, h2, rfl⟩ := po_split h
  obtain ⟨v, rfl, hr⟩ := vals_one hv h1
  unfold cField at hc
  split at hc
  · rename_i hu
    split at hc
    · rename_i hf
      split at hc <;> cases hc
      rename_i hg hz
      exact .val (fld_sound hr h2 hu hf hg hz)
    · cases hc
  · cases hc
theorem index_gives {t : TypeId} {p : PO} {ds : List D} {d : D} {u i : Value} {objs : List (Nat × List V)} (hc : cIndex P t = some p) (hv : RepDL w (Ok U objs η w) η ds [u, i]) (h : (SO.po p).rd objs ds = some d) :
    Gives P w U objs η (Instr.index t u i) d := by
  obtain ⟨vs, r, h1, h2, rfl⟩ := po_split h
  obtain ⟨v, v', rfl, hr, hr'⟩ := vals_two hv h1
  unfold cIndex at hc
  split at hc
  · rename_i hu
    split at hc <;> cases hc
    rename_i hg hz
    exact .val (idxA_sound hr hr' h2 hu hg hz)
  · rename_i hu
    cases hc
    exact .val (idxS_sound hr hr' h2 hu)
  · cases hc
theorem build_gives {t : TypeId} {is : List Nat} {us : List Value} {p : PO} {ds : List D} {d : D} {objs : List (Nat × List V)} (hc : cBuild P t is = some p) (hv : RepDL w (Ok U objs η w) η ds us) (h : (SO.po p).rd objs ds = some d) :
    Gives P w U objs η (Instr.build t (is.zip us).toArray) d := by
  obtain ⟨vs, r, h1, h2, rfl⟩ := po_split h
  have hl := hv.vals h1
  unfold cBuild at hc
  split at hc
  · rename_i n e hu
    split at hc <;> cases hc
    rename_i hz h0 hp
    exact .val (buildV_sound h0 hp hl h2 ⟨_, hu, .inl ⟨n, e, _, rfl, hz⟩⟩)
  · rename_i fs hu
    split at hc <;> cases hc
    rename_i hz h0 hp
    exact .val (buildV_sound h0 hp hl h2 ⟨_, hu, .inr ⟨fs, _, rfl, hz⟩⟩)
  · cases hc
theorem bsl_gives {t : TypeId} {n : Nat} {is : List Nat} {us : List Value} {p : PO} {ds : List D} {d : D} {objs : List (Nat × List V)} (hc : cBsl P t n is = some p) (hv : RepDL w (Ok U objs η w) η ds us) (h : (SO.po p).rd objs ds = some d)
    (hlies : ∀ s cs b o, look objs s = some cs → η s = some (b, o) → b < w.heap.size) (hU : ∀ b, U b → b < w.heap.size) :
    Gives P w U objs η (Instr.buildSlice t n (is.zip us).toArray) d := by
  obtain ⟨vs, r, h1, h2, rfl⟩ := po_split h
  have hl := hv.vals h1
  unfold cBsl at hc
  split at hc
  · rename_i e hu
    split at hc
    · rename_i zero z hz hsz
      split at hc
      · rename_i ps hp
        split at hc <;> cases hc
        rename_i hb
        obtain ⟨u, w', g1, g2, g3⟩ := bslV_sound hu hz hsz hb.1 hp hb.2.1 hb.2.2 hl h2
        exact ⟨u, w', g1, g2, .v _ _ (g3 _ (fun b hb => (hb.below g2).1) (fun b hb => hb.1) (fun b hb hb' => ⟨hb', fun hu => by have := hU b hu; omega, fun s cs o h1 h2 => by have := hlies s cs b o h1 h2; omega⟩))⟩
      · cases hc
    · cases hc
  · cases hc
theorem len_gives {c : Call} {so : SO} {ty : TypeId} {us : List Value} {ds : List D} {d : D} {b : Builtin} {objs : List (Nat × List V)} (hb : cBuiltin P b c.argTypes.toList = some so) (hv : RepDL w (Ok U objs η w) η ds us) (h : so.rd objs ds = some d)
    (ha : c.args.map a.eval = us.toArray) (cs : Array Bool) : ∃ s : Sem Value, builtin b c.argTypes ty cs us.toArray = (do pure (.value (← s))) ∧ Gives P w U objs η s d := by
  unfold cBuiltin at hb
  split at hb
  · rename_i t hts
    have h0 : c.argTypes[0]? = some t := by rw [← Array.getElem?_toList, hts]; rfl
    refine ⟨Builtin.len_ c.argTypes ty us.toArray, rfl, ?_⟩
    split at hb
    · rename_i n e hu
      cases hb
      obtain ⟨vs, r, h1, h2, rfl⟩ := po_split h
      simp only [PO.run] at h2
      unfold lenAV at h2
      split at h2 <;> cases h2
      have hl := (hv.vals h1).1
      obtain ⟨u, rfl⟩ : ∃ u, us = [u] := by
        match us, hl with
        | [u], _ => exact ⟨u, rfl⟩
      exact .same (by simp [Builtin.len_, h0, run_underlying hu] <;> rfl) (.v _ _ (.n _ _))
    · simp only [Option.map_eq_some_iff] at hb
      obtain ⟨str, hs, rfl⟩ := hb
      match ds, h with
      | [x], h =>
        obtain ⟨u, rfl, hr⟩ := hv.one
        obtain ⟨u', g1, g2⟩ := len_sound hr h h0 hs
        exact .same g1 g2
  · cases hb
    refine ⟨Builtin.max_ c.argTypes ty us.toArray, rfl, ?_⟩
    obtain ⟨vs, r, h1, h2, rfl⟩ := po_split h
    have hl := hv.vals h1
    simp only [PO.run] at h2
    unfold mxV at h2
    split at h2
    · obtain ⟨u, us', rfl, r1, r2⟩ := hl.head
      cases r1
      obtain ⟨z, g1, g2⟩ := mx_sound (P := P) r2 h2
      exact .same (by simpa [Builtin.max_] using g1) (.v _ _ g2)
    · cases h2
  · cases hb
    refine ⟨Builtin.min_ c.argTypes ty us.toArray, rfl, ?_⟩
    obtain ⟨vs, r, h1, h2, rfl⟩ := po_split h
    have hl := hv.vals h1
    simp only [PO.run] at h2
    unfold mnV at h2
    split at h2
    · obtain ⟨u, us', rfl, r1, r2⟩ := hl.head
      cases r1
      obtain ⟨z, g1, g2⟩ := mn_sound (P := P) r2 h2
      exact .same (by simpa [Builtin.min_] using g1) (.v _ _ g2)
    · cases h2
  · unfold cApp at hb
    split at hb
    · split at hb
      · split at hb <;> cases hb
        cases h
      · cases hb
    · cases hb
  · obtain ⟨e, z, zero, _, _, _, _, rfl⟩ := cClr_is hb
    match ds, h with
    | [], h => cases h
    | [_], h => cases h
    | _ :: _ :: _, h => cases h
  · cases hb
set_option maxHeartbeats 4000000 in
theorem rd_sound {hd : Bool} {o : Oper} {so : SO} {xs : List Operand} {ds : List D} {d : D} (hrel : Rel w0 U E nt st a w η) (hc : cOp P hd o.op = some (so, xs))
    (hv : RepDL w (Ok U st.objs η w) η ds (xs.map a.eval)) (h : so.rd st.objs ds = some d) :
    ∃ u w', (execOp a.eval o).run P w = .ok (.value u) w' ∧ Below w.heap.size w w' ∧ RepD w' (Ok U st.objs η w') η d u := by
  have hU : ∀ b, U b → b < w.heap.size := fun b hb => Nat.lt_of_lt_of_le (hrel.uold b hb).1 hrel.keeps.size
  have hlies : ∀ s cs b o, look st.objs s = some cs → η s = some (b, o) → b < w.heap.size := fun s cs b o h1 h2 => (hrel.lies s cs b o h1 h2).2
  obtain ⟨dst, op, type, pos, after, guard⟩ := o
  simp only at hc
  cases op <;> simp only [cOp] at hc <;> try (cases hc; done)
  case move x =>
    cases hc
    match ds, h with
    | [e], h =>
      cases h
      obtain ⟨u, he, hr⟩ := hv.one
      cases he
      exact Gives.exec (s := pure (a.eval x)) rfl (.same rfl hr)
  case assign x =>
    cases hc
    match ds, h with
    | [e], h =>
      cases h
      obtain ⟨u, he, hr⟩ := hv.one
      cases he
      exact Gives.exec (s := pure (a.eval x)) rfl (.same rfl hr)
  case pick c x y =>
    cases hc
    match ds, h with
    | [.v (.b b), p, q], h =>
      cases h
      obtain ⟨u, us, he, hr, hv⟩ := hv.head
      obtain ⟨u2, us2, he2, hr2, hv⟩ := hv.head
      obtain ⟨u3, he3, hr3⟩ := hv.one
      simp only [List.map_cons, List.map_nil, List.cons.injEq] at he
      obtain ⟨rfl, rfl⟩ := he
      simp only [List.cons.injEq] at he2
      obtain ⟨rfl, rfl⟩ := he2
      simp only [List.cons.injEq, and_true] at he3
      subst he3
      generalize hcc : a.eval c = uc at hr
      cases hr with | v _ _ hr =>
      cases hr
      cases b
      · exact ⟨a.eval y, w, by simp [execOp, hcc, asBool], Below.refl _ _, hr3⟩
      · exact ⟨a.eval x, w, by simp [execOp, hcc, asBool], Below.refl _ _, hr2⟩
  case alloc e =>
    simp only [Option.map_eq_some_iff] at hc
    obtain ⟨z, hz, hc⟩ := hc
    cases hc
    cases h
  case box e x => cases hc; cases h
  case build t parts =>
    simp only [Option.map_eq_some_iff] at hc
    obtain ⟨p, hp, hc⟩ := hc
    cases hc
    refine Gives.exec (s := Instr.build t (parts.map fun (i, x) => (i, a.eval x))) rfl ?_
    rw [zip_eval]
    exact build_gives hp hv h
  case buildSlice t n parts =>
    simp only [Option.map_eq_some_iff] at hc
    obtain ⟨p, hp, hc⟩ := hc
    cases hc
    refine Gives.exec (s := Instr.buildSlice t n (parts.map fun (i, x) => (i, a.eval x))) rfl ?_
    rw [zip_eval]
    exact bsl_gives hp hv h hlies hU
  case load t x =>
    split at hc <;> cases hc
    rename_i g z hg hz
    match ds, h with
    | [e], h =>
      obtain ⟨u, he, hr⟩ := hv.one
      cases he
      obtain ⟨u', g1, g2⟩ := ld_sound hrel hr h hg hz (by omega)
      exact Gives.exec (s := Instr.loadAt t (a.eval x)) rfl (.same g1 g2)
  case store t x v =>
    split at hc <;> cases hc
    cases h
  case nilCheck x =>
    cases hc
    match ds, h with
    | [e], h =>
      obtain ⟨u, he, hr⟩ := hv.one
      simp only [List.map_cons, List.map_nil, List.cons.injEq, and_true] at he
      rw [← he] at hr
      generalize hu : a.eval x = ux at hr
      refine ⟨ux, w, ?_, Below.refl _ _, ?_⟩
      · simp only [SO.rd] at h
        unfold nckD at h
        split at h <;> cases h
        · cases hr with | v _ _ hr => cases hr; simp [execOp, hu]
        · cases hr; simp [execOp, hu]
        · cases hr with | v _ _ hr => cases hr; simp [execOp, hu]
      · simp only [SO.rd] at h
        unfold nckD at h
        split at h <;> cases h <;> exact hr
  case binOp op t x y yt =>
    simp only [Option.map_eq_some_iff] at hc
    obtain ⟨p, hp, hc⟩ := hc
    cases hc
    exact Gives.exec (s := do eqGuard op t x y (a.eval x) (a.eval y); binOp op t (a.eval x) (a.eval y)) rfl (bin_gives hp hv h)
  case unOp op t x =>
    cases hc
    obtain ⟨vs, r, h1, h2, rfl⟩ := po_split h
    obtain ⟨v, rfl, r1⟩ := vals_one hv h1
    exact Gives.exec (s := Op.unary op (a.eval x)) rfl (.val (un_sound r1 h2))
  case convert src dst x =>
    simp only [Option.map_eq_some_iff] at hc
    obtain ⟨p, hp, hc⟩ := hc
    cases hc
    exact Gives.exec (s := convert src dst (a.eval x)) rfl (conv_gives hp hv h)
  case makeInterface t x =>
    split at hc <;> cases hc
    rename_i ht
    obtain ⟨vs, r, h1, h2, rfl⟩ := po_split h
    obtain ⟨v, rfl, r1⟩ := vals_one hv h1
    cases h2
    exact Gives.exec (s := Instr.makeInterface t (a.eval x)) rfl (.same (run_makeInterface (P := P) w t _ ht) (.v _ _ (.ifc _ _ _ r1)))
  case makeFunc fn first cap =>
    cases hc
    obtain ⟨vs, r, h1, h2, rfl⟩ := po_split h
    cases h2
    have hl := hv.vals h1
    simp only [List.map_append] at hl
    have e1 : (first.map a.eval).toList = first.toList.map a.eval := by simp
    have e2 : (cap.map a.eval).toList = cap.toList.map a.eval := by simp
    have hf := hl.take first.size
    have hca := hl.drop first.size
    rw [List.take_left' (by simp)] at hf
    rw [List.drop_left' (by simp)] at hca
    rw [← e1] at hf
    rw [← e2] at hca
    have hf' := hf.to_array
    have hca' := hca.to_array
    simp only [Array.toArray_toList] at hf' hca'
    exact Gives.exec (s := Instr.makeFunc fn (first.map a.eval) (cap.map a.eval)) rfl (.same rfl (.v _ _ (.clo _ _ _ _ _ hf'.1 hca'.1 hf'.2 hca'.2)))
  case makeSlice t l c =>
    simp only [Option.map_eq_some_iff] at hc
    obtain ⟨s, hs, hc⟩ := hc
    cases hc
    unfold cMk at hs
    split at hs
    · split at hs
      · split at hs <;> cases hs
        cases h
      · cases hs
    · cases hs
  case slice t x lo hi mx =>
    simp only [Option.map_eq_some_iff] at hc
    obtain ⟨⟨str, z⟩, hz, hc⟩ := hc
    cases hc
    refine Gives.exec (s := Instr.sliceAt t (a.eval x) (lo.map a.eval) (hi.map a.eval) (mx.map a.eval)) rfl ?_
    match ds, h with
    | e :: ds, h =>
      simp only [SO.rd, slArgs, Option.bind_eq_some_iff] at h
      obtain ⟨⟨dl, ds1⟩, h1, ⟨dh, ds2⟩, h2, ⟨dm, ds3⟩, h3, h⟩ := h
      split at h
      · cases h
      rename_i hsm
      obtain ⟨u, us', he, hr, hrs⟩ := hv.head
      simp only [List.map_cons, List.cons.injEq] at he
      obtain ⟨he1, he2⟩ := he
      subst he1
      rw [← he2] at hrs
      have opt : ∀ (y : Option Operand) (ys : List Operand) (ds ds' : List D) (q : Option D), optArg y.isSome ds = some (q, ds') → RepDL w (Ok U st.objs η w) η ds ((y.toList ++ ys).map a.eval) → RepQ w (Ok U st.objs η w) η q (y.map a.eval) ∧ RepDL w (Ok U st.objs η w) η ds' (ys.map a.eval) := fun y ys ds ds' q ho hd => by
        cases y with
        | none => cases ho; exact ⟨.none, hd⟩
        | some y =>
          simp only [optArg, Option.isSome_some, if_true] at ho
          cases ds with
          | nil => cases ho
          | cons e ds =>
            cases ho
            obtain ⟨u, us', he, h1, h2⟩ := hd.head
            simp only [Option.toList_some, List.cons_append, List.nil_append, List.map_cons, List.cons.injEq] at he
            obtain ⟨rfl, rfl⟩ := he
            exact ⟨.some _ _ h1, h2⟩
      obtain ⟨ql, hrs⟩ := opt lo (hi.toList ++ mx.toList) _ _ _ h1 (by simpa using hrs)
      obtain ⟨qh, hrs⟩ := opt hi mx.toList _ _ _ h2 (by simpa using hrs)
      obtain ⟨qm, hrs⟩ := opt mx [] _ _ _ h3 (by simpa using hrs)
      obtain ⟨u', g1, g2⟩ := sl_sound (P := P) hr ql qh qm h hz (fun hs => by
        subst hs
        simp only [Bool.true_and] at hsm
        cases mx with
        | none => cases h3; rfl
        | some y => simp at hsm)
      exact .same g1 g2
  case fieldAddr t x f =>
    simp only [Option.map_eq_some_iff] at hc
    obtain ⟨off, ho, hc⟩ := hc
    cases hc
    match ds, h with
    | [e], h =>
      obtain ⟨u, he, hr⟩ := hv.one
      cases he
      obtain ⟨u', g1, g2⟩ := fa_sound hr h ho
      exact Gives.exec (s := Instr.fieldAt t (a.eval x) f) rfl (.same g1 g2)
  case field t x f =>
    simp only [Option.map_eq_some_iff] at hc
    obtain ⟨p, hp, hc⟩ := hc
    cases hc
    exact Gives.exec (s := Instr.field t (a.eval x) f) rfl (field_gives hp hv h)
  case indexAddr t x i =>
    simp only [Option.map_eq_some_iff] at hc
    obtain ⟨⟨arr, z⟩, hz, hc⟩ := hc
    cases hc
    match ds, h with
    | [e, e'], h =>
      obtain ⟨u, u', he, hr, hr'⟩ := hv.two
      cases he
      obtain ⟨u', g1, g2⟩ := ia_sound hr hr' h hz
      exact Gives.exec (s := Instr.indexAt t (a.eval x) (a.eval i)) rfl (.same g1 g2)
  case index t x i =>
    simp only [Option.map_eq_some_iff] at hc
    obtain ⟨p, hp, hc⟩ := hc
    cases hc
    exact Gives.exec (s := Instr.index t (a.eval x) (a.eval i)) rfl (index_gives hp hv h)
  case extract x i =>
    cases hc
    obtain ⟨vs, r, h1, h2, rfl⟩ := po_split h
    obtain ⟨v, rfl, r1⟩ := vals_one hv h1
    exact Gives.exec (s := Instr.extract (a.eval x) i) rfl (.val (ext_sound r1 h2))
  case call c =>
    split at hc
    · cases hc; cases h
    · cases hc; cases h
    · rename_i b hcal
      simp only [Option.map_eq_some_iff] at hc
      obtain ⟨s, hs, hc⟩ := hc
      cases hc
      have ea : c.args.map a.eval = (c.args.toList.map a.eval).toArray := by apply Array.ext'; simp
      obtain ⟨s', e1, g⟩ := len_gives (ty := type) hs hv h ea (c.args.map fun | .const _ => true | _ => false)
      refine Gives.exec (s := s') ?_ g
      simp only [execOp, resolve, hcal, pure_bind, invoke]
      rw [ea]
      exact e1
    · cases hc
end
end Go.Proofs.Ytdceakejbnolpaa.Sv
