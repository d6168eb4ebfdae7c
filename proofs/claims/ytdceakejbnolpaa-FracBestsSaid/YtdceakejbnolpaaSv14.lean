/- One operation of the text does in the model what its step says. No condition. -/
import Derived.Test.YtdceakejbnolpaaSv13
namespace Go.Proofs.Ytdceakejbnolpaa.Sv
open Go Go.RowKit
set_option linter.unusedVariables false
set_option linter.unusedSimpArgs false

def cGuard (ops : Array Oper) : Option (Nat × Bool) → Option (Option (Nat × Bool))
  | none => some none
  | some (j, want) => ((ops[j]?).bind (·.dst)).map fun g => some (g, want)
def cDst (nt : Nat) : Option Nat → Bool
  | none => true
  | some t => t < nt
def okSO : SO → Bool
  | .app _ by_ => by_ != 0
  | _ => true
/-- An operation of the text, put for what it does. -/
def cAdopt (P : Program) (t : TypeId) : List Opd → Option Nat
  | [.cn (.sl 0 [] true)] => match P.underlying t with
    | some (.slice e) => match szOf P e with
      | some (z + 1) => some (z + 1)
      | _ => none
    | _ => none
  | _ => none
def isMove : Op → Bool
  | .move _ | .assign _ => true
  | _ => false
/-- Pointers to a row's elements: what lies there is not known by number. -/
def hardPtr (ops : Array Oper) : Nat → Operand → Bool
  | n + 1, .tmp t => ops.toList.any fun o => o.dst == some t && match o.op with
    | .indexAddr _ _ _ => true
    | .fieldAddr _ x _ | .move x | .assign x | .nilCheck x => hardPtr ops n x
    | _ => false
  | _, _ => false
def isHard (ops : Array Oper) : Op → Bool
  | .load _ x => hardPtr ops 4 x
  | _ => false
/-- What is asked of a function's text: rows that begin empty are its own (b); functions that are handed an object to write to (m); appends in regions that draw their order are onto own rows (d). -/
structure Ad where
  b : Bool
  m : List Nat
  d : Bool
def Ad.none : Ad := ⟨false, [], false⟩
def Ad.at (ad : Ad) (draw : Bool) : Ad := if draw then ⟨false, [], false⟩ else ad
def toM (ml : List Nat) (so : SO) : SO := match so with
  | .call f => if ml.contains f then .callM f else .call f
  | so => so
theorem toM_cases (ml : List Nat) (so : SO) : toM ml so = so ∨ ∃ f, so = .call f ∧ toM ml so = .callM f := by
  unfold toM
  split
  · rename_i f
    split
    · exact .inr ⟨f, rfl, rfl⟩
    · exact .inl rfl
  · exact .inl rfl
def cSOp (P : Program) (nt : Nat) (ad : Ad) (ops : Array Oper) (o : Oper) : Option SOp :=
  match cGuard ops o.guard with
  | some g => if cDst nt o.dst then
      match cOp P (isHard ops o.op) o.op with
      | some (so, xs) => match allSome (xs.map cOpd) with
        | some args => if okSO so then (match ad.b && isMove o.op, cAdopt P o.type args with
            | true, some z => some ⟨o.dst, g, .adopt z, []⟩
            | _, _ => some ⟨o.dst, g, toM ad.m so, args⟩) else some ⟨o.dst, g, .bad, []⟩
        | none => some ⟨o.dst, g, .bad, []⟩
      | none => some ⟨o.dst, g, .bad, []⟩
    else none
  | none => none
section
variable {P : Program} {w w0 w' : World} {U E : Nat → Prop} {nt : Nat} {st st' : St} {a : Act} {η : Eta} {ok : Nat → Prop}
theorem evs_rep (hrel : Rel w0 U E nt st a w η) : ∀ {xs : List Operand} {args : List Opd} {ds : List D}, allSome (xs.map cOpd) = some args → evs st args = some ds → RepDL w (Ok U st.objs η w) η ds (xs.map a.eval)
  | [], args, ds, h1, h2 => by cases h1; cases h2; exact .nil
  | x :: xs, args, ds, h1, h2 => by
    simp only [List.map_cons] at h1
    cases hp : cOpd x with
    | none => simp [hp, allSome] at h1
    | some p =>
      simp only [hp, allSome, Option.map_eq_some_iff] at h1
      obtain ⟨args', h1, rfl⟩ := h1
      unfold evs at h2
      split at h2 <;> cases h2
      rename_i d ds' g1 g2
      exact .cons (Opd.rep hrel hp g1) (evs_rep hrel h1 g2)
theorem cSOp_split {ad : Ad} {ops : Array Oper} {o : Oper} {s : SOp} (h : cSOp P nt ad ops o = some s) :
    (s.so ≠ .bad → (∃ z x, s.so = .adopt z ∧ s.args = [] ∧ (o.op = .move x ∨ o.op = .assign x) ∧ cOpd x = some (.cn (.sl 0 [] true))) ∨ ∃ so xs, s.so = toM ad.m so ∧ cOp P (isHard ops o.op) o.op = some (so, xs) ∧ allSome (xs.map cOpd) = some s.args ∧ okSO so = true) ∧ cGuard ops o.guard = some s.guard ∧ s.dst = o.dst ∧ cDst nt o.dst = true := by
  unfold cSOp at h
  split at h
  · rename_i g hg
    split at h
    · rename_i hd
      split at h
      · rename_i so xs h1
        split at h
        · rename_i args h3
          split at h
          · rename_i hb
            split at h <;> cases h
            · rename_i z hm hz
              refine ⟨fun _ => .inl ?_, hg, rfl, hd⟩
              unfold cAdopt at hz
              split at hz
              · simp only [Bool.and_eq_true] at hm
                obtain ⟨_, hm⟩ := hm
                unfold isMove at hm
                have main : ∀ x, cOp P (isHard ops o.op) o.op = some (.mv, [x]) → (o.op = .move x ∨ o.op = .assign x) → ∃ z' x, SO.adopt z = .adopt z' ∧ ([] : List Opd) = [] ∧ (o.op = .move x ∨ o.op = .assign x) ∧ cOpd x = some (.cn (.sl 0 [] true)) := fun x hx ho => by
                  rw [hx] at h1
                  cases h1
                  refine ⟨z, x, rfl, rfl, ho, ?_⟩
                  simp only [List.map_cons, List.map_nil] at h3
                  cases hc : cOpd x with
                  | none => simp [hc, allSome] at h3
                  | some p => simp [hc, allSome] at h3; rw [h3]
                split at hm
                · rename_i x ho
                  exact main x (by rw [ho]; rfl) (.inl ho)
                · rename_i x ho
                  exact main x (by rw [ho]; rfl) (.inr ho)
                · cases hm
              · cases hz
            · exact ⟨fun _ => .inr ⟨so, xs, rfl, h1, h3, hb⟩, hg, rfl, hd⟩
          · cases h; exact ⟨fun hb => absurd rfl hb, hg, rfl, hd⟩
        · cases h; exact ⟨fun hb => absurd rfl hb, hg, rfl, hd⟩
      · cases h; exact ⟨fun hb => absurd rfl hb, hg, rfl, hd⟩
    · cases h
  · cases h
theorem bad_step {s : SOp} (hs : s.so = .bad) (h : Step P s st st') : False := by
  cases h with
  | rd ds d h1 h2 => rw [hs] at h2; simp [SO.rdx, SO.rd] at h2
  | ef ds _ h1 h2 => rw [hs] at h2; simp [SO.ef] at h2
  | call f ds vs r hf => rw [hs] at hf; cases hf
  | callD f first cap ds vs r hf => rw [hs] at hf; cases hf
  | callM f pre post d s cs cs' r hf => rw [hs] at hf; cases hf
theorem upon_value {o : Oper} {next : Act → World → Prop} {Q : Exit → Act → World → Prop} {u : Value} (he : (execOp a.eval o).run P w = .ok (.value u) w') (h : next (a.put o.dst u) w') : o.wp P a w next Q := by
  unfold Oper.wp
  rw [he]
  exact h
theorem upon_skip {o : Oper} {next : Act → World → Prop} {Q : Exit → Act → World → Prop} (he : (execOp a.eval o).run P w = .ok .skip w') (h : next (a.put o.dst undef) w') : o.wp P a w next Q := by
  unfold Oper.wp
  rw [he]
  exact h
theorem upon_call {o : Oper} {next : Act → World → Prop} {Q : Exit → Act → World → Prop} {f : FuncId} {us : Array Value} (he : (execOp a.eval o).run P w = (callFunc f us).run P w)
    (h : CallOk P f us w fun e w' => ∃ u, e = .returned u ∧ next (a.put o.dst u) w') : o.wp P a w next Q := by
  unfold Oper.wp
  rw [he]
  unfold CallOk at h
  split at h
  · rename_i g as_ w1 hr
    obtain ⟨rfl, rfl, rfl, hc⟩ := h
    rw [hr]
    refine hc.mono fun e w'' ⟨u, h1, h2⟩ => ?_
    subst h1
    exact h2
  · rename_i v w1 hr
    rw [hr]
    obtain ⟨u, h1, h2⟩ := h
    cases h1
    exact h2
  · exact h.elim
theorem app_v_sound (hrel : Rel w0 U E nt st a w η) {t t2 : TypeId} {ts : Array TypeId} {ty : TypeId} {z by_ n m : Nat} {x : D} {u1 u2 : Value} {xs ys : List V} (hc : cApp P t t2 = some (.app z by_)) (h0 : ts[0]? = some t) (h1 : ts[1]? = some t2)
    (hx1 : RepD w (Ok U st.objs η w) η (.v (.sl n xs true)) u1) (hx2 : RepD w (Ok U st.objs η w) η x u2) (hys : appArg st.objs z x = some (m, ys)) (hxl : xs.length = n * z)
    (hroom : (n + m) * by_ ≤ 2 ^ 47) (hby : by_ ≠ 0) : Gives P w U st.objs η (Builtin.append_ ts ty #[u1, u2]) (.v (.sl (n + m) (xs ++ ys) false)) := by
  unfold cApp at hc
  split at hc
  case h_2 => cases hc
  rename_i e e2 hu hu2
  split at hc
  case h_2 => cases hc
  rename_i z' b' zero hz hb hzero
  split at hc <;> cases hc
  rename_i hzl
  obtain ⟨hzl, hz0⟩ := hzl
  obtain ⟨us, hr, hyr, hm, hyl⟩ := appArg_reads hrel hx2 hys
  have hUb : ∀ b, U b → b < w.heap.size := fun b hb => Nat.lt_of_lt_of_le (hrel.uold b hb).1 hrel.keeps.size
  have grown : ∀ (os : List Value) (c : Nat) (p : Option Addr), u1 = .slice p n c → Reads P w z n (.slice p n c) os → RepL w (Ok U st.objs η w) xs os → ¬ n + m ≤ c →
      Gives P w U st.objs η (Builtin.append_ ts ty #[u1, u2]) (.v (.sl (n + m) (xs ++ ys) false)) := fun os c p hu1 ho hor hf => by
    subst hu1
    obtain ⟨cap, rest, k1, k2, k3⟩ := run_append_new (P := P) (ty := ty) h0 h1 hu ⟨e2, hu2⟩ hz hb hzero hm hr ho hf hroom hby hzl
    have hbel := below_drew_alloc w (.cells (os.toArray ++ us.toArray ++ rest) e)
    have hall := hor.append hyr
    refine ⟨_, _, k3, hbel, .v _ _ ?_⟩
    have hnew : Ok U st.objs η (w.drew.alloc (.cells (os.toArray ++ us.toArray ++ rest) e)) w.heap.size := ⟨by simp, fun h => by have := hUb _ h; omega, fun s cs o g1 g2 => by have := (hrel.lies s cs _ o g1 g2).2; omega⟩
    have e1 : os.toArray ++ us.toArray ++ rest = (os ++ us ++ rest.toList).toArray := by apply Array.ext'; simp
    have get : ∀ (i : Nat) v, (xs ++ ys)[i]? = some v → ∃ u, (os.toArray ++ us.toArray ++ rest)[i]? = some u ∧ RepV w (Ok U st.objs η w) v u := fun i v hi => by
      obtain ⟨u, hu, hv⟩ := hall.2 i v hi
      have hlt : i < (os ++ us).length := (List.getElem?_eq_some_iff.1 hu).1
      exact ⟨u, by rw [e1, List.getElem?_toArray, List.getElem?_append_left hlt, hu], hv⟩
    have hh : (w.drew.alloc (.cells (os.toArray ++ us.toArray ++ rest) e)).heap[w.heap.size]? = some (.cells (os.toArray ++ us.toArray ++ rest) e) := by show (w.heap.push _)[w.heap.size]? = _; simp
    refine .sl _ _ _ (fun i => (os.toArray ++ us.toArray ++ rest).getD i undef) w.heap.size 0 cap hnew k1 (fun h => by cases h) (fun i v hi => ?_) (fun i v hi => ?_)
    · obtain ⟨u, g1, g2⟩ := get i v hi
      simp only [World.cell?, hh, Option.isSome_none, Bool.false_eq_true, if_false, Nat.zero_add, g1, Array.getD_eq_getD_getElem?, Option.getD_some]
    · obtain ⟨u, g1, g2⟩ := get i v hi
      simp only [Array.getD_eq_getD_getElem?, g1, Option.getD_some]
      exact g2.mono fun b hb => hb.below hbel
  cases hx1 with | v _ _ hx1 =>
  cases hx1 with
  | sl0 _ p =>
    by_cases hm0 : m = 0
    · subst hm0
      obtain rfl : ys = [] := List.eq_nil_of_length_eq_zero (by omega)
      obtain rfl : us = [] := by have := hyr.1; simpa using this
      obtain ⟨p2, c2, rfl⟩ := hm
      have hrun : (Builtin.append_ ts ty #[.slice p 0 0, .slice p2 0 c2]).run P w = .ok (.slice p 0 0) w := by
        cases p <;> simp [Builtin.append_, h0, h1, run_underlying hu, run_underlying hu2, run_size hz, Builtin.lenOf, hr w rfl, storeCells]
      exact .same hrun (.v _ _ (.sl0 _ p))
    · exact grown [] 0 p rfl reads_nil .nil (by omega)
  | sl _ _ _ us0 b o cap hok hl ht hcc hrr =>
    have hcap := ht rfl
    subst hcap
    by_cases hf : cap + m ≤ cap
    · have hm0 : m = 0 := by omega
      subst hm0
      obtain rfl : ys = [] := List.eq_nil_of_length_eq_zero (by omega)
      obtain rfl : us = [] := by have := hyr.1; simpa using this
      obtain ⟨w'', g1, g2⟩ := run_append_in (P := P) (w := w) (ty := ty) (b := b) (o := o) h0 h1 hu ⟨e2, hu2⟩ hz hm hr hf ⟨w, rfl⟩
      cases g1
      refine .same g2 (.v _ _ ?_)
      rw [List.append_nil]
      exact .sl _ _ _ us0 b o cap hok (by omega) (fun h => by cases h) hcc hrr
    · obtain ⟨os, h2, h3⟩ := reads_lies (P := P) (w := w) (ok := Ok U st.objs η w) (b := b) (o := o) (n := cap) (c := cap) hxl (fun i v hi => ⟨us0 i, hcc i v hi, hrr i v hi⟩)
      exact grown os cap _ rfl h2 h3 hf
theorem cOp_noappv (hd : Bool) (op : Op) {z b : Nat} {xs : List Operand} : ¬ cOp P hd op = some (.appv z b, xs) := by
  intro hc
  cases op <;> simp only [cOp] at hc <;> try (cases hc; done)
  all_goals try (simp only [Option.map_eq_some_iff, Prod.mk.injEq, reduceCtorEq, false_and, and_false, exists_false] at hc; done)
  case load => split at hc <;> cases hc
  case store => split at hc <;> cases hc
  case makeInterface => split at hc <;> cases hc
  case makeSlice t l c =>
    simp only [Option.map_eq_some_iff] at hc
    obtain ⟨s, hs, hc⟩ := hc
    cases hc
    unfold cMk at hs
    split at hs
    · split at hs
      · split at hs <;> cases hs
      · cases hs
    · cases hs
  case call c =>
    split at hc
    · cases hc
    · cases hc
    · simp only [Option.map_eq_some_iff] at hc
      obtain ⟨s, hs, hc⟩ := hc
      cases hc
      unfold cBuiltin at hs
      split at hs
      · split at hs
        · cases hs
        · simp at hs
      · cases hs
      · cases hs
      · unfold cApp at hs
        split at hs
        · split at hs
          · split at hs <;> cases hs
          · cases hs
        · cases hs
      · obtain ⟨_, _, _, _, _, _, _, hs⟩ := cClr_is hs
        cases hs
      · cases hs
    · cases hc
theorem cOp_nocallM (hd : Bool) (op : Op) {f : FuncId} {xs : List Operand} : ¬ cOp P hd op = some (.callM f, xs) := by
  intro hc
  cases op <;> simp only [cOp] at hc <;> try (cases hc; done)
  all_goals try (simp only [Option.map_eq_some_iff, Prod.mk.injEq, reduceCtorEq, false_and, and_false, exists_false] at hc; done)
  case load => split at hc <;> cases hc
  case store => split at hc <;> cases hc
  case makeInterface => split at hc <;> cases hc
  case makeSlice t l c =>
    simp only [Option.map_eq_some_iff] at hc
    obtain ⟨s, hs, hc⟩ := hc
    cases hc
    unfold cMk at hs
    split at hs
    · split at hs
      · split at hs <;> cases hs
      · cases hs
    · cases hs
  case call c =>
    split at hc
    · cases hc
    · cases hc
    · simp only [Option.map_eq_some_iff] at hc
      obtain ⟨s, hs, hc⟩ := hc
      cases hc
      unfold cBuiltin at hs
      split at hs
      · split at hs
        · cases hs
        · simp at hs
      · cases hs
      · cases hs
      · unfold cApp at hs
        split at hs
        · split at hs
          · split at hs <;> cases hs
          · cases hs
        · cases hs
      · obtain ⟨_, _, _, _, _, _, _, hs⟩ := cClr_is hs
        cases hs
      · cases hs
    · cases hc
theorem rdx_sound {hd : Bool} {o : Oper} {so : SO} {xs : List Operand} {ds : List D} {d : D} (hrel : Rel w0 U E nt st a w η) (hc : cOp P hd o.op = some (so, xs))
    (hv : RepDL w (Ok U st.objs η w) η ds (xs.map a.eval)) (h : so.rdx st.objs ds = some d) :
    ∃ u w', (execOp a.eval o).run P w = .ok (.value u) w' ∧ Below w.heap.size w w' ∧ RepD w' (Ok U st.objs η w') η d u := by
  unfold SO.rdx at h
  split at h
  · rename_i z by_
    unfold appV at h
    split at h
    · rename_i n ys x
      simp only [Option.bind_eq_some_iff] at h
      obtain ⟨⟨m, zs⟩, h1, h⟩ := h
      split at h <;> cases h
      rename_i hb
      obtain ⟨dst, op, type, pos, after, guard⟩ := o
      simp only at hc
      -- only append is put for that
      cases op <;> simp only [cOp] at hc <;> try (cases hc; done)
      all_goals try (simp only [Option.map_eq_some_iff, Prod.mk.injEq, reduceCtorEq, false_and, and_false, exists_false] at hc; done)
      case load => split at hc <;> cases hc
      case store => split at hc <;> cases hc
      case makeInterface => split at hc <;> cases hc
      case makeSlice t l c =>
        simp only [Option.map_eq_some_iff] at hc
        obtain ⟨s, hs, hc⟩ := hc
        cases hc
        unfold cMk at hs
        split at hs
        · split at hs
          · split at hs <;> cases hs
          · cases hs
        · cases hs
      case call c =>
        split at hc
        · cases hc
        · cases hc
        · rename_i b hcal
          simp only [Option.map_eq_some_iff] at hc
          obtain ⟨s, hs, hc⟩ := hc
          cases hc
          unfold cBuiltin at hs
          split at hs
          · split at hs
            · cases hs
            · simp at hs
          · cases hs
          · cases hs
          · rename_i t t2 hts
            have ha0 : c.argTypes[0]? = some t := by rw [← Array.getElem?_toList, hts]; rfl
            have ha1 : c.argTypes[1]? = some t2 := by rw [← Array.getElem?_toList, hts]; rfl
            obtain ⟨u1, u2, he, hr1, hr2⟩ := hv.two
            have ea : c.args.map a.eval = #[u1, u2] := by apply Array.ext'; simpa using he
            have g := app_v_sound (ty := type) hrel hs ha0 ha1 hr1 hr2 h1 hb.1 hb.2.1 hb.2.2
            refine Gives.exec (s := Builtin.append_ c.argTypes type #[u1, u2]) ?_ g
            simp only [execOp, resolve, hcal, pure_bind, invoke]
            rw [ea]
            rfl
          · obtain ⟨_, _, _, _, _, _, _, hs⟩ := cClr_is hs
            cases hs
          · cases hs
        · cases hc
    · cases h
  · exact absurd hc (cOp_noappv _ _)
  · exact rd_sound hrel hc hv h
end
end Go.Proofs.Ytdceakejbnolpaa.Sv
