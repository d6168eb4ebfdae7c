/- One operation's step, whatever it does. No condition. -/
import Derived.Test.YtdceakejbnolpaaSv14
namespace Go.Proofs.Ytdceakejbnolpaa.Sv
open Go Go.RowKit
set_option linter.unusedVariables false
set_option linter.unusedSimpArgs false
section
variable {P : Program} {w w0 w' : World} {U E : Nat → Prop} {nt : Nat} {st st' : St} {a : Act} {η : Eta} {ok : Nat → Prop}
theorem ef_sound {hd : Bool} {o : Oper} {so : SO} {xs : List Operand} {ds : List D} (hrel : Rel w0 U E nt st a w η) (hc : cOp P hd o.op = some (so, xs))
    (hv : RepDL w (Ok U st.objs η w) η ds (xs.map a.eval)) (h : so.ef st o.dst ds = some st') (hn : cDst nt o.dst = true) (hso : okSO so = true) {next : Act → World → Prop} {Q : Exit → Act → World → Prop}
    (hk : ∀ u w', RelX w0 U E nt st' (a.put o.dst u) w' → next (a.put o.dst u) w') : o.wp P a w next Q := by
  obtain ⟨dst, op, type, pos, after, guard⟩ := o
  simp only at hc hn h
  have hdst : ∀ s, dst = some s → s < nt := fun s hs => by subst hs; simpa [cDst] using hn
  have noef : ∀ p : PO, so = .po p → False := fun p hp => by subst hp; simp [SO.ef] at h
  cases op <;> simp only [cOp] at hc <;> try (cases hc; done)
  case move => cases hc; simp [SO.ef] at h
  case assign => cases hc; simp [SO.ef] at h
  case pick => cases hc; simp [SO.ef] at h
  case unOp => cases hc; exact (noef _ rfl).elim
  case makeFunc => cases hc; exact (noef _ rfl).elim
  case extract => cases hc; exact (noef _ rfl).elim
  case nilCheck => cases hc; simp [SO.ef] at h
  case build => simp only [Option.map_eq_some_iff] at hc; obtain ⟨p, _, hc⟩ := hc; cases hc; exact (noef _ rfl).elim
  case buildSlice => simp only [Option.map_eq_some_iff] at hc; obtain ⟨p, _, hc⟩ := hc; cases hc; exact (noef _ rfl).elim
  case binOp => simp only [Option.map_eq_some_iff] at hc; obtain ⟨p, _, hc⟩ := hc; cases hc; exact (noef _ rfl).elim
  case convert => simp only [Option.map_eq_some_iff] at hc; obtain ⟨p, _, hc⟩ := hc; cases hc; exact (noef _ rfl).elim
  case field => simp only [Option.map_eq_some_iff] at hc; obtain ⟨p, _, hc⟩ := hc; cases hc; exact (noef _ rfl).elim
  case index => simp only [Option.map_eq_some_iff] at hc; obtain ⟨p, _, hc⟩ := hc; cases hc; exact (noef _ rfl).elim
  case slice => simp only [Option.map_eq_some_iff] at hc; obtain ⟨⟨p, q⟩, _, hc⟩ := hc; cases hc; simp [SO.ef] at h
  case fieldAddr => simp only [Option.map_eq_some_iff] at hc; obtain ⟨p, _, hc⟩ := hc; cases hc; simp [SO.ef] at h
  case indexAddr => simp only [Option.map_eq_some_iff] at hc; obtain ⟨⟨p, q⟩, _, hc⟩ := hc; cases hc; simp [SO.ef] at h
  case makeInterface => split at hc <;> cases hc; exact (noef _ rfl).elim
  case load => split at hc <;> cases hc; simp [SO.ef] at h
  case alloc e =>
    simp only [Option.map_eq_some_iff] at hc
    obtain ⟨zs, hz, hc⟩ := hc
    cases hc
    match ds, h with
    | [], h =>
      simp only [SO.ef, Option.map_eq_some_iff] at h
      obtain ⟨s, rfl, rfl⟩ := h
      obtain ⟨u, w', η', h1, h2⟩ := alloc_sound hrel hz (hdst s rfl)
      exact upon_value (u := u) (w' := w') (by simp [execOp, h1]) (hk _ _ ⟨η', h2⟩)
  case box e x =>
    cases hc
    match ds, h with
    | [.v v], h =>
      simp only [SO.ef, Option.map_eq_some_iff] at h
      obtain ⟨s, rfl, rfl⟩ := h
      obtain ⟨u1, he, hr⟩ := hv.one
      cases he
      cases hr with | v _ _ hr =>
      obtain ⟨u, w', η', h1, h2⟩ := box_sound (P := P) (t := e) hrel hr (hdst s rfl)
      exact upon_value (u := u) (w' := w') (by simp [execOp, h1]) (hk _ _ ⟨η', h2⟩)
  case store t x v =>
    split at hc <;> cases hc
    rename_i z hz
    match ds, h with
    | [.ref s off, .v y], h =>
      simp only [SO.ef, Option.bind_eq_some_iff] at h
      obtain ⟨cs, hcs, h⟩ := h
      split at h <;> cases h
      rename_i hb
      obtain ⟨b1, b2, b3, rfl⟩ := hb
      obtain ⟨u1, u2, he, hr1, hr2⟩ := hv.two
      cases he
      cases hr2 with | v _ _ hr2 =>
      obtain ⟨w', h1, h2⟩ := st_sound hrel hz hr1 hr2 hcs b1 b2 (by omega) b3
      exact upon_skip (w' := w') (by simp [execOp, h1]) (hk _ _ ⟨η, h2⟩)
  case makeSlice t l c =>
    simp only [Option.map_eq_some_iff] at hc
    obtain ⟨s', hs, hc⟩ := hc
    cases hc
    unfold cMk at hs
    split at hs
    case h_2 => cases hs
    rename_i e hu
    split at hs
    case h_2 => cases hs
    rename_i z b zero hz hb hzero
    split at hs <;> cases hs
    rename_i hzl
    match ds, h with
    | [.v (.n kl li), .v (.n kc ci)], h =>
      simp only [SO.ef] at h
      split at h
      case isFalse => cases h
      rename_i hbd
      simp only [Option.map_eq_some_iff] at h
      obtain ⟨s, rfl, rfl⟩ := h
      obtain ⟨u1, u2, he, hr1, hr2⟩ := hv.two
      simp only [List.map_cons, List.map_nil, List.cons.injEq, and_true] at he
      obtain ⟨he1, he2⟩ := he
      cases hr1 with | v _ _ hr1 =>
      cases hr2 with | v _ _ hr2 =>
      cases hr1
      cases hr2
      obtain ⟨u, w', η', h1, h2⟩ := mk_sound (kl := kl) (kc := kc) hrel hu hz hb hzero hzl.1 hzl.2 hbd.1 hbd.2.1 hbd.2.2.1 hbd.2.2.2 (hdst s rfl)
      exact upon_value (u := u) (w' := w') (by simp [execOp, he1, he2, h1]) (hk _ _ ⟨η', h2⟩)
  case call c =>
    split at hc
    · cases hc; simp [SO.ef] at h
    · cases hc; simp [SO.ef] at h
    · rename_i b hcal
      simp only [Option.map_eq_some_iff] at hc
      obtain ⟨s', hs, hc⟩ := hc
      cases hc
      unfold cBuiltin at hs
      split at hs
      · split at hs
        · cases hs; exact (noef _ rfl).elim
        · simp only [Option.map_eq_some_iff] at hs
          obtain ⟨str, _, rfl⟩ := hs
          simp [SO.ef] at h
      · cases hs; exact (noef _ rfl).elim
      · cases hs; exact (noef _ rfl).elim
      · rename_i t t2 hts
        have ha0 : c.argTypes[0]? = some t := by rw [← Array.getElem?_toList, hts]; rfl
        have ha1 : c.argTypes[1]? = some t2 := by rw [← Array.getElem?_toList, hts]; rfl
        have hs0 := hs
        unfold cApp at hs0
        split at hs0
        case h_2 => cases hs0
        split at hs0
        case h_2 => cases hs0
        rename_i z by_ zero _ _ _
        split at hs0 <;> cases hs0
        match ds, h with
        | [.own s0 z' off ln, x], h =>
          simp only [SO.ef, Option.bind_eq_some_iff] at h
          obtain ⟨cs, hcs, ⟨m, ys⟩, hys, h⟩ := h
          split at h
          case isFalse => cases h
          rename_i hbd
          obtain ⟨rfl, b1, b2, b3⟩ := hbd
          simp only [Option.map_eq_some_iff] at h
          obtain ⟨s, rfl, rfl⟩ := h
          obtain ⟨u1, u2, he, hr1, hr2⟩ := hv.two
          have ea : c.args.map a.eval = #[u1, u2] := by apply Array.ext'; simpa using he
          obtain ⟨u, w', η', h1, h2⟩ := app_own_sound (ty := type) hrel hs ha0 ha1 hr1 hr2 hcs hys b1 b2 b3 (hdst s rfl) (by simpa [okSO] using hso)
          refine upon_value (u := u) (w' := w') ?_ (hk _ _ ⟨η', h2⟩)
          simp only [execOp, resolve, hcal, pure_bind, invoke]
          rw [ea]
          simp [builtin, h1]
        | [.v (.sl 0 [] true), x], h =>
          simp only [SO.ef, Option.bind_eq_some_iff] at h
          obtain ⟨⟨m, ys⟩, hys, s, rfl, h⟩ := h
          split at h <;> cases h
          rename_i hbd
          obtain ⟨b1, b2, b3⟩ := hbd
          obtain ⟨u1, u2, he, hr1, hr2⟩ := hv.two
          have ea : c.args.map a.eval = #[u1, u2] := by apply Array.ext'; simpa using he
          have hr0 := hrel.fresh (Below.refl w.heap.size w) (s := s) (cs := []) (x := none) rfl
          have hok : ∀ b', Ok U st.objs η w b' → Ok U (st.fresh s []).objs (η.set s none) w b' := fun b' hb' => ⟨hb'.1, hb'.2.1, fun s' cs' o' h1 h2 => by
            simp only [St.fresh, look] at h1
            split at h1
            · rename_i e; subst e; simp [Eta.set] at h2
            · rename_i e
              rw [look_rid, if_neg e] at h1
              simp only [Eta.set, if_neg e] at h2
              exact hb'.2.2 _ _ _ h1 h2⟩
          have hvv : ∀ v u, RepV w (Ok U st.objs η w) v u → RepV w (Ok U (st.fresh s []).objs (η.set s none) w) v u := fun v u hr => hr.mono fun b' hb' => ⟨hok b' hb', rfl⟩
          have g1 : RepD w (Ok U (st.fresh s []).objs (η.set s none) w) (η.set s none) (.own s z 0 0) u1 := by
            cases hr1 with | v _ _ hr1 =>
            cases hr1 with
            | sl0 => exact .own0 _ _ _ _
            | sl _ _ _ us bl off cap hok hl ht =>
              have : cap = 0 := ht rfl
              subst this
              exact .own0 _ _ _ _
          have g2 : RepD w (Ok U (st.fresh s []).objs (η.set s none) w) (η.set s none) x u2 := by
            have := killD_rep (s := s) (η' := η.set s none) (fun s' hs' => by simp [Eta.set, hs']) hvv (fun _ _ _ _ _ => Nat.le_refl _) hr2
            unfold killD at this
            rw [b1] at this
            simpa using this
          have g3 : look (st.fresh s []).objs s = some [] := by simp [St.fresh, look]
          have g4 : appArg (st.fresh s []).objs z x = some (m, ys) := by
            cases x with
            | v x => cases x <;> first | exact hys | (simp [appArg] at hys; done)
            | ref s' off => simp [appArg] at hys
            | dead => simp [appArg] at hys
            | own s' z' off l =>
              have hne : ¬ s' = s := by simpa [D.ment] using b1
              simp only [appArg, St.fresh, look] at hys ⊢
              rw [if_neg hne, look_rid, if_neg hne]
              exact hys
          obtain ⟨u, w', η', h1, h2⟩ := app_own_sound (ty := type) hr0 hs ha0 ha1 g1 g2 g3 g4 (by simp) (by simpa using b2) b3 (hdst s rfl) (by simpa [okSO] using hso)
          refine upon_value (u := u) (w' := w') ?_ (hk _ _ ⟨η', ?_⟩)
          · simp only [execOp, resolve, hcal, pure_bind, invoke]
            rw [ea]
            simp [builtin, h1]
          · simpa using h2
      · rename_i t hts
        obtain ⟨e, z, zero, hu, hz, h0, hzl, rfl⟩ := cClr_is hs
        have ha0 : c.argTypes[0]? = some t := by rw [← Array.getElem?_toList, hts]; rfl
        match ds, h with
        | [.own s z' off ln], h =>
          simp only [SO.ef, Option.bind_eq_some_iff] at h
          obtain ⟨cs, hcs, h⟩ := h
          split at h <;> cases h
          rename_i hb
          obtain ⟨b1, b2, b3, rfl⟩ := hb
          obtain ⟨u1, he, hr1⟩ := hv.one
          have ea : c.args.map a.eval = #[u1] := by apply Array.ext'; simpa using he
          obtain ⟨w', h1, h2⟩ := clr_sound (ty := type) hrel hu hz h0 hzl ha0 hr1 hcs b1 b2 b3
          refine upon_value (u := .tuple #[]) (w' := w') ?_ (hk _ _ ⟨η, h2⟩)
          simp only [execOp, resolve, hcal, pure_bind, invoke]
          rw [ea]
          simp [builtin, h1]
      · cases hs
    · cases hc
theorem step_sound {ops : Array Oper} {o : Oper} {s : SOp} (hrel : RelX w0 U E nt st a w) {ad : Ad} (hc : cSOp P nt ad ops o = some s) (h : Step P s st st') {next : Act → World → Prop} {Q : Exit → Act → World → Prop}
    (hk : ∀ u w', RelX w0 U E nt st' (a.put o.dst u) w' → next (a.put o.dst u) w') : o.wp P a w next Q := by
  obtain ⟨η, hrel⟩ := hrel
  obtain ⟨hcc, hc2, hc4, hc5⟩ := cSOp_split hc
  rcases hcc fun hb => bad_step hb h with ⟨z, x, hso, har, hop, hx⟩ | ⟨so, xs, hso, hc1, hc3, hc6⟩
  · cases h with
    | rd ds d h1 h2 => rw [hso] at h2; simp [SO.rdx, SO.rd] at h2
    | call f ds vs r hf => rw [hso] at hf; cases hf
    | callD f first cap ds vs r hf => rw [hso] at hf; cases hf
    | callM f pre post d s cs cs' r hf => rw [hso] at hf; cases hf
    | ef ds _ h1 h2 =>
      rw [har] at h1
      cases h1
      rw [hso] at h2
      simp only [SO.ef, Option.map_eq_some_iff] at h2
      obtain ⟨s0, hs0, rfl⟩ := h2
      have hnt : s0 < nt := by rw [hc4] at hs0; rw [hs0] at hc5; simpa [cDst] using hc5
      have hr0 := hrel.fresh (Below.refl w.heap.size w) (s := s0) (cs := []) (x := none) rfl
      have hv := Opd.rep hrel hx (d := .v (.sl 0 [] true)) rfl
      have hu : ∃ a0, a.eval x = .slice a0 0 0 := by
        cases hv with | v _ _ hv =>
        generalize a.eval x = u at hv
        cases hv with
        | sl0 _ a0 => exact ⟨a0, rfl⟩
        | sl _ _ _ us bl off cap hok hl ht => have : cap = 0 := ht rfl; subst this; exact ⟨_, rfl⟩
      obtain ⟨a0, ha0⟩ := hu
      refine upon_value (u := .slice a0 0 0) (w' := w) (by rcases hop with ho | ho <;> rw [execOp, ho] <;> simp [ha0]) (hk _ _ ⟨η.set s0 none, ?_⟩)
      rw [← hc4, hs0]
      exact hr0.put (dst := some s0) (.own0 _ _ _ _) (fun t ht => by cases ht; exact hnt)
  have hdst : ∀ t, s.dst = some t → t < nt := fun t ht => by rw [hc4] at ht; rw [ht] at hc5; simpa [cDst] using hc5
  rcases toM_cases ad.m so with hsame | ⟨g, rfl, hM⟩
  case inr =>
    rw [hM] at hso
    cases h with
    | rd ds d h1 h2 => rw [hso] at h2; simp [SO.rdx, SO.rd] at h2
    | ef ds _ h1 h2 => rw [hso] at h2; simp [SO.ef] at h2
    | call f ds vs r hf => rw [hso] at hf; cases hf
    | callD f first cap ds vs r hf => rw [hso] at hf; cases hf
    | callM f pre post d s0 cs cs' r hf h1 hz h2 h3 =>
      rw [hso] at hf
      cases hf
      have hv := evs_rep hrel hc3 h1
      obtain ⟨dst, op, type, pos, after, guard⟩ := o
      simp only at hc1 hc4
      cases op <;> simp only [cOp] at hc1 <;> try (cases hc1; done)
      all_goals try (simp only [Option.map_eq_some_iff, Prod.mk.injEq, reduceCtorEq, false_and, and_false, exists_false] at hc1; done)
      case load => split at hc1 <;> cases hc1
      case store => split at hc1 <;> cases hc1
      case makeInterface => split at hc1 <;> cases hc1
      case makeSlice t l c =>
        simp only [Option.map_eq_some_iff] at hc1
        obtain ⟨s', hs, hc1⟩ := hc1
        cases hc1
        unfold cMk at hs
        split at hs
        · split at hs
          · split at hs <;> cases hs
          · cases hs
        · cases hs
      case call c =>
        split at hc1
        · rename_i g hcal
          cases hc1
          have ea : c.args.map a.eval = (c.args.toList.map a.eval).toArray := by apply Array.ext'; simp
          have := callM_sound (dst := dst) hrel hv hz h2 h3 (fun t ht => hdst t (by rw [hc4]; exact ht))
          refine upon_call (f := g) (us := (c.args.toList.map a.eval).toArray) ?_ ?_
          · simp only [execOp, resolve, hcal, Act.eval, Deferred.ofValue, pure_bind, invoke]
            rw [show (Array.map (fun x => a.eval x) c.args) = c.args.map a.eval from rfl] at *
            simp only [ea]
            congr 2
            simp
          · unfold CallOk at this ⊢
            split at this
            · obtain ⟨g1, g2, g3, g4⟩ := this
              exact ⟨g1, g2, g3, g4.mono fun e w' ⟨u, h1, h2⟩ => ⟨u, h1, hk _ _ (by rw [hc4]; exact h2)⟩⟩
            · obtain ⟨u, h1, h2⟩ := this
              exact ⟨u, h1, hk _ _ (by rw [hc4]; exact h2)⟩
            · exact this
        · cases hc1
        · rename_i b hcal
          simp only [Option.map_eq_some_iff] at hc1
          obtain ⟨s', hs, hc1⟩ := hc1
          cases hc1
          unfold cBuiltin at hs
          split at hs
          · split at hs
            · cases hs
            · simp at hs
          · cases hs
          · cases hs
          · unfold cApp at hs
            split at hs
            · split at hs
              · split at hs <;> cases hs
              · cases hs
            · cases hs
          · obtain ⟨_, _, _, _, _, _, _, hs⟩ := cClr_is hs
            cases hs
          · cases hs
        · cases hc1
  rw [hsame] at hso
  subst hso
  cases h with
  | callM f pre post d s0 cs cs' r hf => rw [hf] at hc1; exact (cOp_nocallM _ _ hc1).elim
  | rd ds d h1 h2 =>
    obtain ⟨u, w', g1, g2, g3⟩ := rdx_sound hrel hc1 (evs_rep hrel hc3 h1) h2
    refine upon_value g1 (hk _ _ ⟨η, ?_⟩)
    rw [← hc4]
    exact (hrel.below g2).put g3 hdst
  | ef ds _ h1 h2 =>
    rw [hc4] at h2
    exact ef_sound hrel hc1 (evs_rep hrel hc3 h1) h2 hc5 hc6 hk
  | call f ds vs r hf h1 h2 h3 h4 =>
    have hv := evs_rep hrel hc3 h1
    rw [hf] at hc1
    obtain ⟨dst, op, type, pos, after, guard⟩ := o
    simp only at hc1 hc4
    cases op <;> simp only [cOp] at hc1 <;> try (cases hc1; done)
    all_goals try (simp only [Option.map_eq_some_iff, Prod.mk.injEq, reduceCtorEq, false_and, and_false, exists_false] at hc1; done)
    case load => split at hc1 <;> cases hc1
    case store => split at hc1 <;> cases hc1
    case makeInterface => split at hc1 <;> cases hc1
    case makeSlice t l c =>
      simp only [Option.map_eq_some_iff] at hc1
      obtain ⟨s', hs, hc1⟩ := hc1
      cases hc1
      unfold cMk at hs
      split at hs
      · split at hs
        · split at hs <;> cases hs
        · cases hs
      · cases hs
    case call c =>
      split at hc1
      · rename_i g hcal
        cases hc1
        have ea : c.args.map a.eval = (c.args.toList.map a.eval).toArray := by apply Array.ext'; simp
        have := call_sound (dst := dst) hrel (first := []) (cap := []) (fs := []) (cs := []) hv h2 .nil .nil (by simpa using h3) h4 (fun t ht => hdst t (by rw [hc4]; exact ht))
        refine upon_call (f := f) (us := ([] ++ c.args.toList.map a.eval ++ []).toArray) ?_ ?_
        · simp only [execOp, resolve, hcal, Act.eval, Deferred.ofValue, pure_bind, invoke]
          rw [show (Array.map (fun x => a.eval x) c.args) = c.args.map a.eval from rfl] at *
          simp only [ea]
          congr 2
          simp [ea]
        · unfold CallOk at this ⊢
          split at this
          · obtain ⟨g1, g2, g3, g4⟩ := this
            exact ⟨g1, g2, g3, g4.mono fun e w' ⟨u, h1, h2⟩ => ⟨u, h1, hk _ _ (by rw [hc4]; exact h2)⟩⟩
          · obtain ⟨u, h1, h2⟩ := this
            exact ⟨u, h1, hk _ _ (by rw [hc4]; exact h2)⟩
          · exact this
      · cases hc1
      · rename_i b hcal
        simp only [Option.map_eq_some_iff] at hc1
        obtain ⟨s', hs, hc1⟩ := hc1
        cases hc1
        unfold cBuiltin at hs
        split at hs
        · split at hs
          · cases hs
          · simp at hs
        · cases hs
        · cases hs
        · unfold cApp at hs
          split at hs
          · split at hs
            · split at hs <;> cases hs
            · cases hs
          · cases hs
        · obtain ⟨_, _, _, _, _, _, _, hs⟩ := cClr_is hs
          cases hs
        · cases hs
      · cases hc1
  | callD f first cap ds vs r hf h1 h2 h3 h4 =>
    have hv := evs_rep hrel hc3 h1
    rw [hf] at hc1
    obtain ⟨dst, op, type, pos, after, guard⟩ := o
    simp only at hc1 hc4
    cases op <;> simp only [cOp] at hc1 <;> try (cases hc1; done)
    all_goals try (simp only [Option.map_eq_some_iff, Prod.mk.injEq, reduceCtorEq, false_and, and_false, exists_false] at hc1; done)
    case load => split at hc1 <;> cases hc1
    case store => split at hc1 <;> cases hc1
    case makeInterface => split at hc1 <;> cases hc1
    case makeSlice t l c =>
      simp only [Option.map_eq_some_iff] at hc1
      obtain ⟨s', hs, hc1⟩ := hc1
      cases hc1
      unfold cMk at hs
      split at hs
      · split at hs
        · split at hs <;> cases hs
        · cases hs
      · cases hs
    case call c =>
      split at hc1
      · cases hc1
      · rename_i x hx hcal
        cases hc1
        obtain ⟨ux, us', he, hrx, hrs⟩ := hv.head
        simp only [List.map_cons, List.cons.injEq] at he
        obtain ⟨he1, he2⟩ := he
        rw [← he1] at hrx
        rw [← he2] at hrs
        cases hrx with | v _ _ hrx =>
        generalize hfx : a.eval x = fx at hrx
        cases hrx with | clo _ _ _ fs cs hl hl' hr hr' =>
        have := call_sound (dst := dst) hrel hrs h2 (RepL.of_array hl hr) (RepL.of_array hl' hr') h3 h4 (fun t ht => hdst t (by rw [hc4]; exact ht))
        refine upon_call (f := f) (us := (fs.toList ++ c.args.toList.map a.eval ++ cs.toList).toArray) ?_ ?_
        · simp only [execOp, resolve, hcal, hfx, Deferred.ofValue, pure_bind, invoke]
          congr 2
          apply Array.ext'
          simp
        · unfold CallOk at this ⊢
          split at this
          · obtain ⟨g1, g2, g3, g4⟩ := this
            exact ⟨g1, g2, g3, g4.mono fun e w' ⟨u, h1, h2⟩ => ⟨u, h1, hk _ _ (by rw [hc4]; exact h2)⟩⟩
          · obtain ⟨u, h1, h2⟩ := this
            exact ⟨u, h1, hk _ _ (by rw [hc4]; exact h2)⟩
          · exact this
      · rename_i b hcal
        simp only [Option.map_eq_some_iff] at hc1
        obtain ⟨s', hs, hc1⟩ := hc1
        cases hc1
        unfold cBuiltin at hs
        split at hs
        · split at hs
          · cases hs
          · simp at hs
        · cases hs
        · cases hs
        · unfold cApp at hs
          split at hs
          · split at hs
            · split at hs <;> cases hs
            · cases hs
          · cases hs
        · obtain ⟨_, _, _, _, _, _, _, hs⟩ := cClr_is hs
          cases hs
        · cases hs
      · cases hc1
end
end Go.Proofs.Ytdceakejbnolpaa.Sv
