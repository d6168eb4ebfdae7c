/- Functions that write to an object that they are handed. No condition. -/
import Derived.Test.YtdceakejbnolpaaSv26
namespace Go.Proofs.Ytdceakejbnolpaa.Sv
open Go Go.RowKit
set_option linter.unusedVariables false
set_option linter.unusedSimpArgs false

/-- The code sets no slot p. -/
def noset (p : Nat) : Code → Bool
  | .region _ ops _ => ops.toList.all fun o => o.dst != some p
  | .seq x y => noset p x && noset p y
  | .cond _ x y => noset p x && noset p y
  | .block _ x => noset p x
  | .loop x => noset p x
  | _ => true
def Fn1.noset (P : Program) (f : FuncId) (p : Nat) : Bool := match P.funcs[f]? with
  | some fn => match fn.body with
    | some c => Sv.noset p c
    | none => false
  | none => false
theorem noset_ops {p id : Nat} {ops : Array Oper} {draw : Bool} (h : noset p (.region id ops draw) = true) : ∀ o ∈ ops.toList, ∀ t, o.dst = some t → t ≠ p := fun o ho t ht e => by
  subst e
  have := List.all_eq_true.1 h o ho
  rw [ht] at this
  simp at this
section
variable {P : Program} {w w0 w' : World} {U E : Nat → Prop} {nt : Nat} {st st' : St} {a : Act} {η : Eta} {ok : Nat → Prop}
theorem compile_soundF {ad : Ad} {p : Nat} {a0 : Act} : ∀ (n : Nat) (c : Code), SizeOf.sizeOf c ≤ n → noset p c = true → ∀ (hs hs' : List (List Nat)) (sc : SC) (Q : Exit → St → Prop) (st : St) (a : Act) (w : World), compile P ad nt c hs = some (sc, hs') → sc.wp P Q st → RelX w0 U E nt st a w → Frm (· ≠ p) a0 a → c.wp P (liftF w0 U E nt (· ≠ p) a0 Q) a w := by
  intro n
  induction n with
  | zero => intro c hn; cases c <;> simp at hn
  | succ n ih =>
  intro c hn hns
  cases c with
  | skip => intro hs hs' sc Q st a w hc h hr hf; simp only [compile] at hc; cases hc; exact wp_skip ⟨⟨st, hr, h⟩, hf⟩
  | ret => intro hs hs' sc Q st a w hc h hr hf; simp only [compile] at hc; cases hc; exact wp_ret ⟨⟨st, hr, h⟩, hf⟩
  | exit id => intro hs hs' sc Q st a w hc h hr hf; simp only [compile] at hc; cases hc; exact wp_exit ⟨⟨st, hr, h⟩, hf⟩
  | region id ops draw =>
    intro hs hs' sc Q st a w hc h hr hf
    cases hs with
    | nil => simp [compile] at hc
    | cons live hs =>
      simp only [compile, Option.map_eq_some_iff] at hc
      obtain ⟨x, hx, hc⟩ := hc
      cases hc
      exact compR_sound (D := (· ≠ p)) (a0 := a0) hx h hr (noset_ops hns) hf
  | seq x y =>
    simp only [noset, Bool.and_eq_true] at hns
    have ihx := ih x (by simp at hn; omega) hns.1
    have ihy := ih y (by simp at hn; omega) hns.2
    intro hs hs' sc Q st a w hc h hr hf
    unfold compile at hc
    split at hc
    case h_7 =>
      rename_i i1 ops1 d1 i2 ops2 d2 z l1 l2 hs1 heq
      cases heq
      simp only [noset, Bool.and_eq_true] at hns
      have ihz := ih z (by simp at hn; omega) hns.2.2
      have hp1 : p ∉ dstsOf ops1 ++ dstsOf ops2 := fun hm => by
        rcases List.mem_append.1 hm with hm | hm
        · obtain ⟨o, ho, e⟩ := List.mem_filterMap.1 hm
          exact noset_ops (id := i1) (draw := d1) (by simpa only [noset] using hns.1) o ho p e rfl
        · obtain ⟨o, ho, e⟩ := List.mem_filterMap.1 hm
          exact noset_ops (id := i2) (draw := d2) (by simpa only [noset] using hns.2.1) o ho p e rfl
      simp only [Option.bind_eq_some_iff, Option.map_eq_some_iff] at hc
      obtain ⟨x', hx, y', hy, ⟨z', hs2⟩, hz, hc⟩ := hc
      cases hc
      have hm1 : ∀ o ∈ ops1.toList, ∀ t, o.dst = some t → t ∈ dstsOf ops1 ++ dstsOf ops2 := fun o ho t ht => List.mem_append_left _ (dstsOf_mem ho ht)
      have hm2 : ∀ o ∈ ops2.toList, ∀ t, o.dst = some t → t ∈ dstsOf ops1 ++ dstsOf ops2 := fun o ho t ht => List.mem_append_right _ (dstsOf_mem ho ht)
      generalize dstsOf ops1 ++ dstsOf ops2 = ds at h hm1 hm2 hp1
      have hF := hr.freezeL (st.objs.map (·.1))
      obtain ⟨η, h0⟩ := hr
      obtain ⟨ηF, h1⟩ := hF
      simp only [SC.wp] at h
      have h := (forceR_iff (K := fun ρ => x'.wp P (thenQ (fun st' => y'.wp P (thawQ ds st (thenQ (fun st' => z'.wp P Q st') Q)) st') (thawQ ds st (thenQ (fun st' => z'.wp P Q st') Q))) ⟨ρ, []⟩)).1 h
      refine wp_seq (wp_mono (compR_sound (w0 := w) (U := U) (E := fun _ => False) (D := (· ∈ ds)) (a0 := a) hx h ⟨ηF, h1.rebase⟩ hm1 (Frm.refl _ _)) fun e a1 w1 ⟨⟨st1, hr1, hq1⟩, hf1⟩ => ?_)
      cases e with
      | normal =>
        refine wp_seq (wp_mono (compR_sound (w0 := w) (U := U) (E := fun _ => False) (D := (· ∈ ds)) (a0 := a) hy hq1 hr1 hm2 hf1) fun e a2 w2 ⟨⟨st2, ⟨η2, hr2⟩, hq2⟩, hf2⟩ => ?_)
        cases e with
        | normal => exact ihz _ _ _ _ _ a2 w2 hz (mergeK_iff.1 hq2) ⟨η, h0.merged hr2 hf2⟩ (fun t ht => by
            have : t = p := Classical.byContradiction fun h => ht h
            subst this
            exact (hf2 t hp1).trans (hf t ht))
        | _ => exact hq2.elim
      | _ => exact hq1.elim
    case h_8 =>
      rename_i heq _
      cases heq
      simp only [Option.bind_eq_some_iff, Option.map_eq_some_iff] at hc
      obtain ⟨⟨x', hs1⟩, hx, ⟨y', hs2⟩, hy, hc⟩ := hc
      cases hc
      refine wp_seq (wp_mono (ihx _ _ _ _ st a w hx h hr hf) fun e a1 w1 ⟨⟨st1, hr1, hq⟩, hf1⟩ => ?_)
      cases e with
      | normal => exact ihy _ _ _ _ st1 a1 w1 hy hq hr1 hf1
      | _ => exact ⟨⟨st1, hr1, hq⟩, hf1⟩
    case h_12 => simp_all
    all_goals (rename_i heq; cases heq)
  | cond c x y =>
    simp only [noset, Bool.and_eq_true] at hns
    have ihx := ih x (by simp at hn; omega) hns.1
    have ihy := ih y (by simp at hn; omega) hns.2
    intro hs hs' sc Q st a w hc h hr hf
    simp only [compile, Option.bind_eq_some_iff, Option.map_eq_some_iff] at hc
    obtain ⟨c', hcc, ⟨x', hs1⟩, hx, ⟨y', hs2⟩, hy, hc⟩ := hc
    cases hc
    simp only [SC.wp] at h
    split at h
    · rename_i p hp
      obtain ⟨η, hr'⟩ := hr
      have hrep := Opd.rep hr' hcc hp
      generalize hv : a.eval c = v at hrep
      cases hrep with | v _ _ hrep =>
      cases hrep
      have h := h.get
      cases p
      · exact wp_cond_false hv (ihy _ _ _ _ st a w hy h ⟨η, hr'⟩ hf)
      · exact wp_cond_true hv (ihx _ _ _ _ st a w hx h ⟨η, hr'⟩ hf)
    · exact h.elim
  | block id x =>
    have ih := ih x (by simp at hn; omega) hns
    intro hs hs' sc Q st a w hc h hr hf
    simp only [compile, Option.map_eq_some_iff] at hc
    obtain ⟨⟨x', hs1⟩, hx, hc⟩ := hc
    cases hc
    refine wp_block (wp_mono (ih _ _ _ _ st a w hx h hr hf) fun e a1 w1 ⟨⟨st1, hr1, hq⟩, hf1⟩ => ?_)
    cases e with
    | exit id' =>
      unfold inBlockQ at hq
      by_cases hi : id' = id
      · simp only [hi, if_true] at hq
        simp only [Exit.inBlock, hi, if_true]
        exact ⟨⟨st1, hr1, hq⟩, hf1⟩
      · simp only [hi, if_false] at hq
        simp only [Exit.inBlock, hi, if_false]
        exact ⟨⟨st1, hr1, hq⟩, hf1⟩
    | _ => exact ⟨⟨st1, hr1, hq⟩, hf1⟩
  | loop x =>
    have ih := ih x (by simp at hn; omega) hns
    intro hs hs' sc Q st a w hc h hr hf
    cases hs with
    | nil => simp [compile] at hc
    | cons live hs =>
      simp only [compile, Option.map_eq_some_iff] at hc
      obtain ⟨⟨x', hs1⟩, hx, hc⟩ := hc
      cases hc
      refine LoopSem.wp ?_
      obtain ⟨h⟩ := keepK_iff.1 h
      refine h (fun s => ∀ a w, RelX w0 U E nt s a w → Frm (· ≠ p) a0 a → LoopSem P x (liftF w0 U E nt (· ≠ p) a0 Q) a w) (fun s hs a1 w1 hr1 hf1 => ?_) a w (hr.keep live) hf
      refine LoopSem.unroll (wp_mono (ih _ _ _ _ s a1 w1 hx hs hr1 hf1) fun e a2 w2 ⟨⟨st2, hr2, hq⟩, hf2⟩ => ?_)
      cases e with
      | normal => exact (keepK_iff (K := fun s => ∀ a w, RelX w0 U E nt s a w → Frm (· ≠ p) a0 a → LoopSem P x (liftF w0 U E nt (· ≠ p) a0 Q) a w)).1 hq a2 w2 (hr2.keep live) hf2
      | _ => exact ⟨⟨st2, hr2, hq⟩, hf2⟩
  | _ => intro hs hs' sc Q st a w hc h hr hf; cases hs <;> (simp only [compile, Option.some.injEq, Prod.mk.injEq] at hc; obtain ⟨rfl, _⟩ := hc; exact h.elim)

end
/-- The first slots of a call that is handed values and an object. -/
def initM (pre : List V) (d : D) (post : List V) : List (Nat × D) := initR 0 pre ++ (pre.length, d.rekey pre.length) :: initR (pre.length + 1) post
def valD : D → Option V
  | .v x => some x
  | _ => none
def res1M (st : St) : CR → Option V
  | .tm t => (look st.ρ t).bind valD
  | .cell t g z => (look st.ρ t).bind fun d => ((deref st.objs d).bind (ldD g z)).bind valD
def resLM (st : St) : List CR → Option (List V)
  | [] => some []
  | c :: cs => match res1M st c, resLM st cs with
    | some v, some vs => some (v :: vs)
    | _, _ => none
def tupV : List V → V
  | [v] => v
  | vs => .tup vs
/-- What a function hands back, by itself or a part of the object p. -/
def resM (st : St) (p : Nat) (rs : List CR) : Option D := match rs with
  | [.tm t] => match look st.ρ t with
    | some (.own s z o l) => if s = p then some (.own s z o l) else none
    | some (.ref s o) => if s = p then some (.ref s o) else none
    | some (.v x) => some (.v x)
    | _ => none
  | rs => (resLM st rs).map fun vs => .v (tupV vs)
structure EndM (st : St) (p : Nat) (rs : List CR) (d r : D) (cs' : List V) : Prop where
  slot : look st.ρ p = some (d.rekey p)
  obj : look st.objs p = some cs'
  res : resM st p rs = some (r.rekey p)
def endQM (p : Nat) (rs : List CR) (d r : D) (cs' : List V) : Exit → St → Prop
  | .normal, st | .ret, st => EndM st p rs d r cs'
  | _, _ => False
def handLen (d : D) (cs : List V) : Prop := match d with
  | .own _ z _ n => 0 < n ∧ cs.length = n * z
  | _ => True
section
variable {P : Program} {w w0 w' : World} {U E : Nat → Prop} {nt : Nat} {st st' : St} {a : Act} {η : Eta} {ok : Nat → Prop}
theorem res1M_run (hr : Rel w0 U E nt st a w η) {c : ResultVar} {c' : CR} {v : V} (hc : cRes1 P c = some c') (h : res1M st c' = some v) :
    ∃ u, (resOne a.tmps c).run P w = .ok u w ∧ RepV w (Ok U st.objs η w) v u := by
  cases c with
  | tmp t =>
    cases hc
    simp only [res1M, Option.bind_eq_some_iff] at h
    obtain ⟨d, hd, h⟩ := h
    have hs := (hr.slots t d hd).2
    cases d <;> simp [valD] at h
    subst h
    cases hs with | v _ _ hs =>
    exact ⟨_, rfl, hs⟩
  | cell t ty =>
    simp only [cRes1] at hc
    split at hc <;> cases hc
    rename_i g z hg hz
    simp only [res1M, Option.bind_eq_some_iff] at h
    obtain ⟨d, hd, e, he, h⟩ := h
    cases e <;> simp [valD] at h
    subst h
    have hrd := (hr.slots t d hd).2
    obtain ⟨u, h1, h2⟩ := ld_sound (P := P) hr hrd (by simpa only [Option.bind_eq_some_iff] using he) hg hz (by omega)
    cases h2 with | v _ _ h2 =>
    have hp : ∃ b o, a.tmps.getD t undef = .pointer (some ⟨b, o, none⟩) := by
      obtain ⟨cs, hcs, hld⟩ := he
      have hne : cs ≠ [] := by
        rintro rfl
        unfold ldD at hld
        split at hld <;> simp at hld
      obtain ⟨b, o, hb, _⟩ := deref_lies hr hrd hcs hne
      exact ⟨b, o, hb⟩
    obtain ⟨b, o, hb⟩ := hp
    rw [hb] at h1
    exact ⟨u, by simpa [Instr.loadAt, Instr.sureAddr, asAddr, resOne, hb] using h1, h2⟩
theorem resLM_run (hr : Rel w0 U E nt st a w η) : ∀ {cs : List ResultVar} {cs' : List CR} {vs : List V}, allSome (cs.map (cRes1 P)) = some cs' → resLM st cs' = some vs →
    ∃ us, (cs.mapM (resOne a.tmps)).run P w = .ok us w ∧ RepL w (Ok U st.objs η w) vs us
  | [], cs', vs, hc, h => by cases hc; cases h; exact ⟨[], by simp, .nil⟩
  | c :: cs, cs', vs, hc, h => by
    simp only [List.map_cons] at hc
    cases h1 : cRes1 P c with
    | none => simp [h1, allSome] at hc
    | some c' =>
      simp only [h1, allSome, Option.map_eq_some_iff] at hc
      obtain ⟨cs'', hc, rfl⟩ := hc
      unfold resLM at h
      split at h <;> cases h
      rename_i v vs' g1 g2
      obtain ⟨u, k1, k2⟩ := res1M_run (P := P) hr h1 g1
      obtain ⟨us, k3, k4⟩ := resLM_run hr hc g2
      refine ⟨u :: us, ?_, .cons k2 k4⟩
      rw [List.mapM_cons]
      simp only [Sem.run_bind]
      rw [k1]
      simp only [Result.andThen_ok, k3, Sem.run_pure]
theorem resM_run (hr : Rel w0 U E nt st a w η) {p : Nat} {fn : Func} {cs' : List CR} {d : D} (hc : allSome (fn.results.toList.map (cRes1 P)) = some cs') (h : resM st p cs' = some d) :
    ∃ u, (results fn a.tmps).run P w = .ok u w ∧ RepD w (Ok U st.objs η w) η d u ∧ (∀ s, d.ment s = true → s = p) := by
  have run : ∀ us : List Value, (fn.results.toList.mapM (resOne a.tmps)).run P w = .ok us w → (results fn a.tmps).run P w = .ok (if h : us.toArray.size = 1 then us.toArray[0] else .tuple us.toArray) w := fun us h1 => by
    rw [results_eq, Array.mapM_eq_mapM_toList]
    simp only [Sem.run_bind, Sem.run_map, h1, Result.andThen_ok, Sem.run_pure]
  have gen : (resLM st cs').map (fun vs => D.v (tupV vs)) = some d → ∃ u, (results fn a.tmps).run P w = .ok u w ∧ RepD w (Ok U st.objs η w) η d u ∧ (∀ s, d.ment s = true → s = p) := fun h => by
    simp only [Option.map_eq_some_iff] at h
    obtain ⟨vs, hv, rfl⟩ := h
    obtain ⟨us, h1, h2⟩ := resLM_run (P := P) hr hc hv
    refine ⟨_, run us h1, ?_, fun s hs => by cases hs⟩
    match vs, h2 with
    | [], h2 => have : us = [] := by have := h2.1; simpa using this
                subst this; simpa [tupV] using RepD.v _ _ h2.tup
    | [v], h2 => obtain ⟨u, rfl, hr⟩ := h2.one; simpa [tupV] using RepD.v _ _ hr
    | v1 :: v2 :: vs, h2 =>
      have : us.length ≠ 1 := by rw [h2.1]; simp
      rw [dif_neg (by simpa using this)]
      exact .v _ _ h2.tup
  unfold resM at h
  split at h
  · rename_i t
    obtain ⟨c, hcc⟩ : ∃ c, fn.results.toList = [c] := by
      match hfr : fn.results.toList, hc with
      | [], hc => cases hc
      | [c], _ => exact ⟨c, rfl⟩
      | c1 :: c2 :: cs, hc =>
        exfalso
        simp only [List.map_cons] at hc
        cases h1 : cRes1 P c1 <;> cases h2 : cRes1 P c2 <;> simp [h1, h2, allSome] at hc
    rw [hcc] at hc
    have hct : c = .tmp t := by
      cases c with
      | tmp t' => simp [cRes1, allSome] at hc; rw [hc]
      | cell t' ty =>
        exfalso
        simp only [List.map_cons, List.map_nil, cRes1] at hc
        split at hc <;> simp [allSome] at hc
    subst hct
    have hu : (results fn a.tmps).run P w = .ok (a.tmps.getD t undef) w := by
      have := run [a.tmps.getD t undef] (by rw [hcc]; simp [resOne])
      simpa using this
    refine ⟨_, hu, ?_⟩
    split at h
    · rename_i s z o l hl
      split at h <;> cases h
      rename_i e
      exact ⟨(hr.slots t _ hl).2, fun s' hs' => by simp [D.ment] at hs'; omega⟩
    · rename_i s o hl
      split at h <;> cases h
      rename_i e
      exact ⟨(hr.slots t _ hl).2, fun s' hs' => by simp [D.ment] at hs'; omega⟩
    · rename_i x hl
      cases h
      exact ⟨(hr.slots t _ hl).2, fun s' hs' => by cases hs'⟩
    · cases h
  · exact gen h
theorem look_app {α : Type} : ∀ (l m : List (Nat × α)) (t : Nat), look (l ++ m) t = (look l t).or (look m t)
  | [], m, t => by simp [look]
  | (k, d) :: l, m, t => by
    simp only [List.cons_append, look]
    split
    · rfl
    · exact look_app l m t
/-- What is shown of the body is known of each call. -/
theorem mut_of_wp {f : FuncId} {ad : Ad} {hs : List (List Nat)} {F : Fn1} {pre post cs cs' : List V} {d r : D} (hF : Fn1.of P f ad hs = some F) (hns : Fn1.noset P f pre.length = true) (hn : pre.length + 1 + post.length ≤ F.nt) (hz : onlyZ d = true) (hr : resZ r = true) (hl : handLen d cs)
    (h : F.sc.wp P (endQM pre.length F.rs d r cs') ⟨initM pre d post, [(pre.length, cs)]⟩) : Mut P f pre d cs post r cs' := by
  unfold Fn1.of at hF
  split at hF
  case h_2 => cases hF
  rename_i fn hfn
  split at hF
  case h_2 => cases hF
  rename_i c hb
  split at hF
  case h_2 => cases hF
  rename_i sc rs hc hrs
  split at hF
  · cases hF
  rename_i hname
  cases hF
  simp only at hn h
  have hns : noset pre.length c = true := by simpa [Fn1.noset, hfn, hb] using hns
  refine ⟨hr, fun w U pl us1 u us2 hU hpl h1 h2 h3 hO => ?_⟩
  unfold CallOk
  have hcf : (callFunc f (us1 ++ u :: us2).toArray).run P w = .ok (.enter f (us1 ++ u :: us2).toArray) w := by
    simp only [callFunc, Sem.run_bind, run_program, Result.andThen_ok, hfn]
    rw [if_neg hname]
    simp [hb]
  rw [hcf]
  refine ⟨rfl, rfl, rfl, calls_of_wp hfn hb ?_⟩
  generalize hp : pre.length = p at *
  have hl1 : us1.length = p := by rw [h1.1, hp]
  have hl2 : us2.length = post.length := h3.1
  have hsz : ((us1 ++ u :: us2).toArray ++ Array.replicate (fn.ntmps - (us1 ++ u :: us2).toArray.size) undef).size = fn.ntmps := by
    simp; omega
  -- the value handed over leads to the block at pl
  obtain ⟨b, o, hb0⟩ : ∃ b o, pl = some (b, o) := by
    unfold onlyZ at hz
    split at hz
    · cases h2 with
      | own0 => simp [handLen] at hl
      | own _ _ _ _ b o cap h => exact ⟨b, o, h⟩
    · cases h2 with | ref _ _ b o h => exact ⟨b, o, h⟩
    · cases hz
  subst hb0
  obtain ⟨hUb, hbs⟩ := hpl b o rfl
  let η : Eta := fun s => if s = p then some (b, o) else none
  have hηp : η p = some (b, o) := if_pos rfl
  have hok : ∀ b', okMu w U (some (b, o)) b' → Ok U [(p, cs)] η w b' := fun b' hb' => ⟨hb'.1, hb'.2.1, fun s cs' o' g1 g2 => by
    by_cases e : s = p
    · subst e; rw [hηp] at g2; exact hb'.2.2 o' g2
    · simp only [look] at g1; rw [if_neg e] at g1; cases g1⟩
  have hget : ∀ t v, ((us1 ++ u :: us2))[t]? = some v → ((us1 ++ u :: us2).toArray ++ Array.replicate (fn.ntmps - (us1 ++ u :: us2).toArray.size) undef).getD t undef = v := fun t v ht => by
    have hlt := (List.getElem?_eq_some_iff.1 ht).1
    rw [Array.getD_eq_getD_getElem?, Array.getElem?_append_left (by simpa using hlt), List.getElem?_toArray, ht]
    rfl
  have hrel : Rel w U (fun k => k = b) fn.ntmps ⟨initM pre d post, [(p, cs)]⟩ { tmps := (us1 ++ u :: us2).toArray ++ Array.replicate (fn.ntmps - (us1 ++ u :: us2).toArray.size) undef, defers := [] } w η := by
    refine ⟨hsz, rfl, ⟨rfl, rfl, rfl, Nat.le_refl _, fun _ _ _ => rfl, fun _ _ => rfl⟩, fun b' hb' => ⟨hU b' hb', fun e => hUb (e ▸ hb')⟩, fun t e ht => ?_, fun s cs0 hs => ?_, fun s cs0 b' o' g1 g2 => ?_, fun s s' c1 c2 b' o1 o2 g1 g2 g3 g4 => ?_⟩
    · simp only [initM] at ht
      rw [look_app] at ht
      cases hl : look (initR 0 pre) t with
      | some e' =>
        rw [hl] at ht
        cases ht
        obtain ⟨_, v, hv, rfl⟩ := look_initR pre 0 t _ hl
        simp only [Nat.sub_zero] at hv
        obtain ⟨u', hu', hr'⟩ := h1.2 t v hv
        have hlt : t < us1.length := (List.getElem?_eq_some_iff.1 hu').1
        refine ⟨by omega, ?_⟩
        rw [hget t u' (by rw [List.getElem?_append_left hlt]; exact hu')]
        exact .v _ _ (hr'.mono fun b' hb' => ⟨hok b' hb', rfl⟩)
      | none =>
        rw [hl] at ht
        simp only [Option.none_or, look] at ht
        split at ht
        · rename_i e0
          cases ht
          rw [hp] at e0
          subst e0
          refine ⟨by omega, ?_⟩
          rw [hget t u (by rw [List.getElem?_append_right (by omega), hl1, Nat.sub_self]; rfl), hp]
          exact RepD.rekey (s := 0) (η := fun _ => some (b, o)) hok (fun x hx => by rw [hηp]; exact hx) (by rw [onlyZ_rekey hz]; exact h2)
        · obtain ⟨ge, v, hv, rfl⟩ := look_initR post (pre.length + 1) t _ ht
          rw [hp] at ge hv
          obtain ⟨u', hu', hr'⟩ := h3.2 _ v hv
          have hlt : t - (p + 1) < us2.length := (List.getElem?_eq_some_iff.1 hu').1
          refine ⟨by omega, ?_⟩
          rw [hget t u' (by rw [List.getElem?_append_right (by omega), hl1, show t - p = (t - (p + 1)) + 1 by omega]; simpa using hu')]
          exact .v _ _ (hr'.mono fun b' hb' => ⟨hok b' hb', rfl⟩)
    · simp only [look] at hs
      split at hs <;> cases hs
      rename_i e; subst e
      exact hO.rekey hok (by rw [hηp])
    · simp only [look] at g1
      split at g1 <;> cases g1
      rename_i e; subst e
      rw [hηp] at g2
      cases g2
      exact ⟨.inr rfl, hbs⟩
    · simp only [look] at g1 g2
      split at g1 <;> cases g1
      split at g2 <;> cases g2
      rename_i e1 e2
      rw [e1, e2]
  have hw := compile_soundF (w0 := w) (U := U) (E := fun k => k = b) (p := p) _ c (Nat.le_refl _) hns hs [] sc _ _ _ _ hc h ⟨_, hrel⟩ (Frm.refl _ _)
  refine wp_mono hw fun e a1 w1 ⟨⟨st1, ⟨η1, hr1⟩, hq⟩, hf1⟩ => ?_
  have fin : EndM st1 p rs d r cs' → a1.defers = [] ∧ ∃ v, (results fn a1.tmps).run P w1 = .ok v w1 ∧ ∃ ur, Ending.returned v = .returned ur ∧ RepD w1 (okMu w1 U (some (b, o))) (fun _ => some (b, o)) r ur ∧ RepO w1 (okMu w1 U (some (b, o))) (fun _ => some (b, o)) 0 cs' ∧ Turned w w1 (some (b, o)) := fun ⟨hsl, hob, hre⟩ => by
    have hs1 := (hr1.slots p _ hsl).2
    have hu1 : a1.tmps.getD p undef = u := by
      rw [hf1 p (fun h => h rfl)]
      exact hget p u (by rw [List.getElem?_append_right (by omega), hl1, Nat.sub_self]; rfl)
    rw [hu1] at hs1
    have hη1 : η1 p = some (b, o) := by
      unfold onlyZ at hz
      split at hz
      · rename_i z n
        cases h2 with
        | own0 => simp [handLen] at hl
        | own _ _ _ _ b' o' cap h _ _ =>
          cases h
          cases hs1 with
          | own0 => simp [handLen] at hl
          | own _ _ _ _ b2 o2 cap2 h _ _ => simpa using h
      · cases h2 with | ref _ _ b' o' h =>
        cases h
        cases hs1 with | ref _ _ b2 o2 h => simpa using h
      · cases hz
    have hok1 : ∀ b', Ok U st1.objs η1 w1 b' → okMu w1 U (some (b, o)) b' := fun b' hb' => ⟨hb'.1, hb'.2.1, fun o' e => hb'.2.2 p cs' o' hob (by rw [hη1, e])⟩
    obtain ⟨ur, k1, k2, k3⟩ := resM_run (P := P) hr1 hrs hre
    refine ⟨hr1.defers, ur, k1, ur, rfl, ?_, (hr1.objs p cs' hob).rekey hok1 (by rw [hη1]), ⟨hr1.keeps.os, hr1.keeps.tape, hr1.keeps.output, hr1.keeps.size, fun k hk hne => hr1.keeps.block k hk (fun e => hne o (by rw [e])), hr1.keeps.row⟩⟩
    have := RepD.rekey (s' := 0) (η' := fun _ => some (b, o)) hok1 (fun x hx => by rw [hη1] at hx; exact hx) k2
    rwa [resZ_rekey hr] at this
  cases e <;> first | exact fin hq | exact hq.elim
/-- At the end of a function that writes to an object. -/
theorem endM {p : Nat} {rs : List CR} {d d' r r' : D} {cs' cs'' : List V} (h1 : look st.ρ p = some d') (h2 : look st.objs p = some cs'') (h3 : resM st p rs = some r') (e1 : d' = d.rekey p) (e2 : cs'' = cs') (e3 : r' = r.rekey p) : EndM st p rs d r cs' := ⟨by rw [h1, e1], by rw [h2, e2], by rw [h3, e3]⟩
end
/-- Parts of an own row. -/
theorem own_from {objs : List (Nat × List V)} {s z off n : Nat} {k : IntKind} {i : Int} (h0 : 0 ≤ i) (h1 : i ≤ n) :
    (SO.sl false z true false false).rdx objs [.own s z off n, .v (.n k i)] = some (.own s z (off + i.toNat * z) (n - i.toNat)) := by
  simp only [SO.rdx, SO.rd, slArgs, optArg, if_true, Option.bind_some, Bool.false_and, Bool.false_eq_true, if_false, slD, optN, h0]
  rw [if_pos ⟨by omega, by omega, trivial, rfl⟩]
theorem own_upto {objs : List (Nat × List V)} {s z off n : Nat} {k : IntKind} {j : Int} (h0 : 0 ≤ j) (h1 : j ≤ n) :
    (SO.sl false z false true false).rdx objs [.own s z off n, .v (.n k j)] = some (.own s z off j.toNat) := by
  simp only [SO.rdx, SO.rd, slArgs, optArg, if_true, Option.bind_some, Bool.false_and, Bool.false_eq_true, if_false, slD, optN, h0]
  rw [if_pos ⟨by omega, by omega, trivial, rfl⟩]
  simp
theorem setL_end : ∀ (vs a b : List V), b.length = vs.length → setL (a ++ b) a.length vs = a ++ vs
  | [], a, b, hb => by simp at hb; subst hb; rfl
  | v :: vs, a, b, hb => by
    cases b with
    | nil => simp at hb
    | cons c b =>
      simp only [setL]
      rw [List.set_append_right _ _ (Nat.le_refl _), Nat.sub_self]
      have := setL_end vs (a ++ [v]) b (by simpa using hb)
      simp only [List.length_append, List.length_cons, List.length_nil, List.append_assoc, List.cons_append, List.nil_append] at this
      simpa using this
/-- The end of a row is cleared. -/
theorem own_clr {α : Type} {f : α → List V} {z : Nat} {st : St} {s n : Nat} {m q : List α} {x : α} (hz : ∀ x, (f x).length = z) (h1 : (f x).all V.one = true) (ho : look st.objs s = some (m.flatMap f)) (hn : m.length = n) (hq : m.take q.length = q) :
    (SO.clr z (f x)).ef st none [.own s z (0 + q.length * z) (n - q.length)] = some ⟨st.ρ, upd st.objs s ((q ++ List.replicate (n - q.length) x).flatMap f)⟩ := by
  have hle : q.length ≤ n := by rw [← hn, ← hq]; simp; omega
  have hlen : (m.drop q.length).length = n - q.length := by simp [hn]
  have hm : m = q ++ m.drop q.length := by
    have := (List.take_append_drop q.length m).symm
    rwa [hq] at this
  simp only [SO.ef, ho, Option.bind_some, flatMap_length hz, Nat.zero_add]
  have e1 : q.length * z + (n - q.length) * z = m.length * z := by rw [← Nat.add_mul, hn]; congr 1; omega
  rw [if_pos ⟨trivial, by omega, h1, trivial⟩, zerosL_rep (f := f) (x := x)]
  have : setL (m.flatMap f) (q.length * z) ((List.replicate (n - q.length) x).flatMap f) = (q ++ List.replicate (n - q.length) x).flatMap f := by
    have key := setL_end ((List.replicate (n - q.length) x).flatMap f) (q.flatMap f) ((m.drop q.length).flatMap f) (by rw [flatMap_length hz, flatMap_length hz, hlen]; simp)
    rw [← List.flatMap_append, ← hm, flatMap_length hz, ← List.flatMap_append] at key
    exact key
  rw [this]
/-- Behind a block that is left. -/
theorem inBlk {id : Nat} {Q : Exit → St → Prop} {st : St} (h : Q .normal st) : inBlockQ id Q (.exit id) st := by
  show if id = id then Q .normal st else Q (.exit id) st
  rw [if_pos rfl]
  exact h
theorem len_reach {α : Type} {l : List α} {z : Nat} (h : l.length * z ≤ reachBytes) (hz : 1 ≤ z) : l.length ≤ 9000000000000000000 := by
  have h1 : l.length * 1 ≤ l.length * z := Nat.mul_le_mul_left _ hz
  have e : reachBytes ≤ 9000000000000000000 := by decide
  omega
end Go.Proofs.Ytdceakejbnolpaa.Sv
