/- A region that draws its order does in the model what the order of the text does. No condition. -/
import Derived.Test.YtdceakejbnolpaaSv19b
namespace Go.Proofs.Ytdceakejbnolpaa.Sv
open Go Go.RowKit
set_option linter.unusedVariables false
set_option linter.unusedSimpArgs false
section
variable {P : Program} {w w0 w' : World} {U E : Nat → Prop} {nt : Nat} {st st' st2 : St} {a : Act} {η : Eta} {ok : Nat → Prop} {ops : Array Oper} {ss : List SOp} {Fin : St → Prop}
theorem nstep_eqv {s : SOp} (h : NStep P s st st') (he : Eqv st st2) : ∃ st2', NStep P s st2 st2' ∧ Eqv st' st2' := by
  obtain ⟨o, h, rfl⟩ := h
  exact ⟨_, ⟨o, gout_eqv he h, rfl⟩, app_eqv he⟩
/-- A step, or one that turns the names of objects. -/
def NStepA (P : Program) (s : SOp) (st st' : St) : Prop := NStep P s st st' ∨ (isApp s.so = true ∧ ∃ st1, Eqv st st1 ∧ GStep P s st1 st')
theorem nstepA_eqv {s : SOp} (h : NStepA P s st st') (he : Eqv st st2) : ∃ st2', NStepA P s st2 st2' ∧ Eqv st' st2' := by
  rcases h with h | ⟨h1, st1, h2, h3⟩
  · obtain ⟨st2', h1, h2⟩ := nstep_eqv h he
    exact ⟨st2', .inl h1, h2⟩
  · exact ⟨st', .inr ⟨h1, st1, he.symm.trans h2, h3⟩, .refl _⟩
/-- Whatever order is picked from here on. -/
def AnyS (P : Program) (ops : Array Oper) (ss : List SOp) (Fin : St → Prop) : Nat → Array Bool → St → Prop
  | 0, listed, st => Region.ready .any ops listed = [] ∧ Fin st
  | fuel + 1, listed, st => (Region.ready .any ops listed = [] → Fin st) ∧
      ∀ i ∈ Region.ready .any ops listed, ∃ s st', ss[i]? = some s ∧ NStepA P s st st' ∧ AnyS P ops ss Fin fuel (listed.setIfInBounds i true) st'
theorem AnyS.eqv (hf : ∀ st st', Eqv st st' → Fin st → Fin st') : ∀ {fuel : Nat} {listed : Array Bool} {st st' : St}, AnyS P ops ss Fin fuel listed st → Eqv st st' → AnyS P ops ss Fin fuel listed st'
  | 0, listed, st, st', h, he => ⟨h.1, hf _ _ he h.2⟩
  | fuel + 1, listed, st, st', h, he => ⟨fun h0 => hf _ _ he (h.1 h0), fun i hi => by
      obtain ⟨s, st1, h1, h2, h3⟩ := h.2 i hi
      obtain ⟨st2, h4, h5⟩ := nstepA_eqv h2 he
      exact ⟨s, st2, h1, h4, AnyS.eqv hf h3 h5⟩⟩
theorem AnyS.sound {Q : Exit → Act → World → Prop} {D : Nat → Prop} {a0 : Act} (hss : ∀ (i : Nat) o, ops[i]? = some o → ∃ s s0, ss[i]? = some s ∧ cSOp P nt ⟨false, [], false⟩ ops o = some s0 ∧ ∀ st st', GStep P s st st' → GStep P s0 st st')
    (hfin : ∀ st a w, Fin st → RelX w0 U E nt st a w → Frm D a0 a → Q .normal a w) (hD : ∀ (i : Nat) o, ops[i]? = some o → ∀ t, o.dst = some t → D t) :
    ∀ (fuel : Nat) (listed : Array Bool) (st : St) (a : Act) (w : World), AnyS P ops ss Fin fuel listed st → RelX w0 U E nt st a w → Frm D a0 a → wpAny P .any ops Q fuel listed a w
  | 0, listed, st, a, w, h, hr, hf => ⟨h.1, hfin _ _ _ h.2 hr hf⟩
  | fuel + 1, listed, st, a, w, h, hr, hf => ⟨fun h0 => hfin _ _ _ (h.1 h0) hr hf, fun i hi => by
      obtain ⟨s, st', h1, h2, h3⟩ := h.2 i hi
      obtain ⟨_, o, ho, _⟩ := mem_ready.1 hi
      obtain ⟨s', s0, h4, h5, h6⟩ := hss i o ho
      rw [h1] at h4
      cases h4
      unfold wpOp
      simp only [ho]
      rcases h2 with h2 | ⟨_, st1, he, h2⟩
      · exact gstep_sound (Q := Q) hr h5 (h6 _ _ (n_gstep h2)) fun u w' hr' => AnyS.sound hss hfin hD fuel _ st' _ w' h3 hr' (hf.put (hD i o ho))
      · exact gstep_sound (Q := Q) (hr.eqv he) h5 (h6 _ _ h2) fun u w' hr' => AnyS.sound hss hfin hD fuel _ st' _ w' h3 hr' (hf.put (hD i o ho))⟩
/-- No slot names an object that an operation yet to come makes. -/
def CleanFor (ss : List SOp) (listed : Array Bool) (st : St) : Prop :=
  ∀ (i : Nat) s t, listed.getD i true = false → ss[i]? = some s → isNew s.so = true → s.dst = some t → ∀ k d, look st.ρ k = some d → d.ment t = false
/-- New objects bear names of their own. -/
def distNew (ss : List SOp) : Prop := ∀ (i j : Nat) s s' t, ss[i]? = some s → ss[j]? = some s' → isNew s.so = true → isNew s'.so = true → s.dst = some t → s'.dst = some t → i = j
theorem gout_new {s : SOp} {o : Out} {t : Nat} (h : GOut P s st o) (hs : o.site = some t) : isNew s.so = true := by
  cases h with
  | new t ds cs d hw hd h1 h2 =>
    unfold newOf at h2
    split at h2 <;> first | (cases h2; simp_all [isNew]; done) | (simp_all [isNew]; done)
  | _ => cases hs
theorem CleanFor.app {listed : Array Bool} {i : Nat} {s : SOp} {o : Out} (hc : CleanFor ss listed st) (hd : distNew ss) (hi : ss[i]? = some s) (hg : GOut P s st o) : CleanFor ss (listed.setIfInBounds i true) (o.app s.dst st) := by
  intro j s' t hj hs' hn ht k d hk
  have hji : i ≠ j := fun e => by
    subst e
    rcases Nat.lt_or_ge i listed.size with h | h
    · simp [h] at hj
    · simp [Array.getElem?_eq_none h] at hj
  have hj' : listed.getD j true = false := by rw [getD_set_ne true hji] at hj; exact hj
  have hold := hc j s' t hj' hs' hn ht
  cases o with
  | val e =>
    rw [look_val] at hk
    split at hk
    · cases hk
      exact gout_clean (fun t' _ d' hd' => hold t' d' hd') hg
    · exact hold k d hk
  | new k' cs e =>
    rw [look_new] at hk
    split at hk
    · cases hk
      cases hg with
      | new _ ds _ _ hw hdst h1 h2 =>
        rw [new_ment h2]
        have : k' ≠ t := fun e => by
          subst e
          exact hji (hd i j s s' k' hi hs' (gout_new (P := P) (st := st) (o := .new k' cs d) (.new k' ds cs d hw hdst h1 h2) rfl) hn hdst ht)
        simpa using this
    · rw [Option.map_eq_some_iff] at hk
      obtain ⟨e', he', rfl⟩ := hk
      unfold killD
      split
      · rfl
      · exact hold k e' he'
  | wr k' off xs => rw [look_wr] at hk; exact hold k d hk
/-- j comes up behind i in whatever order. -/
inductive After (ops : Array Oper) : Nat → Nat → Prop
  | one {j : Nat} {o : Oper} (ho : ops[j]? = some o) {e : Edge} (he : e ∈ o.after) (hb : Region.binds .any e = true) : After ops j e.on
  | trans {j k i : Nat} (h : After ops j k) (h' : After ops k i) : After ops j i
def Closed (ops : Array Oper) (listed : Array Bool) : Prop := ∀ (k : Nat) o, listed.getD k false = true → ops[k]? = some o → ∀ e ∈ o.after, Region.binds .any e = true → listed.getD e.on false = true
theorem Closed.after {listed : Array Bool} (hc : Closed ops listed) {j i : Nat} (h : After ops j i) : listed.getD j false = true → listed.getD i false = true := by
  induction h with
  | one ho he hb => intro hj; exact hc _ _ hj ho _ he hb
  | trans h h' ih ih' => intro hj; exact ih' (ih hj)
theorem Closed.ready {listed : Array Bool} (hc : Closed ops listed) {j i : Nat} (hj : j ∈ Region.ready .any ops listed) (h : After ops j i) : listed.getD i false = true := by
  have : ∀ {j i : Nat}, After ops j i → (∃ o, ops[j]? = some o ∧ ∀ e ∈ o.after, Region.binds .any e = true → listed.getD e.on false = true) → listed.getD i false = true := by
    intro j i h
    induction h with
    | one ho he hb => rintro ⟨o', ho', hall⟩; rw [ho] at ho'; cases ho'; exact hall _ he hb
    | trans h h' ih ih' => intro hr; exact hc.after h' (ih hr)
  obtain ⟨_, o, ho, hall⟩ := mem_ready.1 hj
  exact this h ⟨o, ho, fun e he hb => by simpa using hall e he hb⟩
theorem Closed.set {listed : Array Bool} (hc : Closed ops listed) {j : Nat} (hj : j ∈ Region.ready .any ops listed) : Closed ops (listed.setIfInBounds j true) := by
  intro k o hk ho e he hb
  have hmono : ∀ q, listed.getD q false = true → (listed.setIfInBounds j true).getD q false = true := fun q hq => by
    by_cases e : j = q
    · subst e
      rcases Nat.lt_or_ge j listed.size with h | h
      · simp [h]
      · simp [Array.getElem?_eq_none h] at hq
    · rw [getD_set_ne false e]; exact hq
  apply hmono
  by_cases e1 : j = k
  · subst e1
    obtain ⟨_, o', ho', hall⟩ := mem_ready.1 hj
    rw [ho] at ho'
    cases ho'
    simpa using hall e he hb
  · rw [getD_set_ne false e1] at hk
    exact hc k o hk ho e he hb
/-- Others of the region that have not come up wait for number i, or don't touch it. -/
def FreeS (P : Program) (Inv : St → Prop) (ops : Array Oper) (ss : List SOp) (listed : Array Bool) (i : Nat) (s : SOp) : Prop :=
  ∀ (j : Nat) s' o, ops[j]? = some o → ss[j]? = some s' → j ≠ i → listed.getD j true = false → ¬ After ops j i →
    isApp s'.so = false ∧ apartS s s' = true ∧ ∀ st, Inv st → (∀ o, GOut P s st o → ∀ k, o.wrote = some k → ¬ Touch s' st k) ∧ (∀ o, GOut P s' st o → ∀ k, o.wrote = some k → ¬ Touch s st k)
theorem AnyS.first {Inv : St → Prop} (hinv : ∀ (i : Nat) s st o, ss[i]? = some s → Inv st → GOut P s st o → Inv (o.app s.dst st)) (hf : ∀ st st', Eqv st st' → Fin st → Fin st') (hss : ∀ (i : Nat) o, ops[i]? = some o → ∃ s, ss[i]? = some s) (hd : distNew ss) {i : Nat} {s : SOp} {o : Out} (hi : ss[i]? = some s) :
    ∀ (fuel : Nat) (listed : Array Bool) (st : St), FreeS P Inv ops ss listed i s → Closed ops listed → Inv st → i ∈ Region.ready .any ops listed → CleanFor ss listed st → GOut P s st o →
      AnyS P ops ss Fin fuel (listed.setIfInBounds i true) (o.app s.dst st) → AnyS P ops ss Fin (fuel + 1) listed st := by
  intro fuel
  induction fuel with
  | zero =>
    intro listed st hfree hcl hmi hr hc hg H
    refine ⟨fun h => (by rw [h] at hr; cases hr), fun j hj => ?_⟩
    by_cases hji : j = i
    · subst hji; exact ⟨s, _, hi, .inl ⟨o, hg, rfl⟩, H⟩
    · have := ready_mono hj hji
      rw [H.1] at this
      cases this
  | succ fuel ih =>
    intro listed st hfree hcl hmi hr hc hg H
    refine ⟨fun h => (by rw [h] at hr; cases hr), fun j hj => ?_⟩
    by_cases hji : j = i
    · subst hji; exact ⟨s, _, hi, .inl ⟨o, hg, rfl⟩, H⟩
    · obtain ⟨sj, st1, h1, h2, h3⟩ := H.2 j (ready_mono hj hji)
      obtain ⟨hjun, oj, hoj, hall⟩ := mem_ready.1 hj
      have hiun := (mem_ready.1 hr).1
      have hnot : ¬ After ops j i := fun ha => by
        have h1 := hcl.ready hj ha
        rcases Nat.lt_or_ge i listed.size with h' | h'
        · simp [h'] at hiun h1; rw [hiun] at h1; cases h1
        · simp [Array.getElem?_eq_none h'] at h1
      obtain ⟨hna, hap, ham⟩ := hfree j sj oj hoj h1 hji hjun hnot
      have h2 : NStep P sj (o.app s.dst st) st1 := by
        rcases h2 with h2 | ⟨h2, _⟩
        · exact h2
        · rw [hna] at h2; cases h2
      obtain ⟨oj', hgj, rfl⟩ := h2
      have hcx : ∀ t, o.site = some t → ∀ k d, look st.ρ k = some d → d.ment t = false := fun t ht => hc i s t hiun hi (gout_new hg ht) (gout_dst hg ht)
      have hmx := (ham st hmi).1 o hg
      have hgj0 := gout_back hap hg hcx hmx hgj
      have hmy := (ham st hmi).2 oj' hgj0
      have hcy : ∀ t, oj'.site = some t → ∀ k d, look st.ρ k = some d → d.ment t = false := fun t ht => hc j sj t hjun h1 (gout_new hgj ht) (gout_dst hgj ht)
      have hgi := gout_fore hap hg hgj0 hcy hmy
      have hcomm := gout_comm hap hg hgj0 hcx hcy hmx
      refine ⟨sj, _, h1, .inl ⟨oj', hgj0, rfl⟩, ih _ _ ?_ (hcl.set hj) (hinv j sj st oj' h1 hmi hgj0) (ready_mono hr (Ne.symm hji)) (hc.app hd h1 hgj0) hgi ?_⟩
      · intro k s' o' hk hs' hki hun hno
        refine hfree k s' o' hk hs' hki ?_ hno
        by_cases hjk : j = k
        · subst hjk; exact hjun
        · rw [getD_set_ne true hjk] at hun; exact hun
      · rw [Array.setIfInBounds_comm _ _ hji]
        exact h3.eqv hf hcomm
/-! ### The check, and the theorem -/
/-- For each operation those that must come ahead of it, as bits. -/
def foldM (acc : List Nat) (es : List Edge) (m : Nat) : Nat := es.foldl (fun m e => m ||| (1 <<< e.on) ||| acc.getD e.on 0) m
def closA : List Oper → List Nat → List Nat
  | [], acc => acc
  | o :: r, acc => closA r (acc ++ [foldM acc (o.after.toList.filter fun e => Region.binds .any e) 0])
theorem foldM_spec {acc : List Nat} : ∀ {es : List Edge} {m i : Nat}, (foldM acc es m).testBit i = true → m.testBit i = true ∨ ∃ e ∈ es, i = e.on ∨ (acc.getD e.on 0).testBit i = true
  | [], m, i, h => .inl h
  | e :: es, m, i, h => by
    rcases foldM_spec (es := es) h with h | ⟨e', h1, h2⟩
    · simp only [Nat.testBit_or, Bool.or_eq_true] at h
      rcases h with (h | h) | h
      · exact .inl h
      · refine .inr ⟨e, by simp, .inl ?_⟩
        rw [Nat.one_shiftLeft, Nat.testBit_two_pow] at h
        simpa using (of_decide_eq_true h).symm
      · exact .inr ⟨e, by simp, .inr h⟩
    · exact .inr ⟨e', by simp [h1], h2⟩
theorem closA_spec : ∀ (l : List Oper) (acc : List Nat), ops.toList.drop acc.length = l → (∀ j i, (acc.getD j 0).testBit i = true → After ops j i) → ∀ j i, ((closA l acc).getD j 0).testBit i = true → After ops j i
  | [], acc, _, h => h
  | o :: l, acc, hd, h => by
    have ho : ops[acc.length]? = some o := by
      have := congrArg (·[0]?) hd
      simpa using this
    refine closA_spec l _ (by rw [List.length_append, List.length_singleton, ← List.drop_drop, hd]; rfl) fun j i hi => ?_
    rw [List.getD_eq_getElem?_getD] at hi
    by_cases hj : j < acc.length
    · rw [List.getElem?_append_left hj] at hi
      exact h j i (by rw [List.getD_eq_getElem?_getD]; exact hi)
    · by_cases hj' : j = acc.length
      · subst hj'
        rw [List.getElem?_append_right (Nat.le_refl _), Nat.sub_self] at hi
        simp only [List.getElem?_cons_zero, Option.getD_some] at hi
        rcases foldM_spec hi with hi | ⟨e, he, hi⟩
        · simp at hi
        · simp only [List.mem_filter, Array.mem_toList_iff] at he
          obtain ⟨he, hb⟩ := he
          rcases hi with rfl | hi
          · exact .one ho he hb
          · exact .trans (.one ho he hb) (h _ _ hi)
      · rw [List.getElem?_eq_none (by simp; omega)] at hi
        simp at hi
def clos (ops : Array Oper) : List Nat := closA ops.toList []
theorem clos_spec {j i : Nat} (h : ((clos ops).getD j 0).testBit i = true) : After ops j i := closA_spec ops.toList [] rfl (fun j i h => by simp at h) j i h
/-- Pairs, one of them a store, that may come up in either order. -/
def pairsOf (ss : List SOp) (cl : List Nat) : List (Nat × Nat) :=
  (List.range ss.length).flatMap fun j => (List.range j).filterMap fun i => match ss[i]?, ss[j]? with
    | some x, some y => if (isWr x.so || isWr y.so) && !(cl.getD j 0).testBit i then some (i, j) else none
    | _, _ => none
def freeB (ops : Array Oper) (ss : List SOp) (cl : List Nat) (prs : List (Nat × Nat)) (listed : Array Bool) (i : Nat) (s : SOp) : Bool :=
  (List.range ops.size).all fun j => j == i || listed.getD j true || (cl.getD j 0).testBit i || match ss[j]? with
    | some s' => !isApp s'.so && apartS s s' && ((!isWr s.so && !isWr s'.so) || prs.contains (i, j))
    | none => true
/-- From number k on each operation waits for the one before. -/
def chainD (ops : Array Oper) : Nat → Nat → Array Bool → Bool
  | 0, _, listed => (Region.ready .any ops listed).isEmpty
  | n + 1, k, listed => (Region.ready .any ops listed == [k]) && chainD ops n (k + 1) (listed.setIfInBounds k true)
def lexD (ops : Array Oper) (ss : List SOp) (cl : List Nat) (prs : List (Nat × Nat)) : Nat → Nat → Array Bool → Bool
  | 0, _, listed => (Region.ready .any ops listed).isEmpty
  | n + 1, k, listed => ((Region.ready .any ops listed).contains k && (match ss[k]? with | some s => freeB ops ss cl prs listed k s && !isApp s.so | none => false) && lexD ops ss cl prs n (k + 1) (listed.setIfInBounds k true)) || chainD ops (n + 1) k listed
theorem tabM_sub : ∀ (l : List SOp) {m : List (Nat × List Nat)} {t k : Nat}, k ∈ mOf m t → k ∈ mOf (tabM l m) t
  | [], _, _, _, h => h
  | s :: l, m, t, k, h => by
    unfold tabM
    refine tabM_sub l ?_
    have cons : ∀ x, k ∈ mOf (x :: m) t := fun x => by
      unfold mOf at h ⊢
      rw [List.filter_cons]
      split
      · rw [List.flatMap_cons]; exact List.mem_append_right _ h
      · exact h
    split
    · exact h
    · split
      · exact cons _
      · split
        · exact cons _
        · exact h
theorem entryM_inv (st : St) (l : List SOp) : MInv (tabM l (entryM st.ρ)) st := by
  intro t d k hl hk
  refine tabM_sub l ?_
  unfold entryM
  generalize st.ρ = ρ at hl
  induction ρ with
  | nil => cases hl
  | cons x ρ ih =>
    obtain ⟨q, e⟩ := x
    simp only [look] at hl
    unfold mOf
    rw [List.map_cons, List.filter_cons]
    split at hl
    · rename_i hq
      cases hl
      subst hq
      simp only [beq_self_eq_true, if_true, List.flatMap_cons]
      refine List.mem_append_left _ ?_
      cases d <;> simp [D.ment] at hk <;> simp [sitesD, hk]
    · have := ih hl
      unfold mOf at this
      split
      · rw [List.flatMap_cons]; exact List.mem_append_right _ this
      · exact this
theorem freeB_spec {Inv : St → Prop} {cl : List Nat} {prs : List (Nat × Nat)} (hcl : ∀ j i, (cl.getD j 0).testBit i = true → After ops j i)
    (hpr : ∀ i j x y, (i, j) ∈ prs → ss[i]? = some x → ss[j]? = some y → ∀ st, Inv st → (∀ o, GOut P x st o → ∀ k, o.wrote = some k → ¬ Touch y st k) ∧ (∀ o, GOut P y st o → ∀ k, o.wrote = some k → ¬ Touch x st k))
    {listed : Array Bool} {i : Nat} {s : SOp} (hi : ss[i]? = some s) (h : freeB ops ss cl prs listed i s = true) : FreeS P Inv ops ss listed i s := by
  intro j s' o hj hs' hne hun hno
  simp only [freeB, List.all_eq_true, List.mem_range] at h
  have h1 := h j (Array.getElem?_eq_some_iff.1 hj).1
  have hnc : (cl.getD j 0).testBit i = false := by
    cases hc : (cl.getD j 0).testBit i with
    | false => rfl
    | true => exact absurd (hcl j i hc) hno
  simp only [hs', Bool.or_eq_true, beq_iff_eq, hne, false_or, hun, Bool.false_eq_true, hnc, Bool.and_eq_true, Bool.not_eq_true'] at h1
  refine ⟨h1.1.1, h1.1.2, fun st hst => ?_⟩
  rcases h1.2 with h2 | h2
  · exact ⟨fun o hg k hk => (by have := wrote_wr hg hk; rw [h2.1] at this; cases this), fun o hg k hk => (by have := wrote_wr hg hk; rw [h2.2] at this; cases this)⟩
  · exact hpr i j s s' (by simpa using h2) hi hs' st hst
def newSites (ss : List SOp) : List (Option Nat) := ss.map fun s => if isNew s.so then s.dst else none
def distB : List (Option Nat) → Bool
  | [] => true
  | some t :: l => !l.contains (some t) && distB l
  | none :: l => distB l
theorem distB_spec : ∀ {l : List (Option Nat)}, distB l = true → ∀ (i j : Nat) t, l[i]? = some (some t) → l[j]? = some (some t) → i = j
  | [], _, i, j, t, h, _ => by simp at h
  | x :: l, h, i, j, t, hi, hj => by
    have hl : distB l = true := by
      cases x with
      | none => exact h
      | some y => simp only [distB, Bool.and_eq_true] at h; exact h.2
    have hx : ∀ k, l[k]? = some (some t) → x ≠ some t := fun k hk e => by
      subst e
      simp only [distB, Bool.and_eq_true, Bool.not_eq_true'] at h
      have := List.mem_of_getElem? hk
      simp [this] at h
    cases i with
    | zero =>
      cases j with
      | zero => rfl
      | succ j => simp at hi hj; exact absurd hi (hx j hj)
    | succ i =>
      cases j with
      | zero => simp at hi hj; exact absurd hj (hx i hi)
      | succ j => simp at hi hj; rw [distB_spec hl i j t hi hj]
theorem distNew_of (h : distB (newSites ss) = true) : distNew ss := by
  intro i j s s' t hi hj hn hn' ht ht'
  refine distB_spec h i j t ?_ ?_
  · simp [newSites, hi, hn, ht]
  · simp [newSites, hj, hn', ht']
theorem AnyS.chain (hf : ∀ st st', Eqv st st' → Fin st → Fin st') : ∀ (l : List SOp) (k : Nat) (listed : Array Bool) (st : St), (∀ (j : Nat), l[j]? = ss[k + j]?) → chainD ops l.length k listed = true → ∀ kn, opsWP P true kn l Fin st → AnyS P ops ss Fin l.length listed st
  | [], k, listed, st, _, hB, kn, h => ⟨by simpa [chainD] using hB, h⟩
  | s :: l, k, listed, st, hl, hB, kn, h => by
    have h0 : ss[k]? = some s := by simpa using (hl 0).symm
    simp only [List.length_cons, chainD, Bool.and_eq_true, beq_iff_eq] at hB
    obtain ⟨hr, hB'⟩ := hB
    have hl' : ∀ (j : Nat), l[j]? = ss[k + 1 + j]? := fun j => by have := hl (j + 1); simpa [Nat.add_assoc, Nat.add_comm 1 j] using this
    refine ⟨fun h => (by rw [hr] at h; cases h), fun i hi => ?_⟩
    rw [hr] at hi
    obtain rfl : i = k := by simpa using hi
    obtain ⟨st1, st', he, h1, h2⟩ := wp_gstep h
    have ih := AnyS.chain hf l (i + 1) _ st' hl' hB' _ h2
    cases ha : isApp s.so with
    | true => exact ⟨s, st', h0, .inr ⟨ha, st1, he, h1⟩, ih⟩
    | false =>
      obtain ⟨st2, h3, h4⟩ := nstep_eqv (gstep_n ha h1) he.symm
      exact ⟨s, st2, h0, .inl h3, ih.eqv hf h4⟩
theorem AnyS.lex {Inv : St → Prop} {cl : List Nat} {prs : List (Nat × Nat)} (hcl : ∀ j i, (cl.getD j 0).testBit i = true → After ops j i)
    (hpr : ∀ i j x y, (i, j) ∈ prs → ss[i]? = some x → ss[j]? = some y → ∀ st, Inv st → (∀ o, GOut P x st o → ∀ k, o.wrote = some k → ¬ Touch y st k) ∧ (∀ o, GOut P y st o → ∀ k, o.wrote = some k → ¬ Touch x st k))
    (hinv : ∀ (i : Nat) s st o, ss[i]? = some s → Inv st → GOut P s st o → Inv (o.app s.dst st)) (hieq : ∀ st st', Eqv st st' → Inv st → Inv st')
    (hf : ∀ st st', Eqv st st' → Fin st → Fin st') (hss : ∀ (i : Nat) o, ops[i]? = some o → ∃ s, ss[i]? = some s) (hd : distNew ss) : ∀ (l : List SOp) (k : Nat) (listed : Array Bool) (st : St), (∀ (j : Nat), l[j]? = ss[k + j]?) →
    lexD ops ss cl prs l.length k listed = true → CleanFor ss listed st → Closed ops listed → Inv st → ∀ kn, opsWP P true kn l Fin st → AnyS P ops ss Fin l.length listed st
  | [], k, listed, st, _, hB, _, _, _, kn, h => ⟨by simpa [lexD] using hB, h⟩
  | s :: l, k, listed, st0, hl, hB, hc0, hcd, hi0, kn, h => by
    have h0 : ss[k]? = some s := by simpa using (hl 0).symm
    simp only [List.length_cons, lexD, h0, Bool.or_eq_true] at hB
    rcases hB with hB | hB
    case inr => exact AnyS.chain hf (s :: l) k listed st0 hl hB kn h
    simp only [Bool.and_eq_true, Bool.not_eq_true'] at hB
    obtain ⟨⟨hr, hfree, happ⟩, hB'⟩ := hB
    obtain ⟨st, st', h0', h1, h2⟩ := wp_gstep h
    refine AnyS.eqv hf ?_ h0'.symm
    have hc : CleanFor ss listed st := fun i s t h1 h2 h3 h4 k d hk => hc0 i s t h1 h2 h3 h4 k d (by rw [h0'.1]; exact hk)
    have hi := hieq _ _ h0' hi0
    obtain ⟨o, hg, rfl⟩ := gstep_n happ h1
    have hr' : k ∈ Region.ready .any ops listed := by simpa using hr
    have hl' : ∀ (j : Nat), l[j]? = ss[k + 1 + j]? := fun j => by have := hl (j + 1); simpa [Nat.add_assoc, Nat.add_comm 1 j] using this
    exact AnyS.first hinv hf hss hd h0 l.length listed st (freeB_spec hcl hpr h0 hfree) hcd hi hr' hc hg
      (AnyS.lex hcl hpr hinv hieq hf hss hd l (k + 1) _ _ hl' hB' (hc.app hd h0 hg) (hcd.set hr') (hinv k s st o h0 hi hg) _ h2)
/-- The invariant that the check gives. -/
theorem AnyS.checked {prs : List (Nat × Nat)} (hf : ∀ st st', Eqv st st' → Fin st → Fin st') (hss : ∀ (i : Nat) o, ops[i]? = some o → ∃ s, ss[i]? = some s) (hd : distNew ss) {st : St} {listed : Array Bool}
    (hB : lexD ops ss (clos ops) prs ss.length 0 listed = true) (hc : CleanFor ss listed st) (hcd : Closed ops listed) (hk : drawChk st ss prs = true) (h : opsWP P true [] ss Fin st) : AnyS P ops ss Fin ss.length listed st := by
  have hcl : ∀ j i, ((clos ops).getD j 0).testBit i = true → After ops j i := fun j i h => clos_spec h
  cases hp : prs with
  | nil =>
    subst hp
    exact AnyS.lex (Inv := fun _ => True) hcl (fun i j x y h => by cases h) (fun _ _ _ _ _ _ _ => trivial) (fun _ _ _ _ => trivial) hf hss hd ss 0 listed st (by simp) hB hc hcd trivial [] h
  | cons p ps =>
    have hk' : chkM (tabM ss (entryM st.ρ)) ss prs = true := by rw [hp] at hk ⊢; exact hk
    simp only [chkM, Bool.and_eq_true, List.all_eq_true] at hk'
    refine AnyS.lex (Inv := MInv (tabM ss (entryM st.ρ))) hcl (fun i j x y hij hx hy st1 hst => ?_) (fun i s st1 o hi hst hg => hst.app (hk'.1 s (List.mem_of_getElem? hi)) hg)
      (fun st1 st2 he hst t d k hl hk => hst t d k (by rw [he.1]; exact hl) hk) hf hss hd ss 0 listed st (by simp) hB hc hcd (entryM_inv st ss) [] h
    have := hk'.2 (i, j) hij
    simp only [hx, hy] at this
    exact ⟨fun o hg => apartM_spec hst this hg, fun o hg => apartM_spec hst (apartM_symm this) hg⟩
end
end Go.Proofs.Ytdceakejbnolpaa.Sv
