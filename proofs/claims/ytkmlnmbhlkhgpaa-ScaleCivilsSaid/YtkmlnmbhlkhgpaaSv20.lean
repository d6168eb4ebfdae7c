/- A region that draws its order does in the model what the order of the text does. No condition. -/
import Derived.Test.YtkmlnmbhlkhgpaaSv19
namespace Go.Proofs.Ytkmlnmbhlkhgpaa.Sv
open Go Go.RowKit
set_option linter.unusedVariables false
set_option linter.unusedSimpArgs false
section
variable {P : Program} {w w0 w' : World} {U E : Nat → Prop} {nt : Nat} {st st' st2 : St} {a : Act} {η : Eta} {ok : Nat → Prop} {ops : Array Oper} {ss : List SOp} {Fin : St → Prop}
theorem nstep_eqv {s : SOp} (h : NStep P s st st') (he : Eqv st st2) : ∃ st2', NStep P s st2 st2' ∧ Eqv st' st2' := by
  rcases h with ⟨o, h, rfl⟩ | ⟨hw, h⟩
  · exact ⟨_, .inl ⟨o, gout_eqv he h, rfl⟩, app_eqv he⟩
  · have hev : ∀ xs, evs st2 xs = evs st xs := fun xs => evs_congr fun t _ => (he.1 t).symm
    cases h with
    | no g want hg h => exact ⟨_, .inl ⟨_, .skip g want hg (by rw [← he.1]; exact h), rfl⟩, app_eqv (o := .val (.v (.tup []))) he⟩
    | yes _ h hg =>
      have hg2 : WantedG s st2 := by
        rcases hg with hg | ⟨g, want, h1, h2⟩
        · exact .inl hg
        · exact .inr ⟨g, want, h1, by rw [← he.1]; exact h2⟩
      cases h with
      | rd ds d h1 h2 => exact ⟨_, .inl ⟨_, .rd ds d hg2 (by rw [hev]; exact h1) (by rw [rdx_congr fun _ _ s0 _ => (he.2 s0).symm]; exact h2), rfl⟩, app_eqv (o := .val d) he⟩
      | call f ds vs r hf h1 h2 h3 h4 => rw [hf] at hw; simp [isWr] at hw
      | callD f first cap ds vs r hf h1 h2 h3 h4 => rw [hf] at hw; simp [isWr] at hw
      | ef ds _ h1 h2 =>
        obtain ⟨dst, guard, so, args⟩ := s
        simp only at hw h1 h2
        cases so <;> simp only [isWr, Bool.false_eq_true] at hw
        rename_i z
        match ds, h2 with
        | [.ref k off, .v x], h2 =>
          simp only [SO.ef, Option.bind_eq_some_iff] at h2
          obtain ⟨cs, hcs, h2⟩ := h2
          split at h2 <;> cases h2
          rename_i hb
          refine ⟨⟨st2.ρ, upd st2.objs k (setL cs off x.cells)⟩, .inr ⟨rfl, .yes _ (.ef [.ref k off, .v x] _ (by rw [hev]; exact h1) ?_) hg2⟩, ⟨he.1, fun t => ?_⟩⟩
          · simp only [SO.ef]
            rw [← he.2, hcs]
            simp only [Option.bind_some]
            rw [if_pos hb]
          · simp only [look_upd]
            split
            · rw [he.2]
            · exact he.2 t
/-- Whatever order is picked from here on. -/
def AnyS (P : Program) (ops : Array Oper) (ss : List SOp) (Fin : St → Prop) : Nat → Array Bool → St → Prop
  | 0, listed, st => Region.ready .any ops listed = [] ∧ Fin st
  | fuel + 1, listed, st => (Region.ready .any ops listed = [] → Fin st) ∧
      ∀ i ∈ Region.ready .any ops listed, ∃ s st', ss[i]? = some s ∧ NStep P s st st' ∧ AnyS P ops ss Fin fuel (listed.setIfInBounds i true) st'
theorem AnyS.eqv (hf : ∀ st st', Eqv st st' → Fin st → Fin st') : ∀ {fuel : Nat} {listed : Array Bool} {st st' : St}, AnyS P ops ss Fin fuel listed st → Eqv st st' → AnyS P ops ss Fin fuel listed st'
  | 0, listed, st, st', h, he => ⟨h.1, hf _ _ he h.2⟩
  | fuel + 1, listed, st, st', h, he => ⟨fun h0 => hf _ _ he (h.1 h0), fun i hi => by
      obtain ⟨s, st1, h1, h2, h3⟩ := h.2 i hi
      obtain ⟨st2, h4, h5⟩ := nstep_eqv h2 he
      exact ⟨s, st2, h1, h4, AnyS.eqv hf h3 h5⟩⟩
theorem AnyS.sound {Q : Exit → Act → World → Prop} (hss : ∀ (i : Nat) o, ops[i]? = some o → ∃ s s0, ss[i]? = some s ∧ cSOp P nt false ops o = some s0 ∧ ∀ st st', GStep P s st st' → GStep P s0 st st') (hfin : ∀ st a w, Fin st → RelX w0 U E nt st a w → Q .normal a w) :
    ∀ (fuel : Nat) (listed : Array Bool) (st : St) (a : Act) (w : World), AnyS P ops ss Fin fuel listed st → RelX w0 U E nt st a w → wpAny P .any ops Q fuel listed a w
  | 0, listed, st, a, w, h, hr => ⟨h.1, hfin _ _ _ h.2 hr⟩
  | fuel + 1, listed, st, a, w, h, hr => ⟨fun h0 => hfin _ _ _ (h.1 h0) hr, fun i hi => by
      obtain ⟨s, st', h1, h2, h3⟩ := h.2 i hi
      obtain ⟨_, o, ho, _⟩ := mem_ready.1 hi
      obtain ⟨s', s0, h4, h5, h6⟩ := hss i o ho
      rw [h1] at h4
      cases h4
      unfold wpOp
      simp only [ho]
      exact gstep_sound (Q := Q) hr h5 (h6 _ _ (n_gstep h2)) fun a' w' hr' => AnyS.sound hss hfin fuel _ st' a' w' h3 hr'⟩
/-- No slot names an object that an operation yet to come makes. -/
def CleanFor (ss : List SOp) (listed : Array Bool) (st : St) : Prop :=
  ∀ (i : Nat) s t, listed.getD i true = false → ss[i]? = some s → isNew s.so = true → s.dst = some t → ∀ k d, look st.ρ k = some d → d.ment t = false
/-- New objects bear names of their own. -/
def distNew (ss : List SOp) : Prop := ∀ (i j : Nat) s s' t, ss[i]? = some s → ss[j]? = some s' → isNew s.so = true → isNew s'.so = true → s.dst = some t → s'.dst = some t → i = j
theorem gout_new {s : SOp} {o : Out} {t : Nat} (h : GOut P s st o) (hs : o.site = some t) : isNew s.so = true := by
  cases h with
  | new t ds cs d hw hd h1 h2 =>
    unfold newOf at h2
    split at h2 <;> first | (cases h2; simp_all [isNew]; done) | (simp_all [isNew]; done)
  | _ => cases hs
theorem CleanFor.app {listed : Array Bool} {i : Nat} {s : SOp} {o : Out} (hc : CleanFor ss listed st) (hd : distNew ss) (hi : ss[i]? = some s) (hg : GOut P s st o) : CleanFor ss (listed.setIfInBounds i true) (o.app s.dst st) := by
  intro j s' t hj hs' hn ht k d hk
  have hji : i ≠ j := fun e => by
    subst e
    rcases Nat.lt_or_ge i listed.size with h | h
    · simp [h] at hj
    · simp [Array.getElem?_eq_none h] at hj
  have hj' : listed.getD j true = false := by rw [getD_set_ne true hji] at hj; exact hj
  have hold := hc j s' t hj' hs' hn ht
  cases o with
  | val e =>
    rw [look_val] at hk
    split at hk
    · cases hk
      exact gout_clean (fun t' _ d' hd' => hold t' d' hd') hg
    · exact hold k d hk
  | new k' cs e =>
    rw [look_new] at hk
    split at hk
    · cases hk
      cases hg with
      | new _ ds _ _ hw hdst h1 h2 =>
        rw [new_ment h2]
        have : k' ≠ t := fun e => by
          subst e
          exact hji (hd i j s s' k' hi hs' (gout_new (P := P) (st := st) (o := .new k' cs d) (.new k' ds cs d hw hdst h1 h2) rfl) hn hdst ht)
        simpa using this
    · rw [Option.map_eq_some_iff] at hk
      obtain ⟨e', he', rfl⟩ := hk
      unfold killD
      split
      · rfl
      · exact hold k e' he'
/-- Others of the region that have not come up wait for number i, or don't touch it. -/
def FreeS (ops : Array Oper) (ss : List SOp) (listed : Array Bool) (i : Nat) (s : SOp) : Prop :=
  ∀ (j : Nat) s' o, ops[j]? = some o → ss[j]? = some s' → j ≠ i → listed.getD j true = false → (∀ e ∈ o.after, Region.binds .any e = true → e.on ≠ i) → apartS s s' = true ∧ isWr s.so = false ∧ isWr s'.so = false
theorem AnyS.first (hf : ∀ st st', Eqv st st' → Fin st → Fin st') (hss : ∀ (i : Nat) o, ops[i]? = some o → ∃ s, ss[i]? = some s) (hd : distNew ss) {i : Nat} {s : SOp} {o : Out} (hi : ss[i]? = some s) :
    ∀ (fuel : Nat) (listed : Array Bool) (st : St), FreeS ops ss listed i s → i ∈ Region.ready .any ops listed → CleanFor ss listed st → GOut P s st o →
      AnyS P ops ss Fin fuel (listed.setIfInBounds i true) (o.app s.dst st) → AnyS P ops ss Fin (fuel + 1) listed st := by
  intro fuel
  induction fuel with
  | zero =>
    intro listed st hfree hr hc hg H
    refine ⟨fun h => (by rw [h] at hr; cases hr), fun j hj => ?_⟩
    by_cases hji : j = i
    · subst hji; exact ⟨s, _, hi, .inl ⟨o, hg, rfl⟩, H⟩
    · have := ready_mono hj hji
      rw [H.1] at this
      cases this
  | succ fuel ih =>
    intro listed st hfree hr hc hg H
    refine ⟨fun h => (by rw [h] at hr; cases hr), fun j hj => ?_⟩
    by_cases hji : j = i
    · subst hji; exact ⟨s, _, hi, .inl ⟨o, hg, rfl⟩, H⟩
    · obtain ⟨sj, st1, h1, h2, h3⟩ := H.2 j (ready_mono hj hji)
      obtain ⟨hjun, oj, hoj, hall⟩ := mem_ready.1 hj
      have hiun := (mem_ready.1 hr).1
      have hnot : ∀ e ∈ oj.after, Region.binds .any e = true → e.on ≠ i := fun e he hb heq => by
        have h1 := hall e he hb
        rw [heq] at h1
        rcases Nat.lt_or_ge i listed.size with h' | h'
        · simp [h'] at hiun h1; rw [hiun] at h1; cases h1
        · simp [Array.getElem?_eq_none h'] at h1
      obtain ⟨hap, hw1, hw2⟩ := hfree j sj oj hoj h1 hji hjun hnot
      rcases h2 with ⟨oj', hgj, rfl⟩ | ⟨hw, _⟩
      case inr => rw [hw2] at hw; cases hw
      have hcx : ∀ t, o.site = some t → ∀ k d, look st.ρ k = some d → d.ment t = false := fun t ht => hc i s t hiun hi (gout_new hg ht) (gout_dst hg ht)
      have hgj0 := gout_back hap hg hcx hgj
      have hcy : ∀ t, oj'.site = some t → ∀ k d, look st.ρ k = some d → d.ment t = false := fun t ht => hc j sj t hjun h1 (gout_new hgj ht) (gout_dst hgj ht)
      have hgi := gout_fore hap hg hgj0 hcy
      have hcomm := gout_comm hap hg hgj0 hcx hcy
      refine ⟨sj, _, h1, .inl ⟨oj', hgj0, rfl⟩, ih _ _ ?_ (ready_mono hr (Ne.symm hji)) (hc.app hd h1 hgj0) hgi ?_⟩
      · intro k s' o' hk hs' hki hun hno
        refine hfree k s' o' hk hs' hki ?_ hno
        by_cases hjk : j = k
        · subst hjk; exact hjun
        · rw [getD_set_ne true hjk] at hun; exact hun
      · rw [Array.setIfInBounds_comm _ _ hji]
        exact h3.eqv hf hcomm
/-- A store is the only one that may come up. -/
theorem AnyS.store {i : Nat} {s : SOp} (hi : ss[i]? = some s) (hss : ∀ (i : Nat) o, ops[i]? = some o → ∃ s, ss[i]? = some s) (hw : isWr s.so = true) {fuel : Nat} {listed : Array Bool} (hfree : FreeS ops ss listed i s) (hr : i ∈ Region.ready .any ops listed) (hg : NStep P s st st')
    (H : AnyS P ops ss Fin fuel (listed.setIfInBounds i true) st') : AnyS P ops ss Fin (fuel + 1) listed st := by
  refine ⟨fun h => (by rw [h] at hr; cases hr), fun j hj => ?_⟩
  by_cases hji : j = i
  · subst hji; exact ⟨s, _, hi, hg, H⟩
  · exfalso
    obtain ⟨hjun, oj, hoj, hall⟩ := mem_ready.1 hj
    have hiun := (mem_ready.1 hr).1
    obtain ⟨sj, hsj⟩ := hss j oj hoj
    have hnot : ∀ e ∈ oj.after, Region.binds .any e = true → e.on ≠ i := fun e he hb heq => by
      have h1 := hall e he hb
      rw [heq] at h1
      rcases Nat.lt_or_ge i listed.size with h' | h'
      · simp [h'] at hiun h1; rw [hiun] at h1; cases h1
      · simp [Array.getElem?_eq_none h'] at h1
    obtain ⟨_, hw1, _⟩ := hfree j sj oj hoj hsj hji hjun hnot
    rw [hw] at hw1
    cases hw1
/-! ### The check, and the theorem -/
def freeB (ops : Array Oper) (ss : List SOp) (listed : Array Bool) (i : Nat) (s : SOp) : Bool :=
  (List.range ops.size).all fun j => j == i || listed.getD j true || match ops[j]?, ss[j]? with
    | some o, some s' => o.after.any (fun e => Region.binds .any e && e.on == i) || (apartS s s' && !isWr s.so && !isWr s'.so)
    | _, _ => true
def lexD (ops : Array Oper) (ss : List SOp) : Nat → Nat → Array Bool → Bool
  | 0, _, listed => (Region.ready .any ops listed).isEmpty
  | n + 1, k, listed => (Region.ready .any ops listed).contains k && (match ss[k]? with | some s => freeB ops ss listed k s && !isApp s.so | none => false) && lexD ops ss n (k + 1) (listed.setIfInBounds k true)
def newSites (ss : List SOp) : List (Option Nat) := ss.map fun s => if isNew s.so then s.dst else none
def distB : List (Option Nat) → Bool
  | [] => true
  | some t :: l => !l.contains (some t) && distB l
  | none :: l => distB l
theorem freeB_spec {listed : Array Bool} {i : Nat} {s : SOp} (h : freeB ops ss listed i s = true) : FreeS ops ss listed i s := by
  intro j s' o hj hs' hne hun hno
  simp only [freeB, List.all_eq_true, List.mem_range] at h
  have h1 := h j (Array.getElem?_eq_some_iff.1 hj).1
  simp only [hj, hs', Bool.or_eq_true, beq_iff_eq, hne, false_or, hun, Bool.false_eq_true, Bool.and_eq_true, Bool.not_eq_true'] at h1
  rcases h1 with h1 | h1
  · obtain ⟨e, he, hb⟩ := Array.any_eq_true'.1 h1
    simp only [Bool.and_eq_true, beq_iff_eq] at hb
    exact absurd hb.2 (hno e he hb.1)
  · exact ⟨h1.1.1, h1.1.2, h1.2⟩
theorem distB_spec : ∀ {l : List (Option Nat)}, distB l = true → ∀ (i j : Nat) t, l[i]? = some (some t) → l[j]? = some (some t) → i = j
  | [], _, i, j, t, h, _ => by simp at h
  | x :: l, h, i, j, t, hi, hj => by
    have hl : distB l = true := by
      cases x with
      | none => exact h
      | some y => simp only [distB, Bool.and_eq_true] at h; exact h.2
    have hx : ∀ k, l[k]? = some (some t) → x ≠ some t := fun k hk e => by
      subst e
      simp only [distB, Bool.and_eq_true, Bool.not_eq_true'] at h
      have := List.mem_of_getElem? hk
      simp [this] at h
    cases i with
    | zero =>
      cases j with
      | zero => rfl
      | succ j => simp at hi hj; exact absurd hi (hx j hj)
    | succ i =>
      cases j with
      | zero => simp at hi hj; exact absurd hj (hx i hi)
      | succ j => simp at hi hj; rw [distB_spec hl i j t hi hj]
theorem distNew_of (h : distB (newSites ss) = true) : distNew ss := by
  intro i j s s' t hi hj hn hn' ht ht'
  refine distB_spec h i j t ?_ ?_
  · simp [newSites, hi, hn, ht]
  · simp [newSites, hj, hn', ht']
theorem AnyS.lex (hf : ∀ st st', Eqv st st' → Fin st → Fin st') (hss : ∀ (i : Nat) o, ops[i]? = some o → ∃ s, ss[i]? = some s) (hd : distNew ss) : ∀ (l : List SOp) (k : Nat) (listed : Array Bool) (st : St), (∀ (j : Nat), l[j]? = ss[k + j]?) →
    lexD ops ss l.length k listed = true → CleanFor ss listed st → ∀ kn, opsWP P true kn l Fin st → AnyS P ops ss Fin l.length listed st
  | [], k, listed, st, _, hB, _, kn, h => ⟨by simpa [lexD] using hB, h⟩
  | s :: l, k, listed, st0, hl, hB, hc0, kn, h => by
    have h0 : ss[k]? = some s := by simpa using (hl 0).symm
    simp only [List.length_cons, lexD, h0, Bool.and_eq_true, Bool.not_eq_true'] at hB
    obtain ⟨⟨hr, hfree, happ⟩, hB'⟩ := hB
    obtain ⟨st, st', h0', h1, h2⟩ := wp_gstep h
    refine AnyS.eqv hf ?_ h0'.symm
    have hc : CleanFor ss listed st := fun i s t h1 h2 h3 h4 k d hk => hc0 i s t h1 h2 h3 h4 k d (by rw [h0'.1]; exact hk)
    have hn := gstep_n happ h1
    have hr' : k ∈ Region.ready .any ops listed := by simpa using hr
    have hl' : ∀ (j : Nat), l[j]? = ss[k + 1 + j]? := fun j => by have := hl (j + 1); simpa [Nat.add_assoc, Nat.add_comm 1 j] using this
    by_cases hw : isWr s.so = true
    · refine AnyS.store h0 hss hw (freeB_spec hfree) hr' hn (AnyS.lex hf hss hd l (k + 1) _ st' hl' hB' ?_ _ h2)
      -- a store turns no slot
      intro j s' t hj hs' hnn ht q d hq
      have hjk : listed.getD j true = false := by
        by_cases e : k = j
        · subst e
          rcases Nat.lt_or_ge k listed.size with h' | h'
          · simp [h'] at hj
          · simp [Array.getElem?_eq_none h'] at hj
        · rw [getD_set_ne true e] at hj; exact hj
      have hold := hc j s' t hjk hs' hnn ht
      rcases hn with ⟨o, hg, rfl⟩ | ⟨_, hg⟩
      · cases o with
        | val e =>
          rw [look_val] at hq
          split at hq
          · cases hq; exact gout_clean (fun t' _ d' hd' => hold t' d' hd') hg
          · exact hold q d hq
        | new k' cs e =>
          have := gout_new hg rfl
          cases hso : s.so <;> rw [hso] at hw this <;> simp [isWr, isNew] at hw this
      · cases hg with
        | no g want hg h =>
          rw [look_put] at hq
          split at hq
          · cases hq; rfl
          · exact hold q d hq
        | yes _ h hg =>
          cases h with
          | rd ds d' g1 g2 => cases hso : s.so <;> rw [hso] at hw <;> simp [isWr] at hw; rw [hso] at g2; simp [SO.rdx, SO.rd] at g2
          | call f ds vs r hf' => rw [hf'] at hw; simp [isWr] at hw
          | callD f first cap ds vs r hf' => rw [hf'] at hw; simp [isWr] at hw
          | ef ds _ g1 g2 =>
            cases hso : s.so <;> rw [hso] at hw <;> simp [isWr] at hw
            rw [hso] at g2
            match ds, g2 with
            | [.ref k' off, .v x], g2 =>
              simp only [SO.ef, Option.bind_eq_some_iff] at g2
              obtain ⟨cs, _, g2⟩ := g2
              split at g2 <;> cases g2
              exact hold q d hq
    · rcases hn with ⟨o, hg, rfl⟩ | ⟨hw', _⟩
      · exact AnyS.first hf hss hd h0 l.length listed st (freeB_spec hfree) hr' hc hg (AnyS.lex hf hss hd l (k + 1) _ _ hl' hB' (hc.app hd h0 hg) _ h2)
      · exact absurd hw' hw
end
end Go.Proofs.Ytkmlnmbhlkhgpaa.Sv
