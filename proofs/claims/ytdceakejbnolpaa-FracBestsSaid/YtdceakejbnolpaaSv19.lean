/- A region that draws its order, the theorem. No condition. -/
import Derived.Test.YtdceakejbnolpaaSv18
namespace Go.Proofs.Ytdceakejbnolpaa.Sv
open Go Go.RowKit
set_option linter.unusedVariables false
set_option linter.unusedSimpArgs false
section
variable {P : Program} {w w0 w' : World} {U E : Nat → Prop} {nt : Nat} {st st' st2 : St} {a : Act} {η : Eta} {ok : Nat → Prop} {s : SOp} {o : Out}
/-- A step looks at no more than its slots, and the objects that are named there (if it looks into objects at all). -/
theorem gout_congr (h1 : ∀ t ∈ s.slots, look st'.ρ t = look st.ρ t) (h2 : readsMem s.so = true → ∀ t ∈ s.slots, ∀ d, look st.ρ t = some d → ∀ s0, d.ment s0 = true → look st'.objs s0 = look st.objs s0) (h : GOut P s st o) : GOut P s st' o := by
  have ha : evs st' s.args = evs st s.args := evs_congr fun t ht => h1 t (by unfold SOp.slots; exact List.mem_append_left _ ht)
  have hg : ∀ g want, s.guard = some (g, want) → look st'.ρ g = look st.ρ g := fun g want hg => h1 g (by unfold SOp.slots; rw [hg]; simp)
  have hw : WantedG s st → WantedG s st' := fun h => by
    rcases h with h | ⟨g, want, h3, h4⟩
    · exact .inl h
    · exact .inr ⟨g, want, h3, by rw [hg g want h3]; exact h4⟩
  have hm : readsMem s.so = true → ∀ {ds : List D}, evs st s.args = some ds → ∀ d ∈ ds, ∀ s0, d.ment s0 = true → look st'.objs s0 = look st.objs s0 := fun hr ds he d hd s0 hs => by
    rcases evs_mem he d hd with ⟨v, rfl⟩ | ⟨t, h3, h4⟩
    · simp [D.ment] at hs
    · exact h2 hr t (by unfold SOp.slots; exact List.mem_append_left _ h3) d h4 s0 hs
  cases h with
  | skip g want h3 h4 => exact .skip g want h3 (by rw [hg g want h3]; exact h4)
  | rd ds d h3 h4 h5 =>
    refine .rd ds d (hw h3) (by rw [ha]; exact h4) ?_
    cases hr : readsMem s.so with
    | true => rw [rdx_congr (hm hr h4)]; exact h5
    | false => rw [rdx_free hr]; exact h5
  | call f ds vs r h3 hf h4 h5 h6 h7 => exact .call f ds vs r (hw h3) hf (by rw [ha]; exact h4) (by rw [snapL_congr (hm (by rw [hf]; rfl) h4)]; exact h5) h6 h7
  | callD f first cap ds vs r h3 hf h4 h5 h6 h7 => exact .callD f first cap ds vs r (hw h3) hf (by rw [ha]; exact h4) (by rw [snapL_congr fun d hd => hm (by rw [hf]; rfl) h4 d (by simp [hd])]; exact h5) h6 h7
  | new t ds cs d h3 hd h4 h5 => exact .new t ds cs d (hw h3) hd (by rw [ha]; exact h4) h5
  | wr z k off x cs h3 hs hd h4 h5 h6 => exact .wr z k off x cs (hw h3) hs hd (by rw [ha]; exact h4) (by rw [hm (by rw [hs]; rfl) h4 (.ref k off) (by simp) k (by simp [D.ment])]; exact h5) h6
theorem gout_eqv (he : Eqv st st') (h : GOut P s st o) : GOut P s st' o := gout_congr (fun t _ => (he.1 t).symm) (fun _ _ _ _ _ s0 _ => (he.2 s0).symm) h
/-- What a step yields names no object that its operands don't name. -/
theorem gout_clean {t0 : Nat} (hc : ∀ t ∈ s.slots, ∀ d, look st.ρ t = some d → d.ment t0 = false) {d : D} (h : GOut P s st (.val d)) : d.ment t0 = false := by
  have hm : ∀ {ds : List D}, evs st s.args = some ds → ∀ e ∈ ds, e.ment t0 = false := fun he e hd => by
    rcases evs_mem he e hd with ⟨v, rfl⟩ | ⟨t, h3, h4⟩
    · rfl
    · exact hc t (by unfold SOp.slots; exact List.mem_append_left _ h3) e h4
  cases h with
  | skip => rfl
  | rd ds d h3 h4 h5 => exact rdx_clean h5 (hm h4)
  | call => rfl
  | callD => rfl
theorem new_ment {t t0 : Nat} {so : SO} {ds : List D} {cs : List V} {d : D} (h : newOf t so ds = some (cs, d)) : d.ment t0 = (t == t0) := by
  unfold newOf at h
  split at h
  · cases h; rfl
  · cases h; rfl
  · split at h <;> cases h; rfl
  · cases h
theorem look_put (st : St) (dst : Option Nat) (d : D) (t : Nat) : look (st.put dst d).ρ t = if dst = some t then some d else look st.ρ t := by
  cases dst with
  | none => simp [St.put]
  | some k =>
    simp only [St.put, look, Option.some.injEq]
    by_cases h : t = k
    · subst h; simp
    · rw [if_neg h, if_neg (fun e => h e.symm)]
theorem objs_put (st : St) (dst : Option Nat) (d : D) : (st.put dst d).objs = st.objs := by cases dst <;> rfl
theorem look_fresh (st : St) (s : Nat) (cs : List V) (t : Nat) : look (st.fresh s cs).ρ t = (look st.ρ t).map (killD s) := by simp only [St.fresh]; exact look_killR _ _ _
theorem objs_fresh (st : St) (s : Nat) (cs : List V) (t : Nat) : look (st.fresh s cs).objs t = if t = s then some cs else look st.objs t := by
  simp only [St.fresh, look]
  by_cases h : t = s
  · simp [h]
  · rw [if_neg h, if_neg h, look_rid, if_neg h]
theorem look_val {dst : Option Nat} (d : D) (t : Nat) : look ((Out.val d).app dst st).ρ t = if dst = some t then some d else look st.ρ t := look_put _ _ _ _
theorem look_new {dst : Option Nat} (k : Nat) (cs : List V) (d : D) (t : Nat) : look ((Out.new k cs d).app dst st).ρ t = if k = t then some d else (look st.ρ t).map (killD k) := by
  simp only [Out.app, look_put, look_fresh, Option.some.injEq]
theorem objs_val {dst : Option Nat} (d : D) (t : Nat) : look ((Out.val d).app dst st).objs t = look st.objs t := by simp only [Out.app, objs_put]
theorem objs_new {dst : Option Nat} (k : Nat) (cs : List V) (d : D) (t : Nat) : look ((Out.new k cs d).app dst st).objs t = if t = k then some cs else look st.objs t := by simp only [Out.app, objs_put, objs_fresh]
theorem look_wr {dst : Option Nat} (k off : Nat) (xs : List V) (t : Nat) : look ((Out.wr k off xs).app dst st).ρ t = look st.ρ t := rfl
theorem objs_wr {dst : Option Nat} (k off : Nat) (xs : List V) (t : Nat) : look ((Out.wr k off xs).app dst st).objs t = if t = k then (look st.objs k).map (fun cs => setL cs off xs) else look st.objs t := by
  simp only [Out.app]
  cases h : look st.objs k with
  | none =>
    have e0 : wrO st.objs k off xs = st.objs := by unfold wrO; rw [h]
    rw [e0]
    by_cases e : t = k
    · subst e; rw [if_pos rfl, h]; rfl
    · rw [if_neg e]
  | some cs =>
    have e0 : wrO st.objs k off xs = upd st.objs k (setL cs off xs) := by unfold wrO; rw [h]
    rw [e0, look_upd, h]
    rfl
theorem app_eqv {dst : Option Nat} (he : Eqv st st') : Eqv (o.app dst st) (o.app dst st') := by
  have e1 := he.1
  have e2 := he.2
  refine ⟨fun t => ?_, fun t => ?_⟩
  · cases o with
    | val d => simp only [Out.app, look_put, e1]
    | new k cs d => simp only [Out.app, look_put, look_fresh, e1]
    | wr k off xs => rw [look_wr, look_wr, e1]
  · cases o with
    | val d => rw [objs_val, objs_val, e2]
    | new k cs d => rw [objs_new, objs_new, e2]
    | wr k off xs => rw [objs_wr, objs_wr, e2, e2]
/-- The slots that an operation touches, apart. -/
def apartS (x y : SOp) : Bool := (match x.dst with | some d => !y.slots.contains d && y.dst != some d | none => true) && (match y.dst with | some d => !x.slots.contains d | none => true)
theorem apartS_spec {x y : SOp} (h : apartS x y = true) : (∀ d, x.dst = some d → d ∉ y.slots) ∧ (∀ d, x.dst = some d → y.dst ≠ some d) ∧ (∀ d, y.dst = some d → d ∉ x.slots) := by
  refine ⟨fun d hd => ?_, fun d hd => ?_, fun d hd => ?_⟩ <;> simp [apartS, hd] at h
  · exact h.1.1
  · exact h.1.2
  · exact h.2
/-- The object that a step makes. -/
def Out.site : Out → Option Nat
  | .val _ => none
  | .new t _ _ => some t
  | .wr _ _ _ => none
/-- The object that a step writes. -/
def Out.wrote : Out → Option Nat
  | .wr k _ _ => some k
  | _ => none
/-- What a step may look into or write. -/
def Touch (s : SOp) (st : St) (k : Nat) : Prop := readsMem s.so = true ∧ ∃ t ∈ s.slots, ∃ d, look st.ρ t = some d ∧ d.ment k = true
theorem gout_wrote {x : SOp} {k : Nat} (h : GOut P x st o) (hs : o.wrote = some k) : Touch x st k := by
  cases h with
  | wr z k' off v cs hw hso hd h1 h2 h3 =>
    cases hs
    refine ⟨by rw [hso]; rfl, ?_⟩
    rcases evs_mem h1 (.ref k off) (by simp) with ⟨v, hv⟩ | ⟨t, h4, h5⟩
    · cases hv
    · exact ⟨t, by unfold SOp.slots; exact List.mem_append_left _ h4, _, h5, by simp [D.ment]⟩
  | _ => cases hs
theorem gout_dst {x : SOp} {t : Nat} (h : GOut P x st o) (hs : o.site = some t) : x.dst = some t := by
  cases h <;> cases hs
  assumption
/-- One step behind another that doesn't touch it might as well come first. -/
theorem gout_back {x y : SOp} {ox oy : Out} (hap : apartS x y = true) (hx : GOut P x st ox) (hcl : ∀ t, ox.site = some t → ∀ k d, look st.ρ k = some d → d.ment t = false) (hmx : ∀ k, ox.wrote = some k → ¬ Touch y st k) (hy : GOut P y (ox.app x.dst st) oy) : GOut P y st oy := by
  obtain ⟨h1, h2, h3⟩ := apartS_spec hap
  refine gout_congr (st := ox.app x.dst st) (fun t ht => ?_) (fun hr t ht d hd s0 hs => ?_) hy
  · cases ox with
    | val d => rw [look_val, if_neg fun e => h1 t e ht]
    | new k cs d =>
      have hk := gout_dst hx (t := k) rfl
      rw [look_new, if_neg fun e => h1 t (by rw [← e]; exact hk) ht]
      cases hl : look st.ρ t with
      | none => rfl
      | some e => simp only [Option.map_some, killD, hcl k rfl t e hl, Bool.false_eq_true, if_false]
    | wr k off xs => rw [look_wr]
  · cases ox with
    | val d => rw [objs_val]
    | wr k off xs =>
      rw [look_wr] at hd
      rw [objs_wr, if_neg fun e => hmx k rfl ⟨hr, t, ht, d, hd, by rw [← e]; exact hs⟩]
    | new k cs e =>
      have hk := gout_dst hx (t := k) rfl
      have : s0 ≠ k := by
        intro hsk
        subst hsk
        rw [look_new] at hd
        rw [if_neg fun e => h1 t (by rw [← e]; exact hk) ht] at hd
        rw [Option.map_eq_some_iff] at hd
        obtain ⟨e', he', rfl⟩ := hd
        unfold killD at hs
        split at hs
        · simp [D.ment] at hs
        · rename_i hm; exact hm hs
      rw [objs_new, if_neg this]
theorem gout_fore {x y : SOp} {ox oy : Out} (hap : apartS x y = true) (hx : GOut P x st ox) (hy : GOut P y st oy) (hcl : ∀ t, oy.site = some t → ∀ k d, look st.ρ k = some d → d.ment t = false) (hmy : ∀ k, oy.wrote = some k → ¬ Touch x st k) : GOut P x (oy.app y.dst st) ox := by
  obtain ⟨h1, h2, h3⟩ := apartS_spec hap
  refine gout_congr (st := st) (fun t ht => ?_) (fun hr t ht d hd s0 hs => ?_) hx
  · cases oy with
    | val d => rw [look_val, if_neg fun e => h3 t e ht]
    | new k cs d =>
      have hk := gout_dst hy (t := k) rfl
      rw [look_new, if_neg fun e => h3 t (by rw [← e]; exact hk) ht]
      cases hl : look st.ρ t with
      | none => rfl
      | some e => simp only [Option.map_some, killD, hcl k rfl t e hl, Bool.false_eq_true, if_false]
    | wr k off xs => rw [look_wr]
  · cases oy with
    | val d => rw [objs_val]
    | wr k off xs => rw [objs_wr, if_neg fun e => hmy k rfl ⟨hr, t, ht, d, hd, by rw [← e]; exact hs⟩]
    | new k cs e =>
      have : s0 ≠ k := by
        intro hsk
        subst hsk
        rw [hcl s0 rfl t d hd] at hs
        cases hs
      rw [objs_new, if_neg this]
theorem gout_comm {x y : SOp} {ox oy : Out} (hap : apartS x y = true) (hx : GOut P x st ox) (hy : GOut P y st oy) (hcx : ∀ t, ox.site = some t → ∀ k d, look st.ρ k = some d → d.ment t = false)
    (hcy : ∀ t, oy.site = some t → ∀ k d, look st.ρ k = some d → d.ment t = false) (hmx : ∀ k, ox.wrote = some k → ¬ Touch y st k) : Eqv (oy.app y.dst (ox.app x.dst st)) (ox.app x.dst (oy.app y.dst st)) := by
  obtain ⟨h1, h2, h3⟩ := apartS_spec hap
  -- a store's object is no new one
  have ne : ∀ {z : SOp} {oz o' : Out} {k t : Nat}, GOut P z st oz → oz.wrote = some k → (∀ q d, look st.ρ q = some d → d.ment t = false) → k ≠ t := fun hg hk hc e => by
    obtain ⟨_, q, _, d, h3, h4⟩ := gout_wrote hg hk
    rw [e, hc q d h3] at h4
    cases h4
  cases ox with
  | wr k off xs =>
    cases oy with
    | val dy => exact ⟨fun t => by simp only [look_val, look_wr], fun t => by simp only [objs_val, objs_wr]⟩
    | new k' cs dy =>
      have hne : k ≠ k' := ne (o' := .val .dead) hx rfl (hcy k' rfl)
      refine ⟨fun t => by simp only [look_new, look_wr], fun t => ?_⟩
      simp only [objs_new, objs_wr]
      by_cases e : t = k'
      · subst e; rw [if_pos rfl, if_neg (Ne.symm hne), if_pos rfl]
      · rw [if_neg e, if_neg e, if_neg hne]
    | wr k' off' xs' =>
      have hne : k ≠ k' := fun e => hmx k rfl (by rw [e]; exact gout_wrote hy rfl)
      refine ⟨fun t => by simp only [look_wr], fun t => ?_⟩
      simp only [objs_wr]
      by_cases e : t = k'
      · subst e; rw [if_pos rfl, if_neg (Ne.symm hne), if_neg (Ne.symm hne), if_pos rfl]
      · rw [if_neg e, if_neg e, if_neg hne]
  | val dx =>
    cases oy with
    | wr k off xs => exact ⟨fun t => by simp only [look_val, look_wr], fun t => by simp only [objs_val, objs_wr]⟩
    | val dy =>
      refine ⟨fun t => ?_, fun t => by simp only [objs_val]⟩
      simp only [look_val]
      by_cases e1 : y.dst = some t
      · rw [if_pos e1, if_neg (fun e => h2 t e e1), if_pos e1]
      · rw [if_neg e1, if_neg e1]
    | new k cs dy =>
      have hk := gout_dst hy (t := k) rfl
      have hm : dx.ment k = false := gout_clean (fun t' ht' d' hd' => hcy k rfl t' d' hd') hx
      refine ⟨fun t => ?_, fun t => by simp only [objs_val, objs_new]⟩
      simp only [look_val, look_new]
      by_cases e1 : k = t
      · subst e1
        rw [if_pos rfl, if_neg (fun e => h2 k e hk), if_pos rfl]
      · rw [if_neg e1, if_neg e1]
        split
        · simp [killD, hm]
        · rfl
  | new k cs dx =>
    have hk := gout_dst hx (t := k) rfl
    cases oy with
    | wr k' off xs =>
      have hne : k' ≠ k := ne (o' := .val .dead) hy rfl (hcx k rfl)
      refine ⟨fun t => by simp only [look_new, look_wr], fun t => ?_⟩
      simp only [objs_new, objs_wr]
      by_cases e : t = k
      · subst e; rw [if_pos rfl, if_neg (Ne.symm hne), if_pos rfl]
      · rw [if_neg e, if_neg e, if_neg hne]
    | val dy =>
      have hm : dy.ment k = false := by
        exact gout_clean (fun t' ht' d' hd' => hcx k rfl t' d' hd') hy
      refine ⟨fun t => ?_, fun t => by simp only [objs_val, objs_new]⟩
      simp only [look_val, look_new]
      by_cases e1 : y.dst = some t
      · have e2 : ¬ k = t := fun e => h2 t (by rw [← e]; exact hk) e1
        rw [if_pos e1, if_neg e2, if_pos e1]
        simp [killD, hm]
      · rw [if_neg e1, if_neg e1]
    | new k' cs' dy =>
      have hk' := gout_dst hy (t := k') rfl
      have hkk : k ≠ k' := fun e => h2 k hk (by rw [e]; exact hk')
      have m1 : dx.ment k' = false := by
        cases hx with
        | new _ ds _ _ _ _ _ h => rw [new_ment h]; simp [hkk]
      have m2 : dy.ment k = false := by
        cases hy with
        | new _ ds _ _ _ _ _ h => rw [new_ment h]; simp [Ne.symm hkk]
      refine ⟨fun t => ?_, fun t => ?_⟩
      · simp only [look_new]
        by_cases e1 : k' = t
        · subst e1
          rw [if_pos rfl, if_neg hkk, if_pos rfl]
          simp [killD, m2]
        · rw [if_neg e1, if_neg e1]
          by_cases e2 : k = t
          · subst e2
            rw [if_pos rfl, if_pos rfl]
            simp [killD, m1]
          · rw [if_neg e2, if_neg e2]
            cases look st.ρ t with
            | none => rfl
            | some e =>
              simp only [Option.map_some, killD]
              cases h4 : e.ment k <;> cases h5 : e.ment k' <;> simp [h4, h5, show ∀ z, D.dead.ment z = false from fun _ => rfl]
      · simp only [objs_new]
        by_cases e1 : t = k'
        · subst e1
          rw [if_pos rfl, if_neg (Ne.symm hkk), if_pos rfl]
        · rw [if_neg e1, if_neg e1]
end
end Go.Proofs.Ytdceakejbnolpaa.Sv
