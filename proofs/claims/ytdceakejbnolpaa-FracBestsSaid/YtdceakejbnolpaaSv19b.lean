/- Which slots may name which objects, and what must come ahead of what, in a region that draws its order. No condition. -/
import Derived.Test.YtdceakejbnolpaaSv19
namespace Go.Proofs.Ytdceakejbnolpaa.Sv
open Go Go.RowKit
set_option linter.unusedVariables false
set_option linter.unusedSimpArgs false

/-- Each slot names no object that the table doesn't let it name. -/
def MInv (m : List (Nat × List Nat)) (st : St) : Prop := ∀ t d k, look st.ρ t = some d → d.ment k = true → k ∈ mOf m t
section
variable {P : Program} {st st' : St} {s : SOp} {o : Out} {m : List (Nat × List Nat)}
theorem rdx_val {objs : List (Nat × List V)} {so : SO} {ds : List D} {d : D} (hp : passes so = false) (h : so.rdx objs ds = some d) : ∃ v, d = .v v := by
  have app : ∀ (z by_ : Nat), appV objs z by_ ds = some d → ∃ v, d = .v v := fun z by_ h => by
    unfold appV at h
    split at h
    · simp only [Option.bind_eq_some_iff] at h
      obtain ⟨⟨m, ys⟩, _, h⟩ := h
      split at h <;> cases h
      exact ⟨_, rfl⟩
    · cases h
  cases so <;> simp [passes] at hp <;> simp only [SO.rdx] at h
  case app => exact app _ _ h
  case appv => exact app _ _ h
  case po p => obtain ⟨vs, r, h1, h2, rfl⟩ := po_split (objs := objs) h; exact ⟨_, rfl⟩
  case ld g z hd =>
    match ds, h with
    | [e], h =>
      simp only [SO.rd, Option.bind_eq_some_iff] at h
      obtain ⟨cs, _, h⟩ := h
      unfold ldD at h
      split at h
      · split at h <;> cases h; exact ⟨_, rfl⟩
      · simp only [Option.map_eq_some_iff] at h
        obtain ⟨v, _, rfl⟩ := h; exact ⟨_, rfl⟩
  all_goals (simp [SO.rd] at h; done)
theorem MInv.put (hm : MInv m st) {dst : Option Nat} {d : D} (h : ∀ t k, dst = some t → d.ment k = true → k ∈ mOf m t) : MInv m (st.put dst d) := by
  intro t e k hl hk
  rw [look_put] at hl
  split at hl
  · rename_i e1; cases hl; exact h t k e1 hk
  · exact hm t e k hl hk
theorem MInv.app (hm : MInv m st) (hok : okM m s = true) (h : GOut P s st o) : MInv m (o.app s.dst st) := by
  have hv : ∀ (dst : Option Nat) (v : V), MInv m (st.put dst (.v v)) := fun dst v => hm.put fun t k _ hk => by cases hk
  cases h with
  | skip => exact hv _ _
  | call => exact hv _ _
  | callD => exact hv _ _
  | wr => exact hm
  | rd ds d hw h1 h2 =>
    cases hp : passes s.so with
    | false => obtain ⟨v, rfl⟩ := rdx_val hp h2; exact hv _ _
    | true =>
      refine hm.put fun t k ht hk => ?_
      have : ∃ e ∈ ds, e.ment k = true := by
        apply Classical.byContradiction
        intro hn
        have := rdx_clean (s := k) h2 fun e he => by
          cases hc : e.ment k with
          | false => rfl
          | true => exact absurd ⟨e, he, hc⟩ hn
        rw [this] at hk; cases hk
      obtain ⟨e, he, hek⟩ := this
      rcases evs_mem h1 e he with ⟨v, rfl⟩ | ⟨q, hq, hl⟩
      · cases hek
      · have h3 := hm q e k hl hek
        unfold okM at hok
        rw [ht] at hok
        have hnew : isNew s.so = false := by cases hs : s.so <;> rw [hs] at hp <;> simp [passes] at hp <;> rfl
        simp only [hnew, hp, Bool.false_eq_true, if_false, if_true, List.all_eq_true] at hok
        have := hok q (by unfold SOp.slots; exact List.mem_append_left _ hq) k h3
        simpa using this
  | new t ds cs d hw hd h1 h2 =>
    intro q e k hl hk
    rw [look_new] at hl
    split at hl
    · rename_i e1
      cases hl
      subst e1
      have hkt : k = t := by rw [new_ment h2] at hk; simpa using Eq.symm (by simpa using hk)
      subst hkt
      unfold okM at hok
      rw [hd] at hok
      have hnew : isNew s.so = true := by
        unfold newOf at h2
        split at h2 <;> first | (cases h2; simp_all [isNew]; done) | (simp_all [isNew]; done)
      simp only [hnew, if_true] at hok
      simpa using hok
    · rw [Option.map_eq_some_iff] at hl
      obtain ⟨e', he', rfl⟩ := hl
      unfold killD at hk
      split at hk
      · cases hk
      · exact hm q e' k he' hk
theorem touch_mem (hm : MInv m st) {k : Nat} (h : Touch s st k) : k ∈ slotsM m s := by
  obtain ⟨_, t, ht, d, h1, h2⟩ := h
  exact List.mem_flatMap.2 ⟨t, ht, hm t d k h1 h2⟩
theorem wrote_wr {k : Nat} (h : GOut P s st o) (hk : o.wrote = some k) : isWr s.so = true := by
  cases h with
  | wr z k' off v cs hw hso => rw [hso]; rfl
  | _ => cases hk
theorem apartM_spec {x y : SOp} {ox : Out} (hm : MInv m st) (ha : apartM m x y = true) (hx : GOut P x st ox) : ∀ k, ox.wrote = some k → ¬ Touch y st k := by
  intro k hk ht
  have h1 := touch_mem hm (gout_wrote hx hk)
  have h2 := touch_mem hm ht
  have h3 := wrote_wr hx hk
  have h4 := ht.1
  simp only [apartM, h3, h4, Bool.not_true, Bool.false_or, Bool.and_eq_true, List.all_eq_true] at ha
  have := ha.1 k h1
  simp [h2] at this
theorem apartM_symm {x y : SOp} (h : apartM m x y = true) : apartM m y x = true := by
  simp only [apartM, Bool.and_eq_true] at h ⊢
  exact ⟨h.2, h.1⟩
end
end Go.Proofs.Ytdceakejbnolpaa.Sv
