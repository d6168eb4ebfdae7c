/- Code by structure: what must hold ahead of it so that Q holds behind it. No condition. -/
import Derived.Test.YtdceakejbnolpaaSv16
namespace Go.Proofs.Ytdceakejbnolpaa.Sv
open Go Go.RowKit
set_option linter.unusedVariables false
set_option linter.unusedSimpArgs false

/-! ### What is asked of a region that draws its order -/
def isNew : SO → Bool
  | .alloc _ | .box | .mk _ _ _ => true
  | _ => false
def isWr : SO → Bool
  | .st _ => true
  | _ => false
def isApp : SO → Bool
  | .app _ _ | .adopt _ | .callM _ | .clr _ _ => true
  | _ => false
/-- Operations that look into objects, or write there. -/
def readsMem : SO → Bool
  | .ld _ _ _ | .app _ _ | .appv _ _ | .call _ | .callD | .st _ => true
  | _ => false
def Opd.slot : Opd → List Nat
  | .tm t => [t]
  | .cn _ => []
def SOp.slots (s : SOp) : List Nat := s.args.flatMap Opd.slot ++ (match s.guard with | some (g, _) => [g] | none => [])
def mOf (m : List (Nat × List Nat)) (t : Nat) : List Nat := (m.filter fun x => x.1 == t).flatMap (·.2)
def passes : SO → Bool
  | .mv | .pick | .fa _ | .ia _ _ | .sl _ _ _ _ _ | .nck | .len _ => true
  | _ => false
def okM (m : List (Nat × List Nat)) (s : SOp) : Bool := match s.dst with
  | none => true
  | some t => if isNew s.so then (mOf m t).contains t else if passes s.so then s.slots.all fun q => (mOf m q).all fun k => (mOf m t).contains k else true
def slotsM (m : List (Nat × List Nat)) (s : SOp) : List Nat := s.slots.flatMap (mOf m)
def apartM (m : List (Nat × List Nat)) (x y : SOp) : Bool :=
  (!isWr x.so || !readsMem y.so || (slotsM m x).all fun k => !(slotsM m y).contains k) && (!isWr y.so || !readsMem x.so || (slotsM m y).all fun k => !(slotsM m x).contains k)
/-- What slots may name in a region: from what they name ahead of it. -/
def tabM : List SOp → List (Nat × List Nat) → List (Nat × List Nat)
  | [], m => m
  | s :: l, m => tabM l (match s.dst with
    | none => m
    | some t => if isNew s.so then (t, [t]) :: m else if passes s.so then (t, slotsM m s) :: m else m)
def entryM (ρ : List (Nat × D)) : List (Nat × List Nat) := ρ.map fun x => (x.1, sitesD x.2)
def chkM (m : List (Nat × List Nat)) (ss : List SOp) (prs : List (Nat × Nat)) : Bool := ss.all (okM m) && prs.all fun x => match ss[x.1]?, ss[x.2]? with
  | some a, some b => apartM m a b
  | _, _ => true
/-- Where there are pairs to look at: is what they touch apart? -/
def drawChk (st : St) (ss : List SOp) (prs : List (Nat × Nat)) : Bool := match prs with
  | [] => true
  | _ => chkM (tabM ss (entryM st.ρ)) ss prs
inductive SC where
  | skip
  | ret
  | exit (id : Nat)
  | reg (ops : List SOp) (live : List Nat)
  | dreg (ops : List SOp) (prs : List (Nat × Nat)) (live : List Nat)
  | seq (x y : SC)
  | cond (c : Opd) (x y : SC)
  | block (id : Nat) (x : SC)
  | loop (live : List Nat) (x : SC)
  | thaw (ds : List Nat) (x : SC)
  | bad
def keepR (live : List Nat) (ρ : List (Nat × D)) : List (Nat × D) := live.filterMap fun t => (look ρ t).map fun d => (t, d)
def keepO (ρ : List (Nat × D)) (objs : List (Nat × List V)) : List (Nat × List V) := objs.filter fun x => ρ.any fun y => y.2.ment x.1
/-- What is wanted no more is forgotten. -/
def St.keep (live : List Nat) (st : St) : St := ⟨keepR live st.ρ, keepO (keepR live st.ρ) st.objs⟩
def dsite (o : SOp) : List Nat := match o.so, o.dst with
  | .alloc _, some s | .box, some s | .mk _ _ _, some s => [s]
  | _, _ => []
/-- Names that a region makes anew are forgotten ahead of it. -/
def St.clean (ss : List Nat) (st : St) : St := ⟨ss.foldl (fun ρ s => killR s ρ) st.ρ, ss.foldl (fun o s => rid o s) st.objs⟩
def thenQ (K : St → Prop) (Q : Exit → St → Prop) : Exit → St → Prop
  | .normal, st => K st
  | e, st => Q e st
def inBlockQ (id : Nat) (Q : Exit → St → Prop) : Exit → St → Prop
  | .exit id', st => if id' = id then Q .normal st else Q (.exit id') st
  | e, st => Q e st
/-- The least condition that holds wherever one round leads back to it. -/
def LoopQ (step : (St → Prop) → St → Prop) (st : St) : Prop := ∀ I : St → Prop, (∀ s, step I s → I s) → I st
inductive LoopW (step : (St → Prop) → St → Prop) (st : St) : Prop
  | mk (h : LoopQ step st)
def keepRK : List Nat → List (Nat × D) → (List (Nat × D) → Prop) → Prop
  | [], _, K => K []
  | t :: l, ρ, K => match look ρ t with
    | some d => keepRK l ρ fun r => K ((t, d) :: r)
    | none => keepRK l ρ K
def keepOK (ρ : List (Nat × D)) : List (Nat × List V) → (List (Nat × List V) → Prop) → Prop
  | [], K => K []
  | (s, cs) :: l, K => match ρ.any fun y => y.2.ment s with
    | true => keepOK ρ l fun r => K ((s, cs) :: r)
    | false => keepOK ρ l K
/-- As keep, but reckoned before one goes on. -/
def keepK (live : List Nat) (st : St) (K : St → Prop) : Prop := keepRK live st.ρ fun ρ => keepOK ρ st.objs fun o => K ⟨ρ, o⟩
theorem keepRK_iff : ∀ {l : List Nat} {ρ : List (Nat × D)} {K : List (Nat × D) → Prop}, keepRK l ρ K ↔ K (keepR l ρ)
  | [], _, _ => Iff.rfl
  | t :: l, ρ, K => by
    simp only [keepRK, keepR, List.filterMap_cons]
    cases look ρ t with
    | none => exact keepRK_iff
    | some d => exact keepRK_iff (K := fun r => K ((t, d) :: r))
theorem keepOK_iff {ρ : List (Nat × D)} : ∀ {o : List (Nat × List V)} {K : List (Nat × List V) → Prop}, keepOK ρ o K ↔ K (keepO ρ o)
  | [], _ => Iff.rfl
  | (s, cs) :: l, K => by
    simp only [keepOK, keepO, List.filter_cons]
    cases ρ.any fun y => y.2.ment s with
    | false => exact keepOK_iff
    | true => exact keepOK_iff (K := fun r => K ((s, cs) :: r))
theorem keepK_iff {live : List Nat} {st : St} {K : St → Prop} : keepK live st K ↔ K (st.keep live) := keepRK_iff.trans keepOK_iff
/-- Behind a piece of code that wrote to none of the objects: what was there before, and what is flat in the slots ds that it set. -/
def mergeR : List Nat → List (Nat × D) → List (Nat × D) → List (Nat × D)
  | [], ρ, _ => ρ
  | t :: ds, ρ, ρ2 => match look ρ2 t with
    | some (.v v) => match v.flat1 with
      | true => mergeR ds ((t, .v v) :: ρ) ρ2
      | false => mergeR ds (rid ρ t) ρ2
    | _ => mergeR ds (rid ρ t) ρ2
def mergeK : List Nat → List (Nat × D) → List (Nat × D) → (List (Nat × D) → Prop) → Prop
  | [], ρ, _, K => K ρ
  | t :: ds, ρ, ρ2, K => match look ρ2 t with
    | some (.v v) => match v.flat1 with
      | true => mergeK ds ((t, .v v) :: ρ) ρ2 K
      | false => mergeK ds (rid ρ t) ρ2 K
    | _ => mergeK ds (rid ρ t) ρ2 K
theorem mergeK_iff : ∀ {ds : List Nat} {ρ ρ2 : List (Nat × D)} {K : List (Nat × D) → Prop}, mergeK ds ρ ρ2 K ↔ K (mergeR ds ρ ρ2)
  | [], _, _, _ => Iff.rfl
  | t :: ds, ρ, ρ2, K => by
    unfold mergeK mergeR
    split
    · split
      · exact mergeK_iff
      · exact mergeK_iff
    · exact mergeK_iff
theorem look_mergeR {ρ2 : List (Nat × D)} {t : Nat} {d : D} : ∀ {ds : List Nat} {ρ : List (Nat × D)}, look (mergeR ds ρ ρ2) t = some d → (∃ v, v.flat1 = true ∧ look ρ2 t = some (.v v) ∧ d = .v v) ∨ (look ρ t = some d ∧ t ∉ ds)
  | [], ρ, h => .inr ⟨h, by simp⟩
  | k :: ds, ρ, h => by
    have ridc : look (mergeR ds (rid ρ k) ρ2) t = some d → (∃ v, v.flat1 = true ∧ look ρ2 t = some (.v v) ∧ d = .v v) ∨ (look ρ t = some d ∧ t ∉ k :: ds) := fun h => by
      rcases look_mergeR h with h | ⟨h1, h2⟩
      · exact .inl h
      · rw [look_rid] at h1
        split at h1
        · cases h1
        · rename_i e; exact .inr ⟨h1, by simp [e, h2]⟩
    unfold mergeR at h
    split at h
    · rename_i v hv
      split at h
      · rename_i hf
        rcases look_mergeR h with h | ⟨h1, h2⟩
        · exact .inl h
        · simp only [look] at h1
          split at h1
          · rename_i e; subst e; cases h1; exact .inl ⟨v, hf, hv, rfl⟩
          · rename_i e; exact .inr ⟨h1, by simp [e, h2]⟩
      · exact ridc h
    · exact ridc h
def thawQ (ds : List Nat) (st : St) (Q : Exit → St → Prop) : Exit → St → Prop
  | .normal, st2 => mergeK ds st.ρ st2.ρ fun ρ => Q .normal ⟨ρ, st.objs⟩
  | _, _ => False
theorem thawQ_mono {ds : List Nat} {st : St} {Q Q' : Exit → St → Prop} (hq : ∀ e st, Q e st → Q' e st) (e : Exit) (st2 : St) (h : thawQ ds st Q e st2) : thawQ ds st Q' e st2 := by
  cases e with
  | normal => exact mergeK_iff.2 (hq _ _ (mergeK_iff.1 h))
  | _ => exact h
def SC.wp (P : Program) : SC → (Exit → St → Prop) → St → Prop
  | .skip, Q, st => Q .normal st
  | .ret, Q, st => Q .ret st
  | .exit id, Q, st => Q (.exit id) st
  | .reg ops live, Q, st => opsWP P false [] ops (fun st' => keepK live st' (Q .normal)) st
  | .dreg ops prs live, Q, st => match drawChk (st.clean (ops.flatMap dsite)) ops prs with
    | true => opsWP P true [] ops (fun st' => keepK live st' (Q .normal)) (st.clean (ops.flatMap dsite))
    | false => False
  | .seq x y, Q, st => x.wp P (thenQ (fun st' => y.wp P Q st') Q) st
  | .cond c x y, Q, st => match c.ev st with
    | some (.v (.b p)) => DecK p fun b => if b then x.wp P Q st else y.wp P Q st
    | _ => False
  | .block id x, Q, st => x.wp P (inBlockQ id Q) st
  | .loop live x, Q, st => keepK live st fun st => LoopW (fun I s => x.wp P (thenQ (fun st' => keepK live st' I) Q) s) st
  | .thaw ds x, Q, st => forceR (st.freezeL (st.objs.map (·.1))).ρ fun ρ => x.wp P (thawQ ds st Q) ⟨ρ, []⟩
  | .bad, _, _ => False
section
variable {P : Program} {w w0 w' : World} {U E : Nat → Prop} {nt : Nat} {st st' : St} {a : Act} {η : Eta} {ok : Nat → Prop}
theorem thenQ_mono {K K' : St → Prop} {Q Q' : Exit → St → Prop} (hk : ∀ st, K st → K' st) (hq : ∀ e st, Q e st → Q' e st) (e : Exit) (st : St) (h : thenQ K Q e st) : thenQ K' Q' e st := by
  cases e <;> first | exact hk _ h | exact hq _ _ h
theorem inBlockQ_mono {id : Nat} {Q Q' : Exit → St → Prop} (hq : ∀ e st, Q e st → Q' e st) (e : Exit) (st : St) (h : inBlockQ id Q e st) : inBlockQ id Q' e st := by
  cases e with
  | exit id' =>
    unfold inBlockQ at h ⊢
    by_cases hi : id' = id
    · simp only [hi, if_true] at h ⊢; exact hq _ _ h
    · simp only [hi, if_false] at h ⊢; exact hq _ _ h
  | _ => exact hq _ _ h
theorem SC.wp_mono : ∀ (c : SC) {Q Q' : Exit → St → Prop} {st : St}, (∀ e st, Q e st → Q' e st) → c.wp P Q st → c.wp P Q' st
  | .skip, _, _, _, hq, h => hq _ _ h
  | .ret, _, _, _, hq, h => hq _ _ h
  | .exit id, _, _, _, hq, h => hq _ _ h
  | .reg ops live, _, _, _, hq, h => opsWP_mono (fun _ h => keepK_iff.2 (hq _ _ (keepK_iff.1 h))) h
  | .dreg ops prs live, _, _, _, hq, h => by
    unfold SC.wp at h ⊢
    split at h
    · exact opsWP_mono (fun _ h => keepK_iff.2 (hq _ _ (keepK_iff.1 h))) h
    · exact h
  | .seq x y, _, _, _, hq, h => SC.wp_mono x (thenQ_mono (fun _ h => SC.wp_mono y hq h) hq) h
  | .cond c x y, _, _, st, hq, h => by
    unfold SC.wp at h ⊢
    split at h
    · refine h.mono fun b h => ?_
      cases b
      · exact SC.wp_mono y hq h
      · exact SC.wp_mono x hq h
    · exact h
  | .block id x, _, _, _, hq, h => SC.wp_mono x (inBlockQ_mono hq) h
  | .loop live x, _, _, _, hq, h => by
    obtain ⟨h⟩ := keepK_iff.1 h
    exact keepK_iff.2 ⟨fun I hI => h I fun s hs => hI s (SC.wp_mono x (thenQ_mono (fun _ h => h) hq) hs)⟩
  | .thaw ds x, Q, Q', st, hq, h => by
    unfold SC.wp at h ⊢
    exact (forceR_iff (K := fun ρ => x.wp P (thawQ ds st Q') ⟨ρ, []⟩)).2 (SC.wp_mono x (thawQ_mono hq) ((forceR_iff (K := fun ρ => x.wp P (thawQ ds st Q) ⟨ρ, []⟩)).1 h))
  | .bad, _, _, _, _, h => h
/-- A loop's rounds from a state on. -/
abbrev loopW (P : Program) (live : List Nat) (x : SC) (Q : Exit → St → Prop) (st : St) : Prop := LoopW (fun I s => x.wp P (thenQ (fun st' => keepK live st' I) Q) s) st
/-- A loop, one round unrolled. -/
theorem loop_unroll {live : List Nat} {x : SC} {Q : Exit → St → Prop} (h : x.wp P (thenQ (fun st' => keepK live st' fun st => loopW P live x Q st) Q) st) : loopW P live x Q st := by
  refine ⟨fun I hI => hI _ (SC.wp_mono x (thenQ_mono (fun st' h' => ?_) (fun _ _ h => h)) h)⟩
  exact keepK_iff.2 ((keepK_iff.1 h').1 I hI)
theorem look_filter {l : List (Nat × List V)} {p : Nat → Bool} {s : Nat} {cs : List V} (h : look (l.filter fun x => p x.1) s = some cs) : look l s = some cs := by
  induction l with
  | nil => cases h
  | cons x l ih =>
    obtain ⟨k, c⟩ := x
    simp only [List.filter_cons] at h
    split at h
    · simp only [look] at h ⊢
      split at h
      · rename_i hk; rw [if_pos hk]; exact h
      · rename_i hk; rw [if_neg hk]; exact ih h
    · rename_i hp
      have := ih h
      simp only [look]
      split
      · rename_i hk
        subst hk
        -- a key that is left out is left out everywhere
        exact absurd h (by
          intro h
          have : ∀ (l : List (Nat × List V)), look (l.filter fun x => p x.1) s = some cs → p s = true := fun l => by
            induction l with
            | nil => intro h; cases h
            | cons y l ih =>
              obtain ⟨k', c'⟩ := y
              intro h
              simp only [List.filter_cons] at h
              split at h
              · rename_i hp'
                simp only [look] at h
                split at h
                · rename_i hk'; subst hk'; exact hp'
                · exact ih h
              · exact ih h
          exact hp (this l h))
      · exact this
theorem look_keepR {live : List Nat} {ρ : List (Nat × D)} {t : Nat} {d : D} (h : look (keepR live ρ) t = some d) : look ρ t = some d := by
  induction live with
  | nil => cases h
  | cons k live ih =>
    unfold keepR at h ih
    simp only [List.filterMap_cons] at h
    cases hk : look ρ k with
    | none => rw [hk] at h; exact ih h
    | some e =>
      rw [hk] at h
      simp only [Option.map_some, look] at h
      split at h
      · rename_i ht; subst ht; cases h; exact hk
      · exact ih h
theorem RelX.keep (live : List Nat) (h : RelX w0 U E nt st a w) : RelX w0 U E nt (st.keep live) a w := by
  obtain ⟨η, h⟩ := h
  exact ⟨η, h.sub (fun t d ht => .inl (look_keepR ht)) (fun s cs hs => look_filter (p := fun s => (keepR live st.ρ).any fun y => y.2.ment s) hs)⟩
theorem RelX.kill (s : Nat) (h : RelX w0 U E nt st a w) : RelX w0 U E nt ⟨killR s st.ρ, rid st.objs s⟩ a w := let ⟨η, h⟩ := h; ⟨η, h.drop s⟩
theorem RelX.clean (ss : List Nat) (h : RelX w0 U E nt st a w) : RelX w0 U E nt (st.clean ss) a w := by
  induction ss generalizing st with
  | nil => exact h
  | cons s ss ih => exact ih (st := ⟨killR s st.ρ, rid st.objs s⟩) (h.kill s)
/-- What the model is asked behind a piece of code. -/
def lift (w0 : World) (U E : Nat → Prop) (nt : Nat) (Q : Exit → St → Prop) : Exit → Act → World → Prop := fun e a w => ∃ st, RelX w0 U E nt st a w ∧ Q e st
/-- From a round's beginning on. -/
def LoopSem (P : Program) (c : Code) (Q : Exit → Act → World → Prop) (a : Act) (w : World) : Prop :=
  ∀ (b : Frame) (k : List Item) (cs : List Frame), ∃ e a' w', Q e a' w' ∧ Arrives P (lone (b.at a (.code c :: .inLoop c :: k)) cs w) b k cs e a' w'
theorem LoopSem.wp {c : Code} {Q : Exit → Act → World → Prop} (h : LoopSem P c Q a w) : (Code.loop c).wp P Q a w := fun b k cs =>
  let ⟨e, a', w', hq, harr⟩ := h b k cs
  ⟨e, a', w', hq, .of_steps (.one step_loop) harr⟩
theorem LoopSem.unroll {c : Code} {Q : Exit → Act → World → Prop} (h : c.wp P (Exit.then (LoopSem P c Q) Q) a w) : LoopSem P c Q a w := by
  intro b k cs
  obtain ⟨e, a₁, w₁, hq, harr⟩ := h b (.inLoop c :: k) cs
  cases e with
  | normal =>
    obtain ⟨e₂, a₂, w₂, hq₂, harr₂⟩ := hq b k cs
    exact ⟨e₂, a₂, w₂, hq₂, .of_steps (Steps.trans harr (.one step_inLoop)) harr₂⟩
  | exit id => exact ⟨_, a₁, w₁, hq, .pass (x := .inLoop c) rfl (fun _ _ => .inl (by simp)) harr⟩
  | goto l => exact ⟨_, a₁, w₁, hq, .pass (x := .inLoop c) rfl (fun _ _ => .inl (by simp)) harr⟩
  | ret => exact ⟨_, a₁, w₁, hq, .pass (x := .inLoop c) rfl (fun _ _ => .inl (by simp)) harr⟩
  | panic ch => exact ⟨_, a₁, w₁, hq, .pass (x := .inLoop c) rfl (fun _ _ => .inl (by simp)) harr⟩
  | outgrown => exact ⟨_, a₁, w₁, hq, .pass (x := .inLoop c) rfl (fun _ _ => .inl (by simp)) harr⟩
end
end Go.Proofs.Ytdceakejbnolpaa.Sv
