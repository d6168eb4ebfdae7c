/- Operations one behind the other; and a computed form of a step. No condition. -/
import Derived.Test.YtdceakejbnolpaaSv15b
namespace Go.Proofs.Ytdceakejbnolpaa.Sv
open Go Go.RowKit
set_option linter.unusedVariables false
set_option linter.unusedSimpArgs false

def optK {α : Type} (o : Option α) (K : α → Prop) : Prop := match o with
  | some x => K x
  | none => False
theorem optK_some {α : Type} (x : α) (K : α → Prop) : optK (some x) K = K x := rfl
theorem optK_none {α : Type} (K : α → Prop) : optK none K = False := rfl
theorem optK_ite {α : Type} (c : Prop) [Decidable c] (x : Option α) (K : α → Prop) : optK (if c then x else none) K = (c ∧ optK x K) := by
  by_cases h : c <;> simp [h, optK]
theorem optK_bind {α β : Type} (x : Option α) (f : α → Option β) (K : β → Prop) : optK (x.bind f) K = optK x fun a => optK (f a) K := by cases x <;> rfl
theorem optK_map {α β : Type} (x : Option α) (f : α → β) (K : β → Prop) : optK (x.map f) K = optK x fun a => K (f a) := by cases x <;> rfl
theorem optK_ex {α : Type} {o : Option α} {K : α → Prop} (h : optK o K) : ∃ x, o = some x ∧ K x := by
  cases o with
  | none => exact h.elim
  | some x => exact ⟨x, rfl, h⟩
def isOwn : List D → Bool
  | .own .. :: _ => true
  | .v (.sl n [] true) :: _ => n == 0
  | _ => false
/-- A call's continuation; F: what is to be shown where the arguments are frozen first. -/
inductive CallK (P : Program) (f : FuncId) (vs : List V) (c : Bool) (K : V → Prop) (F : Prop) : Prop
  | mk (r : V) (h : Pure P f vs r) (hf : (c || r.flat) = true) (hk : K r)
  | fz (h : F)
/-- What comes of a call that writes to an object. -/
inductive MutK (P : Program) (f : FuncId) (pre : List V) (d : D) (cs : List V) (post : List V) (K : D → List V → Prop) : Prop
  | mk (r : D) (cs' : List V) (h : Mut P f pre d cs post r cs') (hk : K r cs')
/-- The arguments, one object among them. -/
def splitM : List D → Option (List V × D × List V)
  | [] => none
  | .v x :: ds => (splitM ds).map fun (p, d, q) => (x :: p, d, q)
  | d :: ds => (allV ds).map fun q => ([], d, q)
/-- What comes of an operation that may fail. -/
inductive OptK {α : Type} (o : Option α) (K : α → Prop) : Prop
  | mk (x : α) (h : o = some x) (hk : K x)
/-- Both ways of a condition. -/
inductive DecK (x : Bool) (K : Bool → Prop) : Prop
  | mk (t : x = true → K true) (f : x = false → K false)
theorem OptK.opt {α : Type} {o : Option α} {K : α → Prop} (h : OptK o K) : optK o K := let ⟨x, h, hk⟩ := h; by rw [h]; exact hk
theorem OptK.ex {α : Type} {o : Option α} {K : α → Prop} (h : OptK o K) : ∃ x, o = some x ∧ K x := let ⟨x, h, hk⟩ := h; ⟨x, h, hk⟩
theorem DecK.tt {K : Bool → Prop} (h : K true) : DecK true K := ⟨(fun _ => h), (fun h => by cases h)⟩
theorem DecK.ff {K : Bool → Prop} (h : K false) : DecK false K := ⟨(fun h => by cases h), (fun _ => h)⟩
theorem DecK.get {x : Bool} {K : Bool → Prop} (h : DecK x K) : K x := by
  cases x with
  | true => exact h.1 rfl
  | false => exact h.2 rfl
theorem DecK.dec {p : Prop} [Decidable p] {K : Bool → Prop} (ht : p → K true) (hf : ¬ p → K false) : DecK (decide p) K := ⟨(fun h => ht (of_decide_eq_true h)), (fun h => hf (of_decide_eq_false h))⟩
theorem DecK.beq {x y : Int} {K : Bool → Prop} (ht : x = y → K true) (hf : ¬ x = y → K false) : DecK (x == y) K := ⟨(fun h => ht (by simpa using h)), (fun h => hf (by simpa using h))⟩
theorem DecK.bne {x y : Int} {K : Bool → Prop} (ht : ¬ x = y → K true) (hf : x = y → K false) : DecK (x != y) K := ⟨(fun h => ht (by simpa using h)), (fun h => hf (by simpa using h))⟩
theorem DecK.not {x : Bool} {K : Bool → Prop} (h : DecK x fun b => K (!b)) : DecK (!x) K := by
  cases x with
  | true => exact ⟨(fun h => by cases h), (fun _ => h.1 rfl)⟩
  | false => exact ⟨(fun _ => h.2 rfl), (fun h => by cases h)⟩
def isStr : List D → Bool
  | .v (.s _) :: _ => true
  | _ => false
/-- Operations that cannot fail on what is not known by number. -/
def softPO : PO → List Opd → List D → Bool
  | .bin .quo, [_, .cn _], _ | .bin .rem, [_, .cn _], _ | .bin .shl, [_, .cn _], _ | .bin .shr, [_, .cn _], _ => true
  | .bin .quo, _, _ | .bin .rem, _, _ | .bin .shl, _, _ | .bin .shr, _, _ => false
  | .bin .add, _, ds => !isStr ds
  | .idxA _ _ _, _, _ | .idxS, _, _ | .veq _ _, _, _ => false
  | _, _, _ => true
def soft : SO → List Opd → List D → Bool
  | .po p, args, ds => softPO p args ds
  | .ld _ _ false, _, [.ref _ _] => true
  | .mv, _, _ | .pick, _, _ | .fa _, _, _ | .len _, _, _ | .nck, _, _ => true
  | _, _, _ => false
def putK (st : St) (dst : Option Nat) (d : D) (K : St → Prop) : Prop := match dst with
  | none => K st
  | some t => match st with
    | ⟨ρ, o⟩ => K ⟨(t, d) :: ρ, o⟩
theorem putK_iff {st : St} {dst : Option Nat} {d : D} {K : St → Prop} : putK st dst d K ↔ K (st.put dst d) := by cases dst <;> exact Iff.rfl
def D.force (d : D) (K : D → Prop) : Prop := match d with
  | .v x => K (.v x)
  | .ref s o => K (.ref s o)
  | .own s z o l => K (.own s z o l)
  | .dead => K .dead
theorem D.force_iff {d : D} {K : D → Prop} : d.force K ↔ K d := by cases d <;> exact Iff.rfl
def forceR : List (Nat × D) → (List (Nat × D) → Prop) → Prop
  | [], K => K []
  | (t, d) :: l, K => d.force fun d => forceR l fun r => K ((t, d) :: r)
def forceO : List (Nat × List V) → (List (Nat × List V) → Prop) → Prop
  | [], K => K []
  | (t, d) :: l, K => forceO l fun r => K ((t, d) :: r)
theorem forceR_iff : ∀ {l : List (Nat × D)} {K : List (Nat × D) → Prop}, forceR l K ↔ K l
  | [], _ => Iff.rfl
  | (t, d) :: l, K => D.force_iff.trans (forceR_iff (l := l) (K := fun r => K ((t, d) :: r)))
theorem forceO_iff : ∀ {l : List (Nat × List V)} {K : List (Nat × List V) → Prop}, forceO l K ↔ K l
  | [], _ => Iff.rfl
  | (t, d) :: l, K => forceO_iff (l := l) (K := fun r => K ((t, d) :: r))
/-- The state reckoned before one goes on. -/
def forceK (st : St) (K : St → Prop) : Prop := forceR st.ρ fun ρ => forceO st.objs fun o => K ⟨ρ, o⟩
theorem forceK_iff {st : St} {K : St → Prop} : forceK st K ↔ K st := forceR_iff.trans forceO_iff
def SOp.run1 (P : Program) (F : Prop) (s : SOp) (st : St) (ds : List D) (K : St → Prop) : Prop :=
  match s.so with
    | .call f => optK (snapL st.objs ds) fun vs => CallK P f vs (ds.all D.isV) (fun r => putK st s.dst (.v r) K) F
    | .callD => match ds with
      | .v (.clo (.func f) first cap) :: ds => optK (snapL st.objs ds) fun vs => CallK P f (first ++ vs ++ cap) (ds.all D.isV) (fun r => putK st s.dst (.v r) K) F
      | _ => False
    | .callM f => optK (splitM ds) fun x => match x with
      | (pre, .own k z 0 n, post) => optK (look st.objs k) fun cs => MutK P f pre (.own 0 z 0 n) cs post fun r cs' => putK ⟨st.ρ, upd st.objs k cs'⟩ s.dst (r.rekey k) K
      | (pre, .ref k 0, post) => optK (look st.objs k) fun cs => MutK P f pre (.ref 0 0) cs post fun r cs' => putK ⟨st.ρ, upd st.objs k cs'⟩ s.dst (r.rekey k) K
      | _ => False
    | .clr z zero => OptK ((SO.clr z zero).ef st s.dst ds) K
    | .alloc z => optK ((SO.alloc z).ef st s.dst ds) fun st => forceK st K
    | .adopt z => optK ((SO.adopt z).ef st s.dst ds) fun st => forceK st K
    | .box => optK (SO.box.ef st s.dst ds) fun st => forceK st K
    | .st z => OptK ((SO.st z).ef st s.dst ds) K
    | .mk z b zero => OptK ((SO.mk z b zero).ef st s.dst ds) fun st => forceK st K
    | .app z b => if isOwn ds then OptK ((SO.app z b).ef st s.dst ds) fun st => forceK st K else OptK ((SO.app z b).rdx st.objs ds) fun d => putK st s.dst d K
    | so => if soft so s.args ds then optK (so.rdx st.objs ds) fun d => putK st s.dst d K else OptK (so.rdx st.objs ds) fun d => putK st s.dst d K
def sitesD : D → List Nat
  | .ref k _ => [k]
  | .own k _ _ _ => [k]
  | _ => []
/-- Operations that take values by themselves alone. -/
def fzSites : SO → List D → List Nat
  | .po (.mkF _ _), ds | .po (.build _ _), ds | .po (.bsl _ _ _), ds | .po (.mkI _), ds | .box, ds => ds.flatMap sitesD
  | .st _, _ :: ds => ds.flatMap sitesD
  | _, _ => []
def SOp.run0 (P : Program) (s : SOp) (st : St) (K : St → Prop) : Prop := optK (evs st s.args) fun ds => s.run1 P False st ds K
/-- dr: in a region that draws its order nothing is frozen. -/
def SOp.run (P : Program) (dr : Bool) (s : SOp) (st : St) (K : St → Prop) : Prop :=
  match dr with
  | true => s.run0 P st K
  | false => optK (evs st s.args) fun ds => match fzSites s.so ds with
    | [] => s.run1 P (forceK (st.freezeL (ds.flatMap sitesD)) fun st => s.run0 P st K) st ds K
    | k :: ks => forceK (st.freezeL (k :: ks)) fun st => s.run0 P st K
/-- kn: slots that have been asked before. -/
def SOp.wp (P : Program) (dr : Bool) (kn : List Nat) (s : SOp) (st : St) (K : St → Prop) : Prop :=
  match s.guard with
  | none => s.run P dr st K
  | some (g, want) => match look st.ρ g with
    | some (.v (.b x)) => if kn.contains g then (if x = want then s.run P dr st K else putK st s.dst (.v (.tup [])) K)
        else DecK x fun b => if b = want then s.run P dr ⟨(g, .v (.b b)) :: st.ρ, st.objs⟩ K else putK ⟨(g, .v (.b b)) :: st.ρ, st.objs⟩ s.dst (.v (.tup [])) K
    | some (.v (.tup [])) => putK st s.dst (.v (.tup [])) K
    | _ => False
def SOp.knows (s : SOp) (kn : List Nat) : List Nat := match s.guard with
  | some (g, _) => g :: kn
  | none => kn
def opsWP (P : Program) (dr : Bool) : List Nat → List SOp → (St → Prop) → St → Prop
  | _, [], K, st => K st
  | kn, s :: r, K, st => s.wp P dr kn st fun st' => opsWP P dr (s.knows kn) r K st'
def Eqv (st st' : St) : Prop := (∀ t, look st.ρ t = look st'.ρ t) ∧ ∀ s, look st.objs s = look st'.objs s
theorem Eqv.refl (st : St) : Eqv st st := ⟨fun _ => rfl, fun _ => rfl⟩
theorem Eqv.symm {st st' : St} (h : Eqv st st') : Eqv st' st := ⟨fun t => (h.1 t).symm, fun s => (h.2 s).symm⟩
theorem Eqv.trans {a b c : St} (h : Eqv a b) (k : Eqv b c) : Eqv a c := ⟨fun t => (h.1 t).trans (k.1 t), fun s => (h.2 s).trans (k.2 s)⟩
theorem Eqv.known {st : St} {g : Nat} {d : D} (h : look st.ρ g = some d) : Eqv st ⟨(g, d) :: st.ρ, st.objs⟩ := by
  refine ⟨fun t => ?_, fun _ => rfl⟩
  simp only [look]
  split
  · rename_i e; subst e; exact h
  · rfl
section
variable {P : Program} {w w0 w' : World} {U E : Nat → Prop} {nt : Nat} {st st' : St} {a : Act} {η : Eta} {ok : Nat → Prop}
theorem allV_map : ∀ {ds : List D} {vs : List V}, allV ds = some vs → ds = vs.map .v
  | [], vs, h => by cases h; rfl
  | .v x :: ds, vs, h => by
    simp only [allV, Option.map_eq_some_iff] at h
    obtain ⟨vs', h, rfl⟩ := h
    rw [allV_map h]; rfl
  | .ref _ _ :: ds, vs, h => by simp [allV] at h
  | .own _ _ _ _ :: ds, vs, h => by simp [allV] at h
  | .dead :: ds, vs, h => by simp [allV] at h
theorem splitM_map : ∀ {ds : List D} {p : List V} {d : D} {q : List V}, splitM ds = some (p, d, q) → ds = p.map .v ++ d :: q.map .v
  | [], p, d, q, h => by cases h
  | .v x :: ds, p, d, q, h => by
    simp only [splitM, Option.map_eq_some_iff] at h
    obtain ⟨⟨p', d', q'⟩, h, e⟩ := h
    cases e
    rw [splitM_map h]; rfl
  | .ref _ _ :: ds, p, d, q, h => by
    simp only [splitM, Option.map_eq_some_iff] at h
    obtain ⟨q', h, e⟩ := h
    cases e
    rw [allV_map h]; rfl
  | .own _ _ _ _ :: ds, p, d, q, h => by
    simp only [splitM, Option.map_eq_some_iff] at h
    obtain ⟨q', h, e⟩ := h
    cases e
    rw [allV_map h]; rfl
  | .dead :: ds, p, d, q, h => by
    simp only [splitM, Option.map_eq_some_iff] at h
    obtain ⟨q', h, e⟩ := h
    cases e
    rw [allV_map h]; rfl
theorem run1_step {F : Prop} {s : SOp} {K : St → Prop} {ds : List D} (h1 : evs st s.args = some ds) (h : s.run1 P F st ds K) : (∃ st', Step P s st st' ∧ K st') ∨ F := by
  unfold SOp.run1 at h
  have rd : ∀ so, s.so = so → (∃ d, so.rdx st.objs ds = some d ∧ putK st s.dst d K) → (∃ st', Step P s st st' ∧ K st') ∨ F := fun so hs h => by
    obtain ⟨d, h2, h3⟩ := h
    subst hs
    exact .inl ⟨_, .rd ds d h1 h2, putK_iff.1 h3⟩
  have ef : ∀ so, s.so = so → (∃ st', so.ef st s.dst ds = some st' ∧ forceK st' K) → (∃ st', Step P s st st' ∧ K st') ∨ F := fun so hs h => by
    obtain ⟨st', h2, h3⟩ := h
    subst hs
    exact .inl ⟨_, .ef ds st' h1 h2, forceK_iff.1 h3⟩
  split at h
  · rename_i f hs
    obtain ⟨vs, h2, h⟩ := optK_ex h
    rcases h with ⟨r, h3, h4, h⟩ | h
    · exact .inl ⟨_, .call f ds vs r hs h1 h2 h3 (by simpa using h4), putK_iff.1 h⟩
    · exact .inr h
  · rename_i hs
    split at h
    · rename_i f first cap ds'
      obtain ⟨vs, h2, h⟩ := optK_ex h
      rcases h with ⟨r, h3, h4, h⟩ | h
      · exact .inl ⟨_, .callD f first cap _ vs r hs h1 h2 h3 (by simpa using h4), putK_iff.1 h⟩
      · exact .inr h
    · exact h.elim
  · rename_i f hs
    obtain ⟨x, h2, h⟩ := optK_ex h
    split at h
    · obtain ⟨cs, h3, h⟩ := optK_ex h
      obtain ⟨r, cs', h4, h⟩ := h
      exact .inl ⟨_, .callM f _ _ (.own 0 _ 0 _) _ cs cs' r hs (by rw [h1, splitM_map h2]; rfl) rfl h3 h4, putK_iff.1 h⟩
    · obtain ⟨cs, h3, h⟩ := optK_ex h
      obtain ⟨r, cs', h4, h⟩ := h
      exact .inl ⟨_, .callM f _ _ (.ref 0 0) _ cs cs' r hs (by rw [h1, splitM_map h2]; rfl) rfl h3 h4, putK_iff.1 h⟩
    · exact h.elim
  · rename_i hs; exact ef _ hs (let ⟨st', h1, h2⟩ := h.ex; ⟨st', h1, forceK_iff.2 h2⟩)
  · rename_i hs; exact ef _ hs (optK_ex h)
  · rename_i hs; exact ef _ hs (optK_ex h)
  · rename_i hs; exact ef _ hs (optK_ex h)
  · rename_i hs; exact ef _ hs (let ⟨st', h1, h2⟩ := h.ex; ⟨st', h1, forceK_iff.2 h2⟩)
  · rename_i hs; exact ef _ hs h.ex
  · rename_i hs
    split at h
    · exact ef _ hs h.ex
    · exact rd _ hs h.ex
  · split at h
    · exact rd _ rfl (optK_ex h)
    · exact rd _ rfl h.ex
theorem run0_step {s : SOp} {K : St → Prop} (h : s.run0 P st K) : ∃ st', Step P s st st' ∧ K st' := by
  obtain ⟨ds, h1, h⟩ := optK_ex h
  rcases run1_step h1 h with h | h
  · exact h
  · exact h.elim
/-- A step, objects frozen ahead of it. -/
inductive FStep (P : Program) (s : SOp) : St → St → Prop
  | base {st st' : St} (h : GStep P s st st') : FStep P s st st'
  | fz {st st' : St} (ks : List Nat) (h : FStep P s (st.freezeL ks) st') : FStep P s st st'
  | eqv {st st1 st' : St} (he : Eqv st st1) (h : FStep P s st1 st') : FStep P s st st'
theorem run_step {s : SOp} {K : St → Prop} (h : s.run P false st K) : ∃ st', (Step P s st st' ∨ ∃ ks, Step P s (st.freezeL ks) st') ∧ K st' := by
  obtain ⟨ds, h1, h⟩ := optK_ex h
  split at h
  · rcases run1_step h1 h with ⟨st', h, hk⟩ | h
    · exact ⟨st', .inl h, hk⟩
    · obtain ⟨st', h, hk⟩ := run0_step (forceK_iff.1 h)
      exact ⟨st', .inr ⟨_, h⟩, hk⟩
  · obtain ⟨st', h, hk⟩ := run0_step (forceK_iff.1 h)
    exact ⟨st', .inr ⟨_, h⟩, hk⟩
theorem freezeD_b (objs : List (Nat × List V)) (k : Nat) (v : V) : freezeD objs k (.v v) = .v v := rfl
theorem look_freezeL {g : Nat} {v : V} : ∀ (ks : List Nat) {st : St}, look st.ρ g = some (.v v) → look (st.freezeL ks).ρ g = some (.v v)
  | [], _, h => h
  | k :: ks, st, h => look_freezeL ks (st := st.freeze k) (by simp only [St.freeze]; rw [look_map, h]; rfl)
theorem wp_split {dr : Bool} {kn : List Nat} {s : SOp} {K : St → Prop} (h : s.wp P dr kn st K) :
    ∃ st1, Eqv st st1 ∧ ((∃ st', s.run P dr st1 K ∧ (s.guard = none ∨ ∃ g want, s.guard = some (g, want) ∧ look st1.ρ g = some (.v (.b want))) ∧ st' = st1) ∨ ∃ st', GStep P s st1 st' ∧ K st') := by
  unfold SOp.wp at h
  split at h
  · rename_i hg
    exact ⟨st, .refl _, .inl ⟨st, h, .inl hg, rfl⟩⟩
  · rename_i g want hg
    split at h
    · rename_i x hx
      have main : ∀ st1, Eqv st st1 → (if x = want then s.run P dr st1 K else putK st1 s.dst (.v (.tup [])) K) →
          ∃ st1, Eqv st st1 ∧ ((∃ st', s.run P dr st1 K ∧ (s.guard = none ∨ ∃ g want, s.guard = some (g, want) ∧ look st1.ρ g = some (.v (.b want))) ∧ st' = st1) ∨ ∃ st', GStep P s st1 st' ∧ K st') := fun st1 he h9 => by
        have hx1 := (he.1 g).symm.trans hx
        by_cases hw : x = want
        · rw [if_pos hw] at h9
          exact ⟨st1, he, .inl ⟨st1, h9, .inr ⟨g, want, hg, by rw [hx1, hw]⟩, rfl⟩⟩
        · rw [if_neg hw] at h9
          rw [putK_iff] at h9
          refine ⟨st1, he, .inr ⟨_, .no g want hg ?_, h9⟩⟩
          rw [hx1]
          simpa [isOff] using hw
      split at h
      · exact main st (.refl _) h
      · exact main _ (.known hx) h.get
    · rename_i hx
      exact ⟨st, .refl _, .inr ⟨_, .no g want hg (by rw [hx]; rfl), putK_iff.1 h⟩⟩
    · exact h.elim
theorem wp_gstep {kn : List Nat} {s : SOp} {K : St → Prop} (h : s.wp P true kn st K) : ∃ st1 st', Eqv st st1 ∧ GStep P s st1 st' ∧ K st' := by
  obtain ⟨st1, he, ⟨_, h, hg, _⟩ | ⟨st', h, hk⟩⟩ := wp_split h
  · obtain ⟨st', h, hk⟩ := run0_step h
    exact ⟨st1, st', he, .yes st' h hg, hk⟩
  · exact ⟨st1, st', he, h, hk⟩
theorem wp_fstep {kn : List Nat} {s : SOp} {K : St → Prop} (h : s.wp P false kn st K) : ∃ st', FStep P s st st' ∧ K st' := by
  obtain ⟨st1, he, ⟨_, h, hg, _⟩ | ⟨st', h, hk⟩⟩ := wp_split h
  · obtain ⟨st', h | ⟨ks, h⟩, hk⟩ := run_step h
    · exact ⟨st', .eqv he (.base (.yes st' h hg)), hk⟩
    · refine ⟨st', .eqv he (.fz ks (.base (.yes st' h ?_))), hk⟩
      rcases hg with hg | ⟨g, want, h1, h2⟩
      · exact .inl hg
      · exact .inr ⟨g, want, h1, look_freezeL ks h2⟩
  · exact ⟨st', .eqv he (.base h), hk⟩
theorem CallK.mono {f : FuncId} {vs : List V} {c : Bool} {K K' : V → Prop} {F F' : Prop} (hk : ∀ r, K r → K' r) (hF : F → F') (h : CallK P f vs c K F) : CallK P f vs c K' F' := by
  rcases h with ⟨r, h1, h2, h3⟩ | h
  · exact .mk r h1 h2 (hk r h3)
  · exact .fz (hF h)
theorem MutK.mono {f : FuncId} {pre post cs : List V} {d : D} {K K' : D → List V → Prop} (hk : ∀ r c, K r c → K' r c) (h : MutK P f pre d cs post K) : MutK P f pre d cs post K' := let ⟨r, c, h, h'⟩ := h; ⟨r, c, h, hk _ _ h'⟩
theorem OptK.mono {α : Type} {o : Option α} {K K' : α → Prop} (hk : ∀ x, K x → K' x) (h : OptK o K) : OptK o K' := let ⟨x, h, h'⟩ := h; ⟨x, h, hk x h'⟩
theorem DecK.mono {x : Bool} {K K' : Bool → Prop} (hk : ∀ b, K b → K' b) (h : DecK x K) : DecK x K' := ⟨fun e => hk _ (h.1 e), fun e => hk _ (h.2 e)⟩
theorem optK_mono {α : Type} {o : Option α} {K K' : α → Prop} (hk : ∀ x, K x → K' x) (h : optK o K) : optK o K' := by
  cases o with
  | none => exact h
  | some x => exact hk x h
theorem putK_mono {d : D} {dst : Option Nat} {K K' : St → Prop} (hk : ∀ st, K st → K' st) (h : putK st dst d K) : putK st dst d K' := putK_iff.2 (hk _ (putK_iff.1 h))
theorem forceK_mono {K K' : St → Prop} (hk : ∀ st, K st → K' st) (h : forceK st K) : forceK st K' := forceK_iff.2 (hk _ (forceK_iff.1 h))
theorem SOp.run1_mono {F F' : Prop} {s : SOp} {ds : List D} {K K' : St → Prop} (hF : F → F') (hk : ∀ st, K st → K' st) (h : s.run1 P F st ds K) : s.run1 P F' st ds K' := by
  obtain ⟨dst, guard, so, args⟩ := s
  unfold SOp.run1 at h ⊢
  have gen : ∀ {c : Bool} {o : Option D}, (if c then optK o (fun d => putK st dst d K) else OptK o fun d => putK st dst d K) → (if c then optK o (fun d => putK st dst d K') else OptK o fun d => putK st dst d K') := fun {c o} h => by
    cases c
    · exact OptK.mono (fun _ h => putK_mono hk h) h
    · exact optK_mono (fun _ h => putK_mono hk h) h
  cases so <;> simp only at h ⊢
  case call => exact optK_mono (fun _ h => CallK.mono (fun _ h => putK_mono hk h) hF h) h
  case callD =>
    split at h
    · exact optK_mono (fun _ h => CallK.mono (fun _ h => putK_mono hk h) hF h) h
    · exact h
  case app =>
    split at h
    · rename_i hi
      rw [if_pos hi]
      exact OptK.mono (fun _ h => forceK_mono hk h) h
    · rename_i hi
      rw [if_neg hi]
      exact OptK.mono (fun _ h => putK_mono hk h) h
  case callM =>
    refine optK_mono (fun x h => ?_) h
    split at h
    · exact optK_mono (fun _ h => MutK.mono (fun _ _ h => putK_mono hk h) h) h
    · exact optK_mono (fun _ h => MutK.mono (fun _ _ h => putK_mono hk h) h) h
    · exact h
  case clr => exact OptK.mono (fun _ h => hk _ h) h
  case alloc => exact optK_mono (fun _ h => forceK_mono hk h) h
  case adopt => exact optK_mono (fun _ h => forceK_mono hk h) h
  case box => exact optK_mono (fun _ h => forceK_mono hk h) h
  case st => exact OptK.mono (fun _ h => hk _ h) h
  case mk => exact OptK.mono (fun _ h => forceK_mono hk h) h
  all_goals exact gen h
theorem SOp.run0_mono {s : SOp} {K K' : St → Prop} (hk : ∀ st, K st → K' st) (h : s.run0 P st K) : s.run0 P st K' := optK_mono (fun _ h => SOp.run1_mono (fun h => h) hk h) h
theorem SOp.run_mono {dr : Bool} {s : SOp} {K K' : St → Prop} (hk : ∀ st, K st → K' st) (h : s.run P dr st K) : s.run P dr st K' := by
  cases dr with
  | true => exact SOp.run0_mono hk h
  | false =>
    unfold SOp.run at h ⊢
    refine optK_mono (fun ds h => ?_) h
    split at h
    · exact SOp.run1_mono (fun h => forceK_mono (fun _ h => SOp.run0_mono hk h) h) hk h
    · exact forceK_mono (fun _ h => SOp.run0_mono hk h) h
theorem SOp.wp_mono {dr : Bool} {kn : List Nat} {s : SOp} {K K' : St → Prop} (hk : ∀ st, K st → K' st) (h : s.wp P dr kn st K) : s.wp P dr kn st K' := by
  have main : ∀ st1 (x want : Bool), (if x = want then s.run P dr st1 K else putK st1 s.dst (.v (.tup [])) K) → (if x = want then s.run P dr st1 K' else putK st1 s.dst (.v (.tup [])) K') := fun st1 x want h => by
    split at h
    · rename_i hw; rw [if_pos hw]; exact SOp.run_mono hk h
    · rename_i hw; rw [if_neg hw]; exact putK_mono hk h
  unfold SOp.wp at h ⊢
  split at h
  · exact SOp.run_mono hk h
  · rename_i g want hg
    split at h
    · rename_i x hx
      split at h
      · rename_i hc; rw [if_pos hc]; exact main _ _ _ h
      · rename_i hc; rw [if_neg hc]; exact h.mono fun b h => main _ _ _ h
    · exact putK_mono hk h
    · exact h.elim
theorem opsWP_mono {dr : Bool} : ∀ {l : List SOp} {kn : List Nat} {K K' : St → Prop} {st : St}, (∀ st, K st → K' st) → opsWP P dr kn l K st → opsWP P dr kn l K' st
  | [], _, _, _, _, hk, h => hk _ h
  | s :: l, _, _, _, _, hk, h => SOp.wp_mono (fun _ h => opsWP_mono hk h) h
theorem Rel.sub (h : Rel w0 U E nt st a w η) {st' : St} (hρ : ∀ t d, look st'.ρ t = some d → look st.ρ t = some d ∨ d = .dead ∧ t < nt) (ho : ∀ s cs, look st'.objs s = some cs → look st.objs s = some cs) : Rel w0 U E nt st' a w η := by
  have hok : ∀ b', Ok U st.objs η w b' → Ok U st'.objs η w b' := fun b' hb' => ⟨hb'.1, hb'.2.1, fun s' cs' o' h1 h2 => hb'.2.2 _ _ _ (ho _ _ h1) h2⟩
  have hv : ∀ v u, RepV w (Ok U st.objs η w) v u → RepV w (Ok U st'.objs η w) v u := fun v u hr => hr.mono fun b' hb' => ⟨hok b' hb', rfl⟩
  refine ⟨h.size, h.defers, h.keeps, h.uold, fun t d ht => ?_, fun s' cs' hs' => (h.objs s' cs' (ho _ _ hs')).change rfl hv (fun _ _ _ => rfl), fun s' cs' b o h1 h2 => h.lies _ _ _ _ (ho _ _ h1) h2, fun s1 s2 cs1 cs2 b o o' h1 h2 h3 h4 => h.inj _ _ _ _ _ _ _ (ho _ _ h1) (ho _ _ h2) h3 h4⟩
  rcases hρ t d ht with h1 | ⟨rfl, h1⟩
  · exact ⟨(h.slots t d h1).1, (h.slots t d h1).2.change hv (fun _ => Nat.le_refl _)⟩
  · exact ⟨h1, .dead _⟩
theorem RelX.eqv (he : Eqv st st') (h : RelX w0 U E nt st a w) : RelX w0 U E nt st' a w := by
  obtain ⟨η, h⟩ := h
  exact ⟨η, h.sub (fun t d ht => .inl (by rw [he.1]; exact ht)) (fun s cs hs => by rw [he.2]; exact hs)⟩
/-- What a guard's slot holds, the model sees. -/
theorem wanted_of (hrel : Rel w0 U E nt st a w η) {ops : Array Oper} {o : Oper} {s : SOp} {ad : Ad} (hc : cSOp P nt ad ops o = some s) :
    (s.guard = none → Region.wanted o (yielded ops a.tmps) = true) ∧ ∀ g want, s.guard = some (g, want) → (look st.ρ g = some (.v (.b want)) → Region.wanted o (yielded ops a.tmps) = true) ∧ (isOff want (look st.ρ g) = true → Region.wanted o (yielded ops a.tmps) = false) := by
  obtain ⟨hcc, hc2, hc4, hc5⟩ := cSOp_split hc
  unfold cGuard at hc2
  refine ⟨fun hg => ?_, fun g want hg => ?_⟩
  · rw [hg] at hc2
    split at hc2
    · rename_i h; simp [Region.wanted, h]
    · rw [Option.map_eq_some_iff] at hc2; obtain ⟨_, _, hc2⟩ := hc2; cases hc2
  · rw [hg] at hc2
    split at hc2
    · cases hc2
    · rename_i j want' hj
      simp only [Option.map_eq_some_iff, Option.some.injEq, Prod.mk.injEq] at hc2
      obtain ⟨g', h1, rfl, rfl⟩ := hc2
      have val : ∀ v, look st.ρ g' = some (.v v) → ∃ u, a.tmps[g']? = some u ∧ RepV w (Ok U st.objs η w) v u := fun v hx => by
        obtain ⟨hlt, hr⟩ := hrel.slots _ _ hx
        have hsz := hrel.size
        cases hr with | v _ _ hr =>
        exact ⟨_, by simp [Array.getD_eq_getD_getElem?, Array.getElem?_eq_getElem (show g' < a.tmps.size by omega)], hr⟩
      have bool : ∀ x, look st.ρ g' = some (.v (.b x)) → Region.wanted o (yielded ops a.tmps) = (x == want') := fun x hx => by
        obtain ⟨u, ht, hr⟩ := val _ hx
        cases hr
        simp only [Region.wanted, hj, yielded, h1, Option.bind_some, ht]
        cases x <;> cases want' <;> rfl
      refine ⟨fun hx => by rw [bool _ hx]; simp, fun hx => ?_⟩
      unfold isOff at hx
      split at hx
      · rename_i x hl
        rw [bool _ hl]
        cases x <;> cases want' <;> simp at hx ⊢
      · rename_i hl
        obtain ⟨u, ht, hr⟩ := val _ hl
        cases hr with | tup _ us hl' _ =>
        simp only [Region.wanted, hj, yielded, h1, Option.bind_some, ht]
        rfl
      · cases hx
theorem gstep_sound {ops : Array Oper} {o : Oper} {s : SOp} (hrel : RelX w0 U E nt st a w) {ad : Ad} (hc : cSOp P nt ad ops o = some s) (h : GStep P s st st') {next : Act → World → Prop} {Q : Exit → Act → World → Prop}
    (hk : ∀ u w', RelX w0 U E nt st' (a.put o.dst u) w' → next (a.put o.dst u) w') : if Region.wanted o (yielded ops a.tmps) then o.wp P a w next Q ∨ (o.asks P a w ∧ LetsOut Q) else next (a.put o.dst undef) w := by
  obtain ⟨η, hr⟩ := hrel
  obtain ⟨hw1, hw2⟩ := wanted_of hr hc
  obtain ⟨hcc, hc2, hc4, hc5⟩ := cSOp_split hc
  cases h with
  | yes _ h hg =>
    have : Region.wanted o (yielded ops a.tmps) = true := by
      rcases hg with hg | ⟨g, want, hg, hx⟩
      · exact hw1 hg
      · exact (hw2 g want hg).1 hx
    rw [if_pos this]
    exact .inl (step_sound ⟨η, hr⟩ hc h hk)
  | no g want hg hx =>
    have : Region.wanted o (yielded ops a.tmps) = false := (hw2 g want hg).2 hx
    rw [if_neg (by rw [this]; simp)]
    refine hk _ _ ⟨η, ?_⟩
    rw [← hc4]
    exact hr.put (.v _ _ (.tup [] #[] rfl (fun i v h => by simp at h))) (fun t ht => by rw [hc4] at ht; rw [ht] at hc5; simpa [cDst] using hc5)
theorem fstep_sound {ops : Array Oper} {o : Oper} {s : SOp} {ad : Ad} (hc : cSOp P nt ad ops o = some s) (h : FStep P s st st') {next : Act → World → Prop} {Q : Exit → Act → World → Prop}
    (hk : ∀ u w', RelX w0 U E nt st' (a.put o.dst u) w' → next (a.put o.dst u) w') (hrel : RelX w0 U E nt st a w) : if Region.wanted o (yielded ops a.tmps) then o.wp P a w next Q ∨ (o.asks P a w ∧ LetsOut Q) else next (a.put o.dst undef) w := by
  induction h with
  | base h => exact gstep_sound hrel hc h hk
  | fz ks h ih => exact ih hk (hrel.freezeL ks)
  | eqv he h ih => exact ih hk (hrel.eqv he)
/-- Slots outside D hold what they held. -/
def Frm (D : Nat → Prop) (a0 a : Act) : Prop := ∀ t, ¬ D t → a.tmps.getD t undef = a0.tmps.getD t undef
theorem Frm.refl (D : Nat → Prop) (a : Act) : Frm D a a := fun _ _ => rfl
theorem Frm.put {D : Nat → Prop} {a0 a : Act} {dst : Option Nat} {u : Value} (h : Frm D a0 a) (hd : ∀ t, dst = some t → D t) : Frm D a0 (a.put dst u) := fun t ht => by
  rw [← h t ht]
  cases dst with
  | none => rfl
  | some k =>
    have hk : k ≠ t := fun e => ht (e ▸ hd k rfl)
    simp [Act.put, Array.getD_eq_getD_getElem?, Array.getElem?_setIfInBounds_ne hk]
/-- Operations in the order of the text. -/
theorem ops_sound {ad : Ad} {ops : Array Oper} {Q : Exit → Act → World → Prop} {K : St → Prop} {D : Nat → Prop} {a0 : Act} (hK : ∀ st a w, K st → RelX w0 U E nt st a w → Frm D a0 a → Q .normal a w) : ∀ (l : List Oper) (ss : List SOp) (st : St) (a : Act) (w : World),
    (kn : List Nat) → allSome (l.map (cSOp P nt ad ops)) = some ss → opsWP P false kn ss K st → RelX w0 U E nt st a w → (∀ o ∈ l, ∀ t, o.dst = some t → D t) → Frm D a0 a → wpList P ops Q l a w
  | [], ss, st, a, w, kn, hc, h, hr, _, hf => by cases hc; exact hK _ _ _ h hr hf
  | o :: l, ss, st, a, w, kn, hc, h, hr, hD, hf => by
    simp only [List.map_cons] at hc
    cases hs : cSOp P nt ad ops o with
    | none => simp [hs, allSome] at hc
    | some s =>
      simp only [hs, allSome, Option.map_eq_some_iff] at hc
      obtain ⟨ss', hc, rfl⟩ := hc
      obtain ⟨st', h1, h2⟩ := wp_fstep h
      have := fstep_sound (Q := Q) hs h1 (next := wpList P ops Q l) (fun u w' hr' => ops_sound hK l ss' st' _ w' _ hc h2 hr' (fun o ho => hD o (by simp [ho])) (hf.put (hD o (by simp)))) hr
      exact this
end
end Go.Proofs.Ytdceakejbnolpaa.Sv
