/- How a state turns, and that it still tells what the model's memory holds. No condition. -/
import Derived.Test.YtdceakejbnolpaaSv9
namespace Go.Proofs.Ytdceakejbnolpaa.Sv
open Go Go.RowKit
set_option linter.unusedVariables false
set_option linter.unusedSimpArgs false

def D.ment (s : Nat) : D → Bool
  | .ref s' _ => s' == s
  | .own s' _ _ _ => s' == s
  | _ => false
def killD (s : Nat) (d : D) : D := if d.ment s then .dead else d
def killR (s : Nat) (ρ : List (Nat × D)) : List (Nat × D) := ρ.map fun x => (x.1, killD s x.2)
def upd : List (Nat × List V) → Nat → List V → List (Nat × List V)
  | [], _, _ => []
  | (k, c) :: l, s, n => if k = s then (k, n) :: l else (k, c) :: upd l s n
def St.put (st : St) (dst : Option Nat) (d : D) : St :=
  match dst with
  | none => st
  | some t => ⟨(t, d) :: st.ρ, st.objs⟩
/-- A new object of that name; what named it before is forgotten. -/
def St.fresh (st : St) (s : Nat) (cs : List V) : St := ⟨killR s st.ρ, (s, cs) :: rid st.objs s⟩
theorem look_killR (s : Nat) (ρ : List (Nat × D)) (t : Nat) : look (killR s ρ) t = (look ρ t).map (killD s) := by
  induction ρ with
  | nil => rfl
  | cons x ρ ih =>
    obtain ⟨k, d⟩ := x
    simp only [killR, List.map_cons, look] at ih ⊢
    split
    · rfl
    · exact ih
theorem look_upd (l : List (Nat × List V)) (s : Nat) (n : List V) (t : Nat) : look (upd l s n) t = if t = s then (look l s).map fun _ => n else look l t := by
  induction l with
  | nil => simp [upd, look]
  | cons x l ih =>
    obtain ⟨k, c⟩ := x
    simp only [upd]
    by_cases hk : k = s
    · subst hk
      simp only [if_true, look]
      split <;> simp
    · simp only [hk, if_false, look, ih]
      by_cases ht : t = k
      · subst ht; simp [hk]
      · simp only [ht, if_false]
        split
        · rename_i hts; subst hts; simp [ht]
        · rfl
theorem getD_put (a : Act) (dst : Option Nat) (u : Value) (t : Nat) (nt : Nat) (hs : a.tmps.size = nt) : (a.put dst u).tmps.getD t undef = if dst = some t ∧ t < nt then u else a.tmps.getD t undef := by
  cases dst with
  | none => simp [Act.put]
  | some k =>
    simp only [Act.put, Option.some.injEq]
    by_cases hk : k = t
    · subst hk
      by_cases hlt : k < nt
      · have : k < a.tmps.size := by omega
        simp [hlt, this, Array.getD, hs]
      · have : ¬ k < a.tmps.size := by omega
        simp [hlt, Array.getD, this, hs]
    · simp [hk, Array.getD_eq_getD_getElem?, Array.getElem?_setIfInBounds_ne hk]
theorem put_size (a : Act) (dst : Option Nat) (u : Value) : (a.put dst u).tmps.size = a.tmps.size := by cases dst <;> simp [Act.put]
theorem put_defers (a : Act) (dst : Option Nat) (u : Value) : (a.put dst u).defers = a.defers := by cases dst <;> simp [Act.put]

section
variable {P : Program} {w w0 w' : World} {U E : Nat → Prop} {nt : Nat} {st : St} {a : Act} {η : Eta} {ok : Nat → Prop}
theorem Rel.below (h : Rel w0 U E nt st a w η) (hb : Below w.heap.size w w') : Rel w0 U E nt st a w' η where
  size := h.size
  defers := h.defers
  keeps := h.keeps.below hb
  uold := h.uold
  slots t d ht := ⟨(h.slots t d ht).1, (h.slots t d ht).2.below hb⟩
  objs s cs hs := (h.objs s cs hs).below hb
  lies s cs b o h1 h2 := ⟨(h.lies s cs b o h1 h2).1, Nat.lt_of_lt_of_le (h.lies s cs b o h1 h2).2 hb.size⟩
  inj := h.inj
/-- A value goes into a slot. -/
theorem Rel.put (h : Rel w0 U E nt st a w η) {dst : Option Nat} {d : D} {u : Value} (hd : RepD w (Ok U st.objs η w) η d u) (hn : ∀ t, dst = some t → t < nt) :
    Rel w0 U E nt (st.put dst d) (a.put dst u) w η := by
  cases dst with
  | none => simpa [St.put, Act.put] using h
  | some t =>
    refine ⟨by rw [put_size]; exact h.size, by rw [put_defers]; exact h.defers, h.keeps, h.uold, fun k e hk => ?_, h.objs, h.lies, h.inj⟩
    rw [getD_put _ _ _ _ nt h.size]
    simp only [St.put, look] at hk
    split at hk
    · rename_i hkt
      subst hkt
      cases hk
      exact ⟨hn _ rfl, by rw [if_pos ⟨rfl, hn _ rfl⟩]; exact hd⟩
    · rename_i hkt
      rw [if_neg (by rintro ⟨h1, -⟩; cases h1; exact hkt rfl)]
      exact h.slots k e hk
theorem killD_rep {s : Nat} {d : D} {u : Value} {η' : Eta} {ok' : Nat → Prop} (hη : ∀ s', s' ≠ s → η' s' = η s') (hk : ∀ v u, RepV w ok v u → RepV w' ok' v u)
    (hrow : ∀ s' b o, s' ≠ s → η s' = some (b, o) → rowSize w b ≤ rowSize w' b) (hd : RepD w ok η d u) : RepD w' ok' η' (killD s d) u := by
  unfold killD
  split
  · exact .dead u
  · rename_i hm
    cases hd with
    | v x u hx => exact .v _ _ (hk _ _ hx)
    | ref s' off b o h =>
      simp only [D.ment, beq_iff_eq] at hm
      exact .ref _ _ _ _ (by rw [hη _ hm]; exact h)
    | own0 => exact .own0 _ _ _ _
    | own s' z off len b o cap h hl hc =>
      simp only [D.ment, beq_iff_eq] at hm
      exact .own _ _ _ _ _ _ _ (by rw [hη _ hm]; exact h) hl (Nat.le_trans hc (hrow _ _ _ hm h))
    | dead => exact .dead _
theorem RepO.change {s : Nat} {cs : List V} {η' : Eta} {ok' : Nat → Prop} (hη : η' s = η s) (hk : ∀ v u, RepV w ok v u → RepV w' ok' v u) (hh : ∀ b o, η s = some (b, o) → w'.heap[b]? = w.heap[b]?) (h : RepO w ok η s cs) : RepO w' ok' η' s cs := by
  unfold RepO at h ⊢
  rw [hη]
  cases hs : η s with
  | none => rw [hs] at h; exact h
  | some bo =>
    obtain ⟨b, o⟩ := bo
    rw [hs] at h
    obtain ⟨c, e, fr, h1, h2, h3, h4⟩ := h
    exact ⟨c, e, fr, by rw [hh _ _ hs]; exact h1, h2, h3, fun i v hv => hk _ _ (h4 i v hv)⟩
def Eta.set (η : Eta) (s : Nat) (x : Option (Nat × Nat)) : Eta := fun s' => if s' = s then x else η s'
theorem Eta.set_same {s : Nat} {x : Option (Nat × Nat)} : η.set s x s = x := by simp [Eta.set]
theorem Eta.set_ne {s s' : Nat} {x : Option (Nat × Nat)} (h : s' ≠ s) : η.set s x s' = η s' := by simp [Eta.set, h]
/-- What an object must show: where its cells lie, and that they may be written. -/
def Lies (w : World) (ok : Nat → Prop) (b o : Nat) (cs : List V) : Prop :=
  ∃ c e fr, w.heap[b]? = some (.cells c e fr) ∧ o + cs.length ≤ c.size ∧ (∀ i, o ≤ i → i < c.size → ¬ (fr.1 ≤ i ∧ i < fr.2)) ∧ ∀ (i : Nat) v, cs[i]? = some v → RepV w ok v (c.getD (o + i) undef)
/-- A new object, in a new block (or in none, where it is empty). -/
theorem Rel.fresh (h : Rel w0 U E nt st a w η) (hb : Below w.heap.size w w') {s : Nat} {cs : List V} {x : Option (Nat × Nat)}
    (hx : match x with | none => cs = [] | some (b, o) => w.heap.size ≤ b ∧ b < w'.heap.size ∧ (∀ ok', (∀ b', Ok U st.objs η w b' → ok' b') → Lies w' ok' b o cs)) :
    Rel w0 U E nt (st.fresh s cs) a w' (η.set s x) := by
  have hok : ∀ b', Ok U st.objs η w b' → Ok U ((s, cs) :: rid st.objs s) (η.set s x) w' b' := fun b' hb' => ⟨Nat.lt_of_lt_of_le hb'.1 hb.size, hb'.2.1, fun s' cs' o' h1 h2 => by
    simp only [look] at h1
    split at h1
    · rename_i hs
      subst hs
      rw [Eta.set_same] at h2
      subst h2
      have := hx.1
      have := hb'.1
      omega
    · rename_i hs
      rw [look_rid, if_neg hs] at h1
      rw [Eta.set_ne hs] at h2
      exact hb'.2.2 s' cs' o' h1 h2⟩
  have hv : ∀ v u, RepV w (Ok U st.objs η w) v u → RepV w' (Ok U ((s, cs) :: rid st.objs s) (η.set s x) w') v u := fun v u hr => hr.mono fun b' hb' => ⟨hok b' hb', hb.block b' hb'.1⟩
  refine ⟨h.size, h.defers, h.keeps.below hb, h.uold, fun t d ht => ?_, fun s' cs' hs' => ?_, fun s' cs' b o h1 h2 => ?_, fun s1 s2 cs1 cs2 b o o' h1 h2 h3 h4 => ?_⟩
  · rw [St.fresh, look_killR, Option.map_eq_some_iff] at ht
    obtain ⟨e, he, rfl⟩ := ht
    refine ⟨(h.slots t e he).1, killD_rep (fun s' hs' => Eta.set_ne hs') hv (fun s' b o hs' hη => ?_) (h.slots t e he).2⟩
    rcases Nat.lt_or_ge b w.heap.size with hlt | hge
    · rw [rowSize_below hb hlt]; exact Nat.le_refl _
    · rw [rowSize_pos hge]; exact Nat.zero_le _
  · simp only [St.fresh, look] at hs'
    split at hs'
    · rename_i hss
      subst hss
      cases hs'
      unfold RepO
      rw [Eta.set_same]
      cases x with
      | none => exact hx
      | some bo => exact hx.2.2 _ hok
    · rename_i hss
      rw [look_rid, if_neg hss] at hs'
      exact (h.objs s' cs' hs').change (Eta.set_ne hss) hv (fun b o hη => hb.block b (h.lies s' cs' b o hs' hη).2)
  · simp only [St.fresh, look] at h1
    split at h1
    · rename_i hss
      subst hss
      rw [Eta.set_same] at h2
      subst h2
      exact ⟨.inl (Nat.le_trans h.keeps.size hx.1), hx.2.1⟩
    · rename_i hss
      rw [look_rid, if_neg hss] at h1
      rw [Eta.set_ne hss] at h2
      exact ⟨(h.lies s' cs' b o h1 h2).1, Nat.lt_of_lt_of_le (h.lies s' cs' b o h1 h2).2 hb.size⟩
  · simp only [St.fresh, look] at h1 h2
    split at h1 <;> split at h2
    · rename_i e1 e2; rw [e1, e2]
    · rename_i e1 e2
      subst e1
      rw [Eta.set_same] at h3
      subst h3
      rw [look_rid, if_neg e2] at h2
      rw [Eta.set_ne e2] at h4
      have := (h.lies _ _ _ _ h2 h4).2
      have := hx.1
      omega
    · rename_i e1 e2
      subst e2
      rw [Eta.set_same] at h4
      subst h4
      rw [look_rid, if_neg e1] at h1
      rw [Eta.set_ne e1] at h3
      have := (h.lies _ _ _ _ h1 h3).2
      have := hx.1
      omega
    · rename_i e1 e2
      rw [look_rid, if_neg e1] at h1
      rw [look_rid, if_neg e2] at h2
      rw [Eta.set_ne e1] at h3
      rw [Eta.set_ne e2] at h4
      exact h.inj _ _ _ _ _ _ _ h1 h2 h3 h4
/-- One block of one's own is written; nothing else turns. -/
structure Turn (w w' : World) (b : Nat) : Prop where
  os : w'.os = w.os
  tape : w'.tape = w.tape
  output : w'.output = w.output
  size : w'.heap.size = w.heap.size
  block : ∀ k, k ≠ b → w'.heap[k]? = w.heap[k]?
  row : rowSize w' b = rowSize w b
theorem Turn.rows {b : Nat} (ht : Turn w w' b) (k : Nat) : rowSize w' k = rowSize w k := by
  by_cases hk : k = b
  · subst hk; exact ht.row
  · simp only [rowSize, ht.block k hk]
theorem Turn.keeps {b : Nat} (ht : Turn w w' b) (h : Keeps w0 E w) (hb : w0.heap.size ≤ b ∨ E b) : Keeps w0 E w' := by
  refine ⟨ht.os.trans h.os, ht.tape.trans h.tape, ht.output.trans h.output, by rw [ht.size]; exact h.size, fun k hk hE => (ht.block k ?_).trans (h.block k hk hE), fun k hk => (ht.rows k).trans (h.row k hk)⟩
  intro e
  subst e
  rcases hb with hb | hb
  · omega
  · exact hE hb
theorem RepD.change {d : D} {u : Value} {ok' : Nat → Prop} (hk : ∀ v u, RepV w ok v u → RepV w' ok' v u) (hrow : ∀ b, rowSize w b ≤ rowSize w' b) (h : RepD w ok η d u) : RepD w' ok' η d u := by
  cases h with
  | v x u hx => exact .v _ _ (hk _ _ hx)
  | ref s' off b o h => exact .ref _ _ _ _ h
  | own0 => exact .own0 _ _ _ _
  | own s' z off len b o cap h hl hc => exact .own _ _ _ _ _ _ _ h hl (Nat.le_trans hc (hrow _))
  | dead => exact .dead _
/-- An object's cells are written. -/
theorem Rel.store (h : Rel w0 U E nt st a w η) {s b o : Nat} {cs cs0 : List V} (hs : look st.objs s = some cs0) (hη : η s = some (b, o)) (ht : Turn w w' b)
    (hl : ∀ ok', (∀ b', Ok U st.objs η w b' → ok' b') → Lies w' ok' b o cs) : Rel w0 U E nt ⟨st.ρ, upd st.objs s cs⟩ a w' η := by
  have hlu : ∀ t, look (upd st.objs s cs) t = if t = s then some cs else look st.objs t := fun t => by rw [look_upd, hs]; rfl
  have hok : ∀ b', Ok U st.objs η w b' → Ok U (upd st.objs s cs) η w' b' := fun b' hb' => ⟨by rw [ht.size]; exact hb'.1, hb'.2.1, fun s' cs' o' h1 h2 => by
    rw [hlu] at h1
    split at h1
    · rename_i e; subst e; exact hb'.2.2 _ _ _ hs h2
    · exact hb'.2.2 _ _ _ h1 h2⟩
  have hne : ∀ b', Ok U st.objs η w b' → b' ≠ b := fun b' hb' e => hb'.2.2 s cs0 o hs (by rw [e]; exact hη)
  have hv : ∀ v u, RepV w (Ok U st.objs η w) v u → RepV w' (Ok U (upd st.objs s cs) η w') v u := fun v u hr => hr.mono fun b' hb' => ⟨hok b' hb', ht.block b' (hne b' hb')⟩
  refine ⟨h.size, h.defers, ht.keeps h.keeps (h.lies _ _ _ _ hs hη).1, h.uold, fun t d htt => ?_, fun s' cs' hs' => ?_, fun s' cs' b' o' h1 h2 => ?_, fun s1 s2 cs1 cs2 b' o1 o2 h1 h2 h3 h4 => ?_⟩
  · exact ⟨(h.slots t d htt).1, (h.slots t d htt).2.change hv (fun b => by rw [ht.rows]; exact Nat.le_refl _)⟩
  · simp only at hs'
    rw [hlu] at hs'
    split at hs'
    · rename_i e
      subst e
      cases hs'
      unfold RepO
      rw [hη]
      exact hl _ hok
    · rename_i e
      refine (h.objs s' cs' hs').change rfl hv (fun b' o' hη' => ht.block b' fun eb => ?_)
      subst eb
      exact e (h.inj _ _ _ _ _ _ _ hs' hs hη' hη)
  · simp only at h1
    rw [hlu] at h1
    rw [ht.size]
    split at h1
    · rename_i e; subst e; exact h.lies _ _ _ _ hs h2
    · exact h.lies _ _ _ _ h1 h2
  · simp only at h1 h2
    rw [hlu] at h1 h2
    have g : ∀ s1 cs1, (if s1 = s then some cs else look st.objs s1) = some cs1 → ∃ c, look st.objs s1 = some c := fun s1 cs1 h => by
      split at h
      · rename_i e; subst e; exact ⟨_, hs⟩
      · exact ⟨_, h⟩
    obtain ⟨c1, g1⟩ := g _ _ h1
    obtain ⟨c2, g2⟩ := g _ _ h2
    exact h.inj _ _ _ _ _ _ _ g1 g2 h3 h4
/-- An object grows in its block and goes on under a name of its own. -/
def St.move (st : St) (s0 s : Nat) (cs : List V) : St := ⟨killR s (killR s0 st.ρ), (s, cs) :: rid (rid st.objs s0) s⟩
/-- An object is let go. -/
theorem Rel.drop (h : Rel w0 U E nt st a w η) (s : Nat) : Rel w0 U E nt ⟨killR s st.ρ, rid st.objs s⟩ a w η := by
  have hok : ∀ b', Ok U st.objs η w b' → Ok U (rid st.objs s) η w b' := fun b' hb' => ⟨hb'.1, hb'.2.1, fun s' cs' o' h1 h2 => by
    rw [look_rid] at h1
    split at h1
    · cases h1
    · exact hb'.2.2 _ _ _ h1 h2⟩
  have hv : ∀ v u, RepV w (Ok U st.objs η w) v u → RepV w (Ok U (rid st.objs s) η w) v u := fun v u hr => hr.mono fun b' hb' => ⟨hok b' hb', rfl⟩
  have hl : ∀ s' cs', look (rid st.objs s) s' = some cs' → look st.objs s' = some cs' := fun s' cs' h1 => by
    rw [look_rid] at h1
    split at h1
    · cases h1
    · exact h1
  refine ⟨h.size, h.defers, h.keeps, h.uold, fun t d ht => ?_, fun s' cs' hs' => (h.objs s' cs' (hl _ _ hs')).change rfl hv (fun _ _ _ => rfl), fun s' cs' b o h1 h2 => h.lies _ _ _ _ (hl _ _ h1) h2, fun s1 s2 cs1 cs2 b o o' h1 h2 h3 h4 => h.inj _ _ _ _ _ _ _ (hl _ _ h1) (hl _ _ h2) h3 h4⟩
  rw [look_killR, Option.map_eq_some_iff] at ht
  obtain ⟨e, he, rfl⟩ := ht
  exact ⟨(h.slots t e he).1, killD_rep (fun _ _ => rfl) hv (fun _ _ _ _ _ => Nat.le_refl _) (h.slots t e he).2⟩
theorem Rel.move (h : Rel w0 U E nt st a w η) {s0 s b o0 o : Nat} {cs cs0 : List V} (hs : look st.objs s0 = some cs0) (hη : η s0 = some (b, o0)) (ht : Turn w w' b)
    (hl : ∀ ok', (∀ b', Ok U st.objs η w b' → ok' b') → Lies w' ok' b o cs) : Rel w0 U E nt (st.move s0 s cs) a w' (η.set s (some (b, o))) := by
  have hlk : ∀ t cs', look (rid (rid st.objs s0) s) t = some cs' → t ≠ s ∧ t ≠ s0 ∧ look st.objs t = some cs' := fun t cs' h1 => by
    rw [look_rid] at h1
    split at h1
    · cases h1
    · rename_i e1
      rw [look_rid] at h1
      split at h1
      · cases h1
      · rename_i e2; exact ⟨e1, e2, h1⟩
  have hne : ∀ b', Ok U st.objs η w b' → b' ≠ b := fun b' hb' e => hb'.2.2 s0 cs0 o0 hs (by rw [e]; exact hη)
  have hok : ∀ b', Ok U st.objs η w b' → Ok U ((s, cs) :: rid (rid st.objs s0) s) (η.set s (some (b, o))) w' b' := fun b' hb' => ⟨by rw [ht.size]; exact hb'.1, hb'.2.1, fun s' cs' o' h1 h2 => by
    simp only [look] at h1
    split at h1
    · rename_i e
      subst e
      rw [Eta.set_same] at h2
      cases h2
      exact hne _ hb' rfl
    · rename_i e
      obtain ⟨g1, g2, g3⟩ := hlk _ _ h1
      rw [Eta.set_ne g1] at h2
      exact hb'.2.2 _ _ _ g3 h2⟩
  have hv : ∀ v u, RepV w (Ok U st.objs η w) v u → RepV w' (Ok U ((s, cs) :: rid (rid st.objs s0) s) (η.set s (some (b, o))) w') v u := fun v u hr => hr.mono fun b' hb' => ⟨hok b' hb', ht.block b' (hne b' hb')⟩
  refine ⟨h.size, h.defers, ht.keeps h.keeps (h.lies _ _ _ _ hs hη).1, h.uold, fun t d htt => ?_, fun s' cs' hs' => ?_, fun s' cs' b' o' h1 h2 => ?_, fun s1 s2 cs1 cs2 b' o1 o2 h1 h2 h3 h4 => ?_⟩
  · simp only [St.move] at htt
    rw [look_killR, look_killR, Option.map_map, Option.map_eq_some_iff] at htt
    obtain ⟨e, he, rfl⟩ := htt
    have hr := (h.slots t e he).2
    have h1 : RepD w (Ok U st.objs η w) η (killD s0 e) (a.tmps.getD t undef) := killD_rep (fun _ _ => rfl) (fun _ _ h => h) (fun _ _ _ _ _ => Nat.le_refl _) hr
    exact ⟨(h.slots t e he).1, killD_rep (fun s' hs' => Eta.set_ne hs') hv (fun s' b' o' _ _ => by rw [ht.rows]; exact Nat.le_refl _) h1⟩
  · simp only [St.move, look] at hs'
    split at hs'
    · rename_i e
      subst e
      cases hs'
      unfold RepO
      rw [Eta.set_same]
      exact hl _ hok
    · rename_i e
      obtain ⟨g1, g2, g3⟩ := hlk _ _ hs'
      refine (h.objs s' cs' g3).change (Eta.set_ne g1) hv (fun b' o' hη' => ht.block b' fun eb => ?_)
      subst eb
      exact g2 (h.inj _ _ _ _ _ _ _ g3 hs hη' hη)
  · simp only [St.move, look] at h1
    rw [ht.size]
    split at h1
    · rename_i e
      subst e
      rw [Eta.set_same] at h2
      cases h2
      exact h.lies _ _ _ _ hs hη
    · obtain ⟨g1, g2, g3⟩ := hlk _ _ h1
      rw [Eta.set_ne g1] at h2
      exact h.lies _ _ _ _ g3 h2
  · simp only [St.move, look] at h1 h2
    split at h1 <;> split at h2
    · rename_i e1 e2; rw [e1, e2]
    · rename_i e1 e2
      subst e1
      rw [Eta.set_same] at h3
      cases h3
      obtain ⟨g1, g2, g3⟩ := hlk _ _ h2
      rw [Eta.set_ne g1] at h4
      exact absurd (h.inj _ _ _ _ _ _ _ g3 hs h4 hη) g2
    · rename_i e1 e2
      subst e2
      rw [Eta.set_same] at h4
      cases h4
      obtain ⟨g1, g2, g3⟩ := hlk _ _ h1
      rw [Eta.set_ne g1] at h3
      exact absurd (h.inj _ _ _ _ _ _ _ g3 hs h3 hη) g2
    · obtain ⟨g1, g2, g3⟩ := hlk _ _ h1
      obtain ⟨k1, k2, k3⟩ := hlk _ _ h2
      rw [Eta.set_ne g1] at h3
      rw [Eta.set_ne k1] at h4
      exact h.inj _ _ _ _ _ _ _ g3 k3 h3 h4
end
end Go.Proofs.Ytdceakejbnolpaa.Sv
