/- How a state turns, and that it still tells what the model's memory holds. No condition. -/
import Derived.Test.YtljcbmnkjiogmaaDoorWa
import Derived.RangeFuncSeq
/-! How a state turns, and that it still tells what the model's memory holds. -/
namespace Go.Proofs.YtljcbmnkjiogmaaDoor.Sv
open Go Go.RowKit
set_option linter.unusedVariables false
set_option linter.unusedSimpArgs false

def D.ment (s : Nat) : D → Bool
  | .ref s' _ => s' == s
  | .own s' _ _ _ => s' == s
  | _ => false
def killD (s : Nat) (d : D) : D := if d.ment s then .dead else d
def killR (s : Nat) (ρ : List (Nat × D)) : List (Nat × D) := ρ.map fun x => (x.1, killD s x.2)
def upd : List (Nat × List V) → Nat → List V → List (Nat × List V)
  | [], _, _ => []
  | (k, c) :: l, s, n => if k = s then (k, n) :: l else (k, c) :: upd l s n
def St.put (st : St) (dst : Option Nat) (d : D) : St :=
  match dst with
  | none => st
  | some t => ⟨(t, d) :: st.ρ, st.objs⟩
/-- A new object of that name; what named it before is forgotten. -/
def St.fresh (st : St) (s : Nat) (cs : List V) : St := ⟨killR s st.ρ, (s, cs) :: rid st.objs s⟩
theorem look_killR (s : Nat) (ρ : List (Nat × D)) (t : Nat) : look (killR s ρ) t = (look ρ t).map (killD s) := by
  induction ρ with
  | nil => rfl
  | cons x ρ ih =>
    obtain ⟨k, d⟩ := x
    simp only [killR, List.map_cons, look] at ih ⊢
    split
    · rfl
    · exact ih
theorem look_upd (l : List (Nat × List V)) (s : Nat) (n : List V) (t : Nat) : look (upd l s n) t = if t = s then (look l s).map fun _ => n else look l t := by
  induction l with
  | nil => simp [upd, look]
  | cons x l ih =>
    obtain ⟨k, c⟩ := x
    simp only [upd]
    by_cases hk : k = s
    · subst hk
      simp only [if_true, look]
      split <;> simp
    · simp only [hk, if_false, look, ih]
      by_cases ht : t = k
      · subst ht; simp [hk]
      · simp only [ht, if_false]
        split
        · rename_i hts; subst hts; simp [ht]
        · rfl
theorem getD_put (a : Act) (dst : Option Nat) (u : Value) (t : Nat) (nt : Nat) (hs : a.tmps.size = nt) : (a.put dst u).tmps.getD t undef = if dst = some t ∧ t < nt then u else a.tmps.getD t undef := by
  cases dst with
  | none => simp [Act.put]
  | some k =>
    simp only [Act.put, Option.some.injEq]
    by_cases hk : k = t
    · subst hk
      by_cases hlt : k < nt
      · have : k < a.tmps.size := by omega
        simp [hlt, this, Array.getD, hs]
      · have : ¬ k < a.tmps.size := by omega
        simp [hlt, Array.getD, this, hs]
    · simp [hk, Array.getD_eq_getD_getElem?, Array.getElem?_setIfInBounds_ne hk]
theorem put_size (a : Act) (dst : Option Nat) (u : Value) : (a.put dst u).tmps.size = a.tmps.size := by cases dst <;> simp [Act.put]
theorem put_defers (a : Act) (dst : Option Nat) (u : Value) : (a.put dst u).defers = a.defers := by cases dst <;> simp [Act.put]

section
variable {P : Program} {w w0 w' : World} {U E : Nat → Prop} {nt : Nat} {st : St} {a : Act} {η : Eta} {ok : Nat → Prop}
theorem Rel.below (h : Rel w0 U E nt st a w η) (hb : Below w.heap.size w w') : Rel w0 U E nt st a w' η where
  size := h.size
  defers := h.defers
  keeps := h.keeps.below hb
  uold := h.uold
  slots t d ht := ⟨(h.slots t d ht).1, (h.slots t d ht).2.below hb⟩
  objs s cs hs := (h.objs s cs hs).below hb
  lies s cs b o h1 h2 := ⟨(h.lies s cs b o h1 h2).1, Nat.lt_of_lt_of_le (h.lies s cs b o h1 h2).2 hb.size⟩
  inj := h.inj
/-- A value goes into a slot. -/
theorem Rel.put (h : Rel w0 U E nt st a w η) {dst : Option Nat} {d : D} {u : Value} (hd : RepD w (Ok U st.objs η w) η d u) (hn : ∀ t, dst = some t → t < nt) :
    Rel w0 U E nt (st.put dst d) (a.put dst u) w η := by
  cases dst with
  | none => simpa [St.put, Act.put] using h
  | some t =>
    refine ⟨by rw [put_size]; exact h.size, by rw [put_defers]; exact h.defers, h.keeps, h.uold, fun k e hk => ?_, h.objs, h.lies, h.inj⟩
    rw [getD_put _ _ _ _ nt h.size]
    simp only [St.put, look] at hk
    split at hk
    · rename_i hkt
      subst hkt
      cases hk
      exact ⟨hn _ rfl, by rw [if_pos ⟨rfl, hn _ rfl⟩]; exact hd⟩
    · rename_i hkt
      rw [if_neg (by rintro ⟨h1, -⟩; cases h1; exact hkt rfl)]
      exact h.slots k e hk
theorem killD_rep {s : Nat} {d : D} {u : Value} {η' : Eta} {ok' : Nat → Prop} (hη : ∀ s', s' ≠ s → η' s' = η s') (hk : ∀ v u, RepV w ok v u → RepV w' ok' v u)
    (hrow : ∀ s' b o, s' ≠ s → η s' = some (b, o) → rowSize w b ≤ rowSize w' b) (hd : RepD w ok η d u) : RepD w' ok' η' (killD s d) u := by
  unfold killD
  split
  · exact .dead u
  · rename_i hm
    cases hd with
    | v x u hx => exact .v _ _ (hk _ _ hx)
    | ref s' off b o h =>
      simp only [D.ment, beq_iff_eq] at hm
      exact .ref _ _ _ _ (by rw [hη _ hm]; exact h)
    | own0 => exact .own0 _ _ _ _
    | own s' z off len b o cap h hl hc =>
      simp only [D.ment, beq_iff_eq] at hm
      exact .own _ _ _ _ _ _ _ (by rw [hη _ hm]; exact h) hl (Nat.le_trans hc (hrow _ _ _ hm h))
    | dead => exact .dead _
theorem RepO.change {s : Nat} {cs : List V} {η' : Eta} {ok' : Nat → Prop} (hη : η' s = η s) (hk : ∀ v u, RepV w ok v u → RepV w' ok' v u) (hh : ∀ b o, η s = some (b, o) → w'.heap[b]? = w.heap[b]?) (h : RepO w ok η s cs) : RepO w' ok' η' s cs := by
  unfold RepO at h ⊢
  rw [hη]
  cases hs : η s with
  | none => rw [hs] at h; exact h
  | some bo =>
    obtain ⟨b, o⟩ := bo
    rw [hs] at h
    obtain ⟨c, e, fr, h1, h2, h3, h4⟩ := h
    exact ⟨c, e, fr, by rw [hh _ _ hs]; exact h1, h2, h3, fun i v hv => hk _ _ (h4 i v hv)⟩
def Eta.set (η : Eta) (s : Nat) (x : Option (Nat × Nat)) : Eta := fun s' => if s' = s then x else η s'
theorem Eta.set_same {s : Nat} {x : Option (Nat × Nat)} : η.set s x s = x := by simp [Eta.set]
theorem Eta.set_ne {s s' : Nat} {x : Option (Nat × Nat)} (h : s' ≠ s) : η.set s x s' = η s' := by simp [Eta.set, h]
/-- What an object must show: where its cells lie, and that they may be written. -/
def Lies (w : World) (ok : Nat → Prop) (b o : Nat) (cs : List V) : Prop :=
  ∃ c e fr, w.heap[b]? = some (.cells c e fr) ∧ o + cs.length ≤ c.size ∧ frOk fr c.size ∧ ∀ (i : Nat) v, cs[i]? = some v → RepV w ok v (c.getD (o + i) undef)
/-- A new object, in a new block (or in none, where it is empty). -/
theorem Rel.fresh (h : Rel w0 U E nt st a w η) (hb : Below w.heap.size w w') {s : Nat} {cs : List V} {x : Option (Nat × Nat)}
    (hx : match x with | none => cs = [] | some (b, o) => w.heap.size ≤ b ∧ b < w'.heap.size ∧ (∀ ok', (∀ b', Ok U st.objs η w b' → ok' b') → Lies w' ok' b o cs)) :
    Rel w0 U E nt (st.fresh s cs) a w' (η.set s x) := by
  have hok : ∀ b', Ok U st.objs η w b' → Ok U ((s, cs) :: rid st.objs s) (η.set s x) w' b' := fun b' hb' => ⟨Nat.lt_of_lt_of_le hb'.1 hb.size, hb'.2.1, fun s' cs' o' h1 h2 => by
    simp only [look] at h1
    split at h1
    · rename_i hs
      subst hs
      rw [Eta.set_same] at h2
      subst h2
      have := hx.1
      have := hb'.1
      omega
    · rename_i hs
      rw [look_rid, if_neg hs] at h1
      rw [Eta.set_ne hs] at h2
      exact hb'.2.2 s' cs' o' h1 h2⟩
  have hv : ∀ v u, RepV w (Ok U st.objs η w) v u → RepV w' (Ok U ((s, cs) :: rid st.objs s) (η.set s x) w') v u := fun v u hr => hr.mono fun b' hb' => ⟨hok b' hb', hb.block b' hb'.1⟩
  refine ⟨h.size, h.defers, h.keeps.below hb, h.uold, fun t d ht => ?_, fun s' cs' hs' => ?_, fun s' cs' b o h1 h2 => ?_, fun s1 s2 cs1 cs2 b o o' h1 h2 h3 h4 => ?_⟩
  · rw [St.fresh, look_killR, Option.map_eq_some_iff] at ht
    obtain ⟨e, he, rfl⟩ := ht
    refine ⟨(h.slots t e he).1, killD_rep (fun s' hs' => Eta.set_ne hs') hv (fun s' b o hs' hη => ?_) (h.slots t e he).2⟩
    rcases Nat.lt_or_ge b w.heap.size with hlt | hge
    · rw [rowSize_below hb hlt]; exact Nat.le_refl _
    · rw [rowSize_pos hge]; exact Nat.zero_le _
  · simp only [St.fresh, look] at hs'
    split at hs'
    · rename_i hss
      subst hss
      cases hs'
      unfold RepO
      rw [Eta.set_same]
      cases x with
      | none => exact hx
      | some bo => exact hx.2.2 _ hok
    · rename_i hss
      rw [look_rid, if_neg hss] at hs'
      exact (h.objs s' cs' hs').change (Eta.set_ne hss) hv (fun b o hη => hb.block b (h.lies s' cs' b o hs' hη).2)
  · simp only [St.fresh, look] at h1
    split at h1
    · rename_i hss
      subst hss
      rw [Eta.set_same] at h2
      subst h2
      exact ⟨.inl (Nat.le_trans h.keeps.size hx.1), hx.2.1⟩
    · rename_i hss
      rw [look_rid, if_neg hss] at h1
      rw [Eta.set_ne hss] at h2
      exact ⟨(h.lies s' cs' b o h1 h2).1, Nat.lt_of_lt_of_le (h.lies s' cs' b o h1 h2).2 hb.size⟩
  · simp only [St.fresh, look] at h1 h2
    split at h1 <;> split at h2
    · rename_i e1 e2; rw [e1, e2]
    · rename_i e1 e2
      subst e1
      rw [Eta.set_same] at h3
      subst h3
      rw [look_rid, if_neg e2] at h2
      rw [Eta.set_ne e2] at h4
      have := (h.lies _ _ _ _ h2 h4).2
      have := hx.1
      omega
    · rename_i e1 e2
      subst e2
      rw [Eta.set_same] at h4
      subst h4
      rw [look_rid, if_neg e1] at h1
      rw [Eta.set_ne e1] at h3
      have := (h.lies _ _ _ _ h1 h3).2
      have := hx.1
      omega
    · rename_i e1 e2
      rw [look_rid, if_neg e1] at h1
      rw [look_rid, if_neg e2] at h2
      rw [Eta.set_ne e1] at h3
      rw [Eta.set_ne e2] at h4
      exact h.inj _ _ _ _ _ _ _ h1 h2 h3 h4
/-- One block of one's own is written; nothing else turns. -/
structure Turn (w w' : World) (b : Nat) : Prop where
  os : w'.os = w.os
  tape : w'.tape = w.tape
  output : w'.output = w.output
  size : w'.heap.size = w.heap.size
  block : ∀ k, k ≠ b → w'.heap[k]? = w.heap[k]?
  row : rowSize w' b = rowSize w b
theorem Turn.rows {b : Nat} (ht : Turn w w' b) (k : Nat) : rowSize w' k = rowSize w k := by
  by_cases hk : k = b
  · subst hk; exact ht.row
  · simp only [rowSize, ht.block k hk]
theorem Turn.keeps {b : Nat} (ht : Turn w w' b) (h : Keeps w0 E w) (hb : w0.heap.size ≤ b ∨ E b) : Keeps w0 E w' := by
  refine ⟨h.laid, h.apart, ht.os.trans h.os, ht.tape.trans h.tape, ht.output.trans h.output, by rw [ht.size]; exact h.size, fun k hk hE => (ht.block k ?_).trans (h.block k hk hE), fun k hk => (ht.rows k).trans (h.row k hk)⟩
  intro e
  subst e
  rcases hb with hb | hb
  · omega
  · exact hE hb
theorem RepD.change {d : D} {u : Value} {ok' : Nat → Prop} (hk : ∀ v u, RepV w ok v u → RepV w' ok' v u) (hrow : ∀ b, rowSize w b ≤ rowSize w' b) (h : RepD w ok η d u) : RepD w' ok' η d u := by
  cases h with
  | v x u hx => exact .v _ _ (hk _ _ hx)
  | ref s' off b o h => exact .ref _ _ _ _ h
  | own0 => exact .own0 _ _ _ _
  | own s' z off len b o cap h hl hc => exact .own _ _ _ _ _ _ _ h hl (Nat.le_trans hc (hrow _))
  | dead => exact .dead _
/-- An object's cells are written. -/
theorem Rel.store (h : Rel w0 U E nt st a w η) {s b o : Nat} {cs cs0 : List V} (hs : look st.objs s = some cs0) (hη : η s = some (b, o)) (ht : Turn w w' b)
    (hl : ∀ ok', (∀ b', Ok U st.objs η w b' → ok' b') → Lies w' ok' b o cs) : Rel w0 U E nt ⟨st.ρ, upd st.objs s cs⟩ a w' η := by
  have hlu : ∀ t, look (upd st.objs s cs) t = if t = s then some cs else look st.objs t := fun t => by rw [look_upd, hs]; rfl
  have hok : ∀ b', Ok U st.objs η w b' → Ok U (upd st.objs s cs) η w' b' := fun b' hb' => ⟨by rw [ht.size]; exact hb'.1, hb'.2.1, fun s' cs' o' h1 h2 => by
    rw [hlu] at h1
    split at h1
    · rename_i e; subst e; exact hb'.2.2 _ _ _ hs h2
    · exact hb'.2.2 _ _ _ h1 h2⟩
  have hne : ∀ b', Ok U st.objs η w b' → b' ≠ b := fun b' hb' e => hb'.2.2 s cs0 o hs (by rw [e]; exact hη)
  have hv : ∀ v u, RepV w (Ok U st.objs η w) v u → RepV w' (Ok U (upd st.objs s cs) η w') v u := fun v u hr => hr.mono fun b' hb' => ⟨hok b' hb', ht.block b' (hne b' hb')⟩
  refine ⟨h.size, h.defers, ht.keeps h.keeps (h.lies _ _ _ _ hs hη).1, h.uold, fun t d htt => ?_, fun s' cs' hs' => ?_, fun s' cs' b' o' h1 h2 => ?_, fun s1 s2 cs1 cs2 b' o1 o2 h1 h2 h3 h4 => ?_⟩
  · exact ⟨(h.slots t d htt).1, (h.slots t d htt).2.change hv (fun b => by rw [ht.rows]; exact Nat.le_refl _)⟩
  · simp only at hs'
    rw [hlu] at hs'
    split at hs'
    · rename_i e
      subst e
      cases hs'
      unfold RepO
      rw [hη]
      exact hl _ hok
    · rename_i e
      refine (h.objs s' cs' hs').change rfl hv (fun b' o' hη' => ht.block b' fun eb => ?_)
      subst eb
      exact e (h.inj _ _ _ _ _ _ _ hs' hs hη' hη)
  · simp only at h1
    rw [hlu] at h1
    rw [ht.size]
    split at h1
    · rename_i e; subst e; exact h.lies _ _ _ _ hs h2
    · exact h.lies _ _ _ _ h1 h2
  · simp only at h1 h2
    rw [hlu] at h1 h2
    have g : ∀ s1 cs1, (if s1 = s then some cs else look st.objs s1) = some cs1 → ∃ c, look st.objs s1 = some c := fun s1 cs1 h => by
      split at h
      · rename_i e; subst e; exact ⟨_, hs⟩
      · exact ⟨_, h⟩
    obtain ⟨c1, g1⟩ := g _ _ h1
    obtain ⟨c2, g2⟩ := g _ _ h2
    exact h.inj _ _ _ _ _ _ _ g1 g2 h3 h4
/-- An object grows in its block and goes on under a name of its own. -/
def St.move (st : St) (s0 s : Nat) (cs : List V) : St := ⟨killR s (killR s0 st.ρ), (s, cs) :: rid (rid st.objs s0) s⟩
/-- An object is let go. -/
theorem Rel.drop (h : Rel w0 U E nt st a w η) (s : Nat) : Rel w0 U E nt ⟨killR s st.ρ, rid st.objs s⟩ a w η := by
  have hok : ∀ b', Ok U st.objs η w b' → Ok U (rid st.objs s) η w b' := fun b' hb' => ⟨hb'.1, hb'.2.1, fun s' cs' o' h1 h2 => by
    rw [look_rid] at h1
    split at h1
    · cases h1
    · exact hb'.2.2 _ _ _ h1 h2⟩
  have hv : ∀ v u, RepV w (Ok U st.objs η w) v u → RepV w (Ok U (rid st.objs s) η w) v u := fun v u hr => hr.mono fun b' hb' => ⟨hok b' hb', rfl⟩
  have hl : ∀ s' cs', look (rid st.objs s) s' = some cs' → look st.objs s' = some cs' := fun s' cs' h1 => by
    rw [look_rid] at h1
    split at h1
    · cases h1
    · exact h1
  refine ⟨h.size, h.defers, h.keeps, h.uold, fun t d ht => ?_, fun s' cs' hs' => (h.objs s' cs' (hl _ _ hs')).change rfl hv (fun _ _ _ => rfl), fun s' cs' b o h1 h2 => h.lies _ _ _ _ (hl _ _ h1) h2, fun s1 s2 cs1 cs2 b o o' h1 h2 h3 h4 => h.inj _ _ _ _ _ _ _ (hl _ _ h1) (hl _ _ h2) h3 h4⟩
  rw [look_killR, Option.map_eq_some_iff] at ht
  obtain ⟨e, he, rfl⟩ := ht
  exact ⟨(h.slots t e he).1, killD_rep (fun _ _ => rfl) hv (fun _ _ _ _ _ => Nat.le_refl _) (h.slots t e he).2⟩
theorem Rel.move (h : Rel w0 U E nt st a w η) {s0 s b o0 o : Nat} {cs cs0 : List V} (hs : look st.objs s0 = some cs0) (hη : η s0 = some (b, o0)) (ht : Turn w w' b)
    (hl : ∀ ok', (∀ b', Ok U st.objs η w b' → ok' b') → Lies w' ok' b o cs) : Rel w0 U E nt (st.move s0 s cs) a w' (η.set s (some (b, o))) := by
  have hlk : ∀ t cs', look (rid (rid st.objs s0) s) t = some cs' → t ≠ s ∧ t ≠ s0 ∧ look st.objs t = some cs' := fun t cs' h1 => by
    rw [look_rid] at h1
    split at h1
    · cases h1
    · rename_i e1
      rw [look_rid] at h1
      split at h1
      · cases h1
      · rename_i e2; exact ⟨e1, e2, h1⟩
  have hne : ∀ b', Ok U st.objs η w b' → b' ≠ b := fun b' hb' e => hb'.2.2 s0 cs0 o0 hs (by rw [e]; exact hη)
  have hok : ∀ b', Ok U st.objs η w b' → Ok U ((s, cs) :: rid (rid st.objs s0) s) (η.set s (some (b, o))) w' b' := fun b' hb' => ⟨by rw [ht.size]; exact hb'.1, hb'.2.1, fun s' cs' o' h1 h2 => by
    simp only [look] at h1
    split at h1
    · rename_i e
      subst e
      rw [Eta.set_same] at h2
      cases h2
      exact hne _ hb' rfl
    · rename_i e
      obtain ⟨g1, g2, g3⟩ := hlk _ _ h1
      rw [Eta.set_ne g1] at h2
      exact hb'.2.2 _ _ _ g3 h2⟩
  have hv : ∀ v u, RepV w (Ok U st.objs η w) v u → RepV w' (Ok U ((s, cs) :: rid (rid st.objs s0) s) (η.set s (some (b, o))) w') v u := fun v u hr => hr.mono fun b' hb' => ⟨hok b' hb', ht.block b' (hne b' hb')⟩
  refine ⟨h.size, h.defers, ht.keeps h.keeps (h.lies _ _ _ _ hs hη).1, h.uold, fun t d htt => ?_, fun s' cs' hs' => ?_, fun s' cs' b' o' h1 h2 => ?_, fun s1 s2 cs1 cs2 b' o1 o2 h1 h2 h3 h4 => ?_⟩
  · simp only [St.move] at htt
    rw [look_killR, look_killR, Option.map_map, Option.map_eq_some_iff] at htt
    obtain ⟨e, he, rfl⟩ := htt
    have hr := (h.slots t e he).2
    have h1 : RepD w (Ok U st.objs η w) η (killD s0 e) (a.tmps.getD t undef) := killD_rep (fun _ _ => rfl) (fun _ _ h => h) (fun _ _ _ _ _ => Nat.le_refl _) hr
    exact ⟨(h.slots t e he).1, killD_rep (fun s' hs' => Eta.set_ne hs') hv (fun s' b' o' _ _ => by rw [ht.rows]; exact Nat.le_refl _) h1⟩
  · simp only [St.move, look] at hs'
    split at hs'
    · rename_i e
      subst e
      cases hs'
      unfold RepO
      rw [Eta.set_same]
      exact hl _ hok
    · rename_i e
      obtain ⟨g1, g2, g3⟩ := hlk _ _ hs'
      refine (h.objs s' cs' g3).change (Eta.set_ne g1) hv (fun b' o' hη' => ht.block b' fun eb => ?_)
      subst eb
      exact g2 (h.inj _ _ _ _ _ _ _ g3 hs hη' hη)
  · simp only [St.move, look] at h1
    rw [ht.size]
    split at h1
    · rename_i e
      subst e
      rw [Eta.set_same] at h2
      cases h2
      exact h.lies _ _ _ _ hs hη
    · obtain ⟨g1, g2, g3⟩ := hlk _ _ h1
      rw [Eta.set_ne g1] at h2
      exact h.lies _ _ _ _ g3 h2
  · simp only [St.move, look] at h1 h2
    split at h1 <;> split at h2
    · rename_i e1 e2; rw [e1, e2]
    · rename_i e1 e2
      subst e1
      rw [Eta.set_same] at h3
      cases h3
      obtain ⟨g1, g2, g3⟩ := hlk _ _ h2
      rw [Eta.set_ne g1] at h4
      exact absurd (h.inj _ _ _ _ _ _ _ g3 hs h4 hη) g2
    · rename_i e1 e2
      subst e2
      rw [Eta.set_same] at h4
      cases h4
      obtain ⟨g1, g2, g3⟩ := hlk _ _ h1
      rw [Eta.set_ne g1] at h3
      exact absurd (h.inj _ _ _ _ _ _ _ g3 hs h3 hη) g2
    · obtain ⟨g1, g2, g3⟩ := hlk _ _ h1
      obtain ⟨k1, k2, k3⟩ := hlk _ _ h2
      rw [Eta.set_ne g1] at h3
      rw [Eta.set_ne k1] at h4
      exact h.inj _ _ _ _ _ _ _ g3 k3 h3 h4
end
end Go.Proofs.YtljcbmnkjiogmaaDoor.Sv
/-! The operations that make and write objects do in the model what is said of them. -/
namespace Go.Proofs.YtljcbmnkjiogmaaDoor.Sv
open Go Go.RowKit
set_option linter.unusedVariables false
set_option linter.unusedSimpArgs false

def setA : Array Value → Nat → List Value → Array Value
  | c, _, [] => c
  | c, o, v :: vs => setA (c.setIfInBounds o v) (o + 1) vs
theorem setA_size : ∀ (vs : List Value) (c : Array Value) (o : Nat), (setA c o vs).size = c.size
  | [], c, o => rfl
  | v :: vs, c, o => by simp [setA, setA_size vs]
theorem setA_get : ∀ (vs : List Value) (c : Array Value) (o j : Nat), o + vs.length ≤ c.size → (setA c o vs)[j]? = if o ≤ j ∧ j < o + vs.length then vs[j - o]? else c[j]?
  | [], c, o, j, h => by
    simp only [setA, List.length_nil, Nat.add_zero]
    rw [if_neg (by omega)]
  | v :: vs, c, o, j, h => by
    simp only [List.length_cons] at h
    rw [setA, setA_get vs _ _ _ (by simp; omega)]
    by_cases h1 : o + 1 ≤ j ∧ j < o + 1 + vs.length
    · rw [if_pos h1, if_pos (by simp; omega), show j - o = (j - (o + 1)) + 1 by omega]
      rfl
    · rw [if_neg h1]
      by_cases h2 : o = j
      · subst h2
        rw [if_pos (by simp)]
        have : o < c.size := by omega
        simp [this]
      · rw [Array.getElem?_setIfInBounds_ne h2, if_neg (by simp; omega)]
theorem setL_get : ∀ (vs cs : List V) (o j : Nat), o + vs.length ≤ cs.length → (setL cs o vs)[j]? = if o ≤ j ∧ j < o + vs.length then vs[j - o]? else cs[j]?
  | [], cs, o, j, h => by
    simp only [setL, List.length_nil, Nat.add_zero]
    rw [if_neg (by omega)]
  | v :: vs, cs, o, j, h => by
    simp only [List.length_cons] at h
    rw [setL, setL_get vs _ _ _ (by simp; omega)]
    by_cases h1 : o + 1 ≤ j ∧ j < o + 1 + vs.length
    · rw [if_pos h1, if_pos (by simp; omega), show j - o = (j - (o + 1)) + 1 by omega]
      rfl
    · rw [if_neg h1]
      by_cases h2 : o = j
      · subst h2
        rw [if_pos (by simp), List.getElem?_set_self (by omega)]
        simp
      · rw [List.getElem?_set_ne h2, if_neg (by simp; omega)]
section
variable {P : Program} {w w0 w' : World} {U E : Nat → Prop} {nt : Nat} {st : St} {a : Act} {η : Eta} {ok : Nat → Prop}
theorem one_rep {v : V} {u : Value} (h : RepV w ok v u) (hv : v.one = true) : u.oneCell' = true := by
  cases h <;> first | rfl | (simp [V.one] at hv)
theorem run_storeCells (b : Nat) : ∀ (vs : List Value) (o i : Nat) (c : Array Value) (e : TypeId) (fr : Nat × Nat) (w : World), w.heap[b]? = some (.cells c e fr) → o + i + vs.length ≤ c.size →
    (∀ j, o + i ≤ j → j < c.size → ¬ (fr.1 ≤ j ∧ j < fr.2)) → (∀ v ∈ vs, v.oneCell' = true) →
    ∃ w', (storeCells ⟨b, o, none⟩ vs i).run P w = .ok () w' ∧ Turn w w' b ∧ w'.heap[b]? = some (.cells (setA c (o + i) vs) e fr)
  | [], o, i, c, e, fr, w, hb, hl, hf, ho => ⟨w, rfl, ⟨rfl, rfl, rfl, rfl, fun _ _ => rfl, rfl⟩, hb⟩
  | v :: vs, o, i, c, e, fr, w, hb, hl, hf, ho => by
    simp only [List.length_cons] at hl
    have hlt : o + i < c.size := by omega
    have hcell : w.cell? ⟨b, o + i, none⟩ = some c[o + i] := by simp [World.cell?, hb, hlt]
    have hfr : w.frozen? ⟨b, o + i, none⟩ = false := by
      simp only [World.frozen?, hb]
      have := hf (o + i) (Nat.le_refl _) hlt
      simp only [Bool.and_eq_false_iff, decide_eq_false_iff_not]
      omega
    have hset : (w.setCell ⟨b, o + i, none⟩ v).heap[b]? = some (.cells (c.setIfInBounds (o + i) v) e fr) := by simp [World.setCell, Array.getElem?_modify, hb]
    obtain ⟨w', h1, h2, h3⟩ := run_storeCells b vs o (i + 1) (c.setIfInBounds (o + i) v) e fr (w.setCell ⟨b, o + i, none⟩ v) hset (by simp; omega) (fun j hj hj' => hf j (by omega) (by simpa using hj')) (fun x hx => ho x (by simp [hx]))
    refine ⟨w', ?_, ⟨h2.os, h2.tape, h2.output, by rw [h2.size]; simp, fun k hk => by rw [h2.block k hk, Below.heap_setCell _ _ _ _ hk], by rw [h2.row]; simp [rowSize, hset, hb]⟩, by rw [h3]; rfl⟩
    have hs := run_store P w ⟨b, o + i, none⟩ v .plain (ho v (by simp))
    rw [hcell] at hs
    simp only [hfr, Bool.false_eq_true, if_false] at hs
    simp only [storeCells, add_plain, Sem.run_bind, hs, Result.andThen_ok]
    exact h1
theorem store_lies {b o off : Nat} {cs vs : List V} {us : List Value} {c : Array Value} {e : TypeId} {fr : Nat × Nat} (hb : w'.heap[b]? = some (.cells (setA c (o + off) us) e fr)) (hl : o + cs.length ≤ c.size) (hlv : off + vs.length ≤ cs.length)
    (hf : frOk fr c.size) (hr : ∀ (i : Nat) v, cs[i]? = some v → RepV w ok v (c.getD (o + i) undef)) (hu : RepL w ok vs us) (hk : ∀ v u, RepV w ok v u → RepV w' ok v u) : Lies w' ok b o (setL cs off vs) := by
  refine ⟨_, e, fr, hb, by rw [setA_size, setL_length]; exact hl, by rwa [setA_size], fun i v hi => ?_⟩
  rw [setL_get _ _ _ _ hlv] at hi
  have hg := setA_get us c (o + off) (o + i) (by rw [hu.1]; omega)
  rw [Array.getD_eq_getD_getElem?, hg]
  rw [hu.1]
  split at hi
  · rename_i h1
    rw [if_pos (by omega), show o + i - (o + off) = i - off by omega]
    obtain ⟨u, h2, h3⟩ := hu.2 _ _ hi
    rw [h2]
    exact hk _ _ h3
  · rename_i h1
    rw [if_neg (by omega), ← Array.getD_eq_getD_getElem?]
    exact hk _ _ (hr i v hi)
theorem grow_lies {b o : Nat} {cs vs : List V} {us : List Value} {c : Array Value} {e : TypeId} {fr : Nat × Nat} (hb : w'.heap[b]? = some (.cells (setA c (o + cs.length) us) e fr)) (hl : o + cs.length + vs.length ≤ c.size)
    (hf : frOk fr c.size) (hr : ∀ (i : Nat) v, cs[i]? = some v → RepV w ok v (c.getD (o + i) undef)) (hu : RepL w ok vs us) (hk : ∀ v u, RepV w ok v u → RepV w' ok v u) : Lies w' ok b o (cs ++ vs) := by
  refine ⟨_, e, fr, hb, by rw [setA_size, List.length_append]; omega, by rwa [setA_size], fun i v hi => ?_⟩
  have hlt := (List.getElem?_eq_some_iff.1 hi).1
  rw [List.length_append] at hlt
  have hg := setA_get us c (o + cs.length) (o + i) (by rw [hu.1]; omega)
  rw [Array.getD_eq_getD_getElem?, hg]
  rw [hu.1]
  rw [List.getElem?_append] at hi
  split at hi
  · rename_i h1
    rw [if_neg (by omega), ← Array.getD_eq_getD_getElem?]
    exact hk _ _ (hr i v hi)
  · rename_i h1
    rw [if_pos (by omega), show o + i - (o + cs.length) = i - cs.length by omega]
    obtain ⟨u, h2, h3⟩ := hu.2 _ _ hi
    rw [h2]
    exact hk _ _ h3
theorem Lies.mono {ok' : Nat → Prop} {b o : Nat} {cs : List V} (hk : ∀ b', ok b' → ok' b') (h : Lies w ok b o cs) : Lies w ok' b o cs :=
  let ⟨c, e, fr, h1, h2, h3, h4⟩ := h
  ⟨c, e, fr, h1, h2, h3, fun i v hi => (h4 i v hi).mono fun b hb => ⟨hk b hb, rfl⟩⟩
theorem new_lies {cs : List V} {cu : Array Value} {e : TypeId} (hr : ∀ (i : Nat) v, cs[i]? = some v → RepV w ok v (cu.getD i undef)) (hl : cs.length ≤ cu.size) (hlt : ∀ b, ok b → b < w.heap.size) {ok' : Nat → Prop} (hk : ∀ b, ok b → ok' b) :
    Lies (w.alloc (.cells cu e)) ok' w.heap.size 0 cs :=
  ⟨cu, e, (0, 0), (by show (w.heap.push _)[w.heap.size]? = _; simp), by omega, Or.inl rfl, fun i v hi => by
    rw [Nat.zero_add]
    exact (hr i v hi).mono fun b hb => ⟨hk b hb, Below.heap_alloc _ _ _ (hlt b hb)⟩⟩
theorem getD_of_toList {cu : Array Value} {i : Nat} {u : Value} (h : cu.toList[i]? = some u) : cu.getD i undef = u := by
  have : cu[i]? = some u := by simpa using h
  simp [Array.getD_eq_getD_getElem?, this]
theorem RepL.getD {cs : List V} {cu : Array Value} (h : RepL w ok cs cu.toList) (i : Nat) (v : V) (hi : cs[i]? = some v) : RepV w ok v (cu.getD i undef) := by
  obtain ⟨u, hu, hr⟩ := h.2 i v hi
  rw [getD_of_toList hu]; exact hr

/-! ### What an operation makes or writes -/
/-- The cells that an append is handed. -/
def appArg (objs : List (Nat × List V)) (z : Nat) : D → Option (Nat × List V)
  | .v (.sl m ys _) => if ys.length = m * z then some (m, ys) else none
  | .own s z' off m => (look objs s).bind fun cs => if z' = z ∧ off + m * z ≤ cs.length then some (m, (cs.drop off).take (m * z)) else none
  | _ => none
/-- The cells of a slice literal. -/
def bslC (n : Nat) (zero : List V) (ps : List (Nat × Nat)) (vs : List V) : Option (List V) := (pairUp ps vs).bind fun q => fillV q (zerosL zero n)
def SO.ef (st : St) (dst : Option Nat) : SO → List D → Option St
  | .alloc zero, [] => dst.map fun s => (st.fresh s zero).put dst (.ref s 0)
  | .box, [.v x] => dst.map fun s => (st.fresh s x.cells).put dst (.ref s 0)
  | .st z, [.ref s off, .v x] => (look st.objs s).bind fun cs => if x.cells.length = z ∧ off + z ≤ cs.length ∧ x.cells.all V.one ∧ dst = none then some ⟨st.ρ, upd st.objs s (setL cs off x.cells)⟩ else none
  | .mk z bytes zero, [.v (.n _ l), .v (.n _ c)] => if 0 ≤ l ∧ l ≤ c ∧ c * bytes ≤ 2 ^ 48 ∧ c < 2 ^ 63 then dst.map fun s => (st.fresh s (zerosL zero l.toNat)).put dst (.own s z 0 l.toNat) else none
  | .app z bytes, [.own s0 z' off ln, x] => (look st.objs s0).bind fun cs => (appArg st.objs z x).bind fun (m, ys) =>
      if z' = z ∧ off + ln * z = cs.length ∧ (ln + m) * bytes ≤ 2 ^ 47 ∧ ys.all V.one then dst.map fun _ => (st.move s0 s0 (cs.drop off ++ ys)).put dst (.own s0 z 0 (ln + m)) else none
  | .app z bytes, [.v (.sl 0 [] true), x] => (appArg st.objs z x).bind fun (m, ys) =>
      dst.bind fun s => if x.ment s = false ∧ m * bytes ≤ 2 ^ 47 ∧ ys.all V.one then some (((st.fresh s []).move s s ys).put dst (.own s z 0 m)) else none
  | .appo z bytes, [.own s0 z' off ln, x] => (look st.objs s0).bind fun cs => (appArg st.objs z x).bind fun (m, ys) =>
      if z' = z ∧ off + ln * z = cs.length ∧ (ln + m) * bytes ≤ 2 ^ 47 ∧ ys.all V.one then dst.map fun _ => (st.move s0 s0 (cs.drop off ++ ys)).put dst (.own s0 z 0 (ln + m)) else none
  | .bslO n zero ps, ds => (allV ds).bind fun vs => (bslC n zero ps vs).bind fun cs => dst.map fun s => (st.fresh s cs).put dst (.own s 1 0 n)
  | .adopt z, [] => dst.map fun s => (st.fresh s []).put dst (.own s z 0 0)
  | .clr z zero, [.own s z' off ln] => (look st.objs s).bind fun cs => if z' = z ∧ off + ln * z ≤ cs.length ∧ zero.all V.one ∧ dst = none then some ⟨st.ρ, upd st.objs s (setL cs off (zerosL zero ln))⟩ else none
  | _, _ => none
theorem newRow_run (e : TypeId) (cu : Array Value) : (newRow e cu).run P w = .ok ⟨w.heap.size, 0, none⟩ (w.alloc (.cells cu e)) := by simp [newRow]
theorem zeroOf_run {t : TypeId} {zs : List V} (h : zeroOf P t = some zs) : ∃ z, (zeroValue t).run P w = .ok z w ∧ RepL w ok zs z.cells.toList := by
  unfold zeroOf at h
  simp only [Option.bind_eq_some_iff] at h
  obtain ⟨i, hi, z, hz, hc⟩ := h
  exact ⟨z, by simp [zeroValue, run_info hi, hz], cVals_rep hc⟩
theorem alloc_sound (hrel : Rel w0 U E nt st a w η) {t : TypeId} {zs : List V} {s : Nat} (h : zeroOf P t = some zs) (hn : s < nt) :
    ∃ u w' η', (Instr.alloc t true (.tuple #[])).run P w = .ok u w' ∧ Rel w0 U E nt ((st.fresh s zs).put (some s) (.ref s 0)) (a.put (some s) u) w' η' := by
  obtain ⟨z, h1, h2⟩ := zeroOf_run (w := w) (ok := Ok U st.objs η w) h
  have hb : Below w.heap.size w (w.alloc (.cells z.cells t)) := (Below.refl _ _).alloc (Nat.le_refl _) _
  have hl : zs.length ≤ z.cells.size := by have := h2.1; simp at this; omega
  have hr := hrel.fresh hb (s := s) (cs := zs) (x := some (w.heap.size, 0)) ⟨Nat.le_refl _, by simp, fun ok' hk => new_lies (fun i v hi => h2.getD i v hi) hl (fun b hb => hb.1) hk⟩
  refine ⟨.pointer (some ⟨w.heap.size, 0, none⟩), _, η.set s (some (w.heap.size, 0)), by simp [Instr.alloc, h1, newVar, newRow_run], hr.put (dst := some s) (.ref s 0 _ 0 Eta.set_same) (fun t ht => by cases ht; exact hn)⟩
theorem box_sound (hrel : Rel w0 U E nt st a w η) {t : TypeId} {x : V} {u : Value} {s : Nat} (hx : RepV w (Ok U st.objs η w) x u) (hn : s < nt) :
    ∃ u' w' η', (Instr.box t u).run P w = .ok u' w' ∧ Rel w0 U E nt ((st.fresh s x.cells).put (some s) (.ref s 0)) (a.put (some s) u') w' η' := by
  have h2 := cells_rep hx
  have hb : Below w.heap.size w (w.alloc (.cells u.cells t)) := (Below.refl _ _).alloc (Nat.le_refl _) _
  have hl : x.cells.length ≤ u.cells.size := by have := h2.1; simp at this; omega
  have hr := hrel.fresh hb (s := s) (cs := x.cells) (x := some (w.heap.size, 0)) ⟨Nat.le_refl _, by simp, fun ok' hk => new_lies (fun i v hi => h2.getD i v hi) hl (fun b hb => hb.1) hk⟩
  exact ⟨.pointer (some ⟨w.heap.size, 0, none⟩), _, η.set s (some (w.heap.size, 0)), by simp [Instr.box, newVar, newRow_run], hr.put (dst := some s) (.ref s 0 _ 0 Eta.set_same) (fun t ht => by cases ht; exact hn)⟩
theorem ok_row (hrel : Rel w0 U E nt st a w η) {s b o : Nat} {cs : List V} (hs : look st.objs s = some cs) (hη : η s = some (b, o)) (ht : Turn w w' b) (v : V) (u : Value) (h : RepV w (Ok U st.objs η w) v u) : RepV w' (Ok U st.objs η w) v u :=
  h.mono fun b' hb' => ⟨hb', ht.block b' fun e => hb'.2.2 s cs o hs (by rw [e]; exact hη)⟩
theorem st_sound (hrel : Rel w0 U E nt st a w η) {t : TypeId} {z s off : Nat} {cs : List V} {x : V} {ua u : Value} (hz : szOf P t = some z) (ha : RepD w (Ok U st.objs η w) η (.ref s off) ua) (hx : RepV w (Ok U st.objs η w) x u)
    (hs : look st.objs s = some cs) (hl : x.cells.length = z) (hle : off + z ≤ cs.length) (hz0 : z ≠ 0) (h1 : x.cells.all V.one = true) :
    ∃ w', (Instr.storeAt t ua u).run P w = .ok () w' ∧ Rel w0 U E nt ⟨st.ρ, upd st.objs s (setL cs off x.cells)⟩ a w' η := by
  cases ha with | ref _ _ b o hη =>
  have ho := hrel.objs s cs hs
  unfold RepO at ho
  rw [hη] at ho
  obtain ⟨c, e, fr, g1, g2, g3, g4⟩ := ho
  have hxr := cells_rep hx
  have hul : u.cells.toList.length = z := by rw [hxr.1]; exact hl
  obtain ⟨w', k1, k2, k3⟩ := run_storeCells (P := P) b u.cells.toList (o + off) 0 c e fr w g1 (by omega) (fun j _ hj' => g3.not j hj') (fun v hv => by
    obtain ⟨i, hi⟩ := List.mem_iff_getElem?.1 hv
    have hlt : i < x.cells.length := by rw [← hxr.1]; exact (List.getElem?_eq_some_iff.1 hi).1
    obtain ⟨u', hu', hr⟩ := hxr.2 i _ (List.getElem?_eq_getElem hlt)
    rw [hi] at hu'
    cases hu'
    exact one_rep hr (List.all_eq_true.1 h1 _ (List.getElem_mem hlt)))
  rw [Nat.add_zero] at k3
  refine ⟨w', ?_, hrel.store hs hη k2 fun ok' hk => ?_⟩
  · have : u.cells.size = z := by simpa using hul
    simp [Instr.storeAt, Instr.sureAddr, storeVar, run_size hz, this, k1]
  · exact (store_lies k3 g2 (by omega) g3 g4 hxr (fun v u h => ok_row hrel hs hη k2 v u h)).mono hk
theorem clr_sound (hrel : Rel w0 U E nt st a w η) {t e : TypeId} {z z' s off ln : Nat} {zero cs : List V} {ts : Array TypeId} {ty : TypeId} {ua : Value} (hu : P.underlying t = some (.slice e)) (hz : szOf P e = some z) (h0 : zeroOf P e = some zero) (hzl : zero.length = z)
    (hts : ts[0]? = some t) (ha : RepD w (Ok U st.objs η w) η (.own s z' off ln) ua) (hs : look st.objs s = some cs) (he : z' = z) (hle : off + ln * z ≤ cs.length) (h1 : zero.all V.one = true) :
    ∃ w', (Builtin.clear_ ts ty #[ua]).run P w = .ok (.tuple #[]) w' ∧ Rel w0 U E nt ⟨st.ρ, upd st.objs s (setL cs off (zerosL zero ln))⟩ a w' η := by
  have same : ln = 0 → Rel w0 U E nt ⟨st.ρ, upd st.objs s (setL cs off (zerosL zero ln))⟩ a w η := fun hl => by
    subst hl
    have e : setL cs off (zerosL zero 0) = cs := rfl
    rw [e]
    have hlk : ∀ s', look (upd st.objs s cs) s' = look st.objs s' := fun s' => by
      rw [look_upd]
      split
      · rename_i e; subst e; rw [hs]; rfl
      · rfl
    have hok : ∀ b', Ok U st.objs η w b' → Ok U (upd st.objs s cs) η w b' := fun b' hb' => ⟨hb'.1, hb'.2.1, fun s' cs' o' h1 h2 => hb'.2.2 s' cs' o' (by rw [← hlk]; exact h1) h2⟩
    have hv : ∀ v u, RepV w (Ok U st.objs η w) v u → RepV w (Ok U (upd st.objs s cs) η w) v u := fun v u hr => hr.mono fun b' hb' => ⟨hok b' hb', rfl⟩
    refine ⟨hrel.size, hrel.defers, hrel.keeps, hrel.uold, fun t d ht => ⟨(hrel.slots t d ht).1, (hrel.slots t d ht).2.change hv (fun _ => Nat.le_refl _)⟩, fun s' cs' hs' => (hrel.objs s' cs' (by rw [← hlk]; exact hs')).change rfl hv (fun _ _ _ => rfl), fun s' cs' b o g1 g2 => hrel.lies s' cs' b o (by rw [← hlk]; exact g1) g2, fun s1 s2 c1 c2 b o o' g1 g2 g3 g4 => hrel.inj s1 s2 c1 c2 b o o' (by rw [← hlk]; exact g1) (by rw [← hlk]; exact g2) g3 g4⟩
  cases ha with
  | own0 _ _ _ p =>
    refine ⟨w, ?_, same rfl⟩
    cases p <;> simp [Builtin.clear_, hts, run_underlying hu]
  | own _ _ _ _ b o cap hη hl hc =>
    by_cases hln : ln = 0
    · refine ⟨w, ?_, same hln⟩
      subst hln
      simp [Builtin.clear_, hts, run_underlying hu]
    obtain ⟨m, rfl⟩ : ∃ m, ln = m + 1 := ⟨ln - 1, by omega⟩
    have ho := hrel.objs s cs hs
    unfold RepO at ho
    rw [hη] at ho
    obtain ⟨c, e', fr, g1, g2, g3, g4⟩ := ho
    obtain ⟨zv, k1, k2⟩ := zeroOf_run (w := w) (ok := Ok U st.objs η w) h0
    have hzv : zv.cells.size = z := by have := k2.1; simp at this; omega
    have hzr := zeros_rep k2 (m + 1)
    rw [hzv] at hzr
    have hzc : (Builtin.zeroCells zv.cells (m + 1)).toList = ((Array.range ((m + 1) * z)).map (zv.cells[· % z]!)).toList := by simp [Builtin.zeroCells, hzv]
    have hul : (Builtin.zeroCells zv.cells (m + 1)).toList.length = (m + 1) * z := by rw [hzc]; simp
    obtain ⟨w', j1, j2, j3⟩ := run_storeCells (P := P) b (Builtin.zeroCells zv.cells (m + 1)).toList (o + off) 0 c e' fr w g1 (by rw [hul]; omega) (fun j _ hj' => g3.not j hj') (fun v hv => by
      rw [hzc] at hv
      obtain ⟨i, hi⟩ := List.mem_iff_getElem?.1 hv
      have hlt : i < (zerosL zero (m + 1)).length := by rw [← hzr.1]; exact (List.getElem?_eq_some_iff.1 hi).1
      obtain ⟨u', hu', hr⟩ := hzr.2 i _ (List.getElem?_eq_getElem hlt)
      rw [hi] at hu'
      cases hu'
      refine one_rep hr (List.all_eq_true.1 h1 _ ?_)
      exact List.mem_of_getElem? (zerosL_get zero _ _ _ (List.getElem?_eq_getElem hlt)))
    rw [Nat.add_zero] at j3
    refine ⟨w', ?_, hrel.store hs hη j2 fun ok' hk => ?_⟩
    · simp [Builtin.clear_, hts, run_underlying hu, k1, j1]
    · rw [hzc] at j3
      exact (store_lies j3 g2 (by rw [zerosL_length, hzl]; exact hle) g3 g4 hzr (fun v u h => ok_row hrel hs hη j2 v u h)).mono hk
theorem mk_sound (hrel : Rel w0 U E nt st a w η) {t e : TypeId} {z bytes s : Nat} {zero : List V} {kl kc : IntKind} {l c : Int} (hu : P.underlying t = some (.slice e)) (hz : szOf P e = some z) (hb : bytesOf' P e = some bytes) (h0 : zeroOf P e = some zero)
    (hzl : zero.length = z) (hz0 : z ≠ 0) (b0 : 0 ≤ l) (b1 : l ≤ c) (b2 : c * bytes ≤ 2 ^ 48) (b3 : c < 2 ^ 63) (hn : s < nt) :
    ∃ u' w' η', (Instr.makeSlice t (.int kl l) (.int kc c)).run P w = .ok u' w' ∧ Rel w0 U E nt ((st.fresh s (zerosL zero l.toNat)).put (some s) (.own s z 0 l.toNat)) (a.put (some s) u') w' η' := by
  obtain ⟨zv, h1, h2⟩ := zeroOf_run (w := w) (ok := Ok U st.objs η w) h0
  simp only [bytesOf', Option.map_eq_some_iff] at hb
  obtain ⟨i, hi, rfl⟩ := hb
  have hzv : zv.cells.size = z := by have := h2.1; simp at this; omega
  have wr : ∀ n : Int, 0 ≤ n → n < 2 ^ 63 → IntKind.i64.wrap n = n := fun n h1 h2 => IntWalk.i64_in n (by omega)
  have hb2 : (i.bytes : Int) * c ≤ 2 ^ 48 := by rw [Int.mul_comm]; exact b2
  have hrun : (Instr.makeSlice t (.int kl l) (.int kc c)).run P w = .ok (.slice (some ⟨w.heap.size, 0, none⟩) l.toNat c.toNat) (w.alloc (.cells ((Array.range (c.toNat * z)).map (zv.cells[· % zv.cells.size]!)) e)) := by
    have e1 : ¬ (c < 0) := by omega
    have e2 : ¬ (l < 0) := by omega
    have e3 : ¬ (l > c) := by omega
    have e4 : ¬ (281474976710656 < (i.bytes : Int) * c) := by omega
    have e5 : ∀ f : Nat → Value, (Array.range 0).map f = #[] := fun f => by simp [Array.range]
    by_cases hcz : c.toNat * z = 0
    · have hc0 : c.toNat = 0 := by
        rcases Nat.mul_eq_zero.1 hcz with h | h
        · exact h
        · exact absurd h hz0
      simp [Instr.makeSlice, run_underlying hu, asInt, asIntOf, run_info hi, wr l b0 (by omega), wr c (by omega) b3, e1, e2, e3, e4, e5, run_size hz, hc0, newRow_run]
    · have hcz' : ¬ (c.toNat = 0 ∨ z = 0) := by rw [← Nat.mul_eq_zero]; exact hcz
      have hcz1 : ¬ (c.toNat = 0) := fun h => hcz' (.inl h)
      simp [Instr.makeSlice, run_underlying hu, asInt, asIntOf, run_info hi, wr l b0 (by omega), wr c (by omega) b3, e1, e2, e3, e4, run_size hz, hcz, hz0, hcz1, h1, newRow_run]
  have hzr := zeros_rep h2 c.toNat
  rw [hzv] at hzr
  have hb' : Below w.heap.size w (w.alloc (.cells ((Array.range (c.toNat * z)).map (zv.cells[· % zv.cells.size]!)) e)) := (Below.refl _ _).alloc (Nat.le_refl _) _
  have hpre : ∀ (i : Nat) v, (zerosL zero l.toNat)[i]? = some v → (zerosL zero c.toNat)[i]? = some v := fun i v hi => by
    have hlt := (List.getElem?_eq_some_iff.1 hi).1
    rw [zerosL_length] at hlt
    have hle : l.toNat * zero.length ≤ c.toNat * zero.length := Nat.mul_le_mul_right _ (by omega)
    have h3 := zerosL_get zero _ _ _ hi
    have hlt' : i < (zerosL zero c.toNat).length := by rw [zerosL_length]; omega
    have h4 := List.getElem?_eq_getElem hlt'
    have h5 := zerosL_get zero _ _ _ h4
    rw [h4, ← h3, h5]
  rw [hzv] at hb' hrun
  have hsz : ((Array.range (c.toNat * z)).map (zv.cells[· % z]!)).size = c.toNat * z := by simp
  have hr := hrel.fresh hb' (s := s) (cs := zerosL zero l.toNat) (x := some (w.heap.size, 0)) ⟨Nat.le_refl _, by simp, fun ok' hk => new_lies (fun i v hi => by
    exact hzr.getD i v (hpre i v hi)) (by rw [zerosL_length, hsz, hzl]; exact Nat.mul_le_mul_right _ (by omega)) (fun b hb => hb.1) hk⟩
  refine ⟨_, _, η.set s (some (w.heap.size, 0)), hrun, hr.put (dst := some s) (.own s z 0 l.toNat _ 0 c.toNat Eta.set_same (by omega) ?_) (fun t ht => by cases ht; exact hn)⟩
  have hh : ∀ o : Obj, (w.alloc o).heap[w.heap.size]? = some o := fun o => by show (w.heap.push _)[w.heap.size]? = _; simp
  simp only [rowSize, hh]
  omega
theorem fillV_len : ∀ (q : List ((Nat × Nat) × V)) (cs cs' : List V), fillV q cs = some cs' → cs'.length = cs.length
  | [], _, _, h => by cases h; rfl
  | ((off, z), v) :: q, cs, cs', h => by
    simp only [fillV] at h
    split at h
    · rw [fillV_len q _ _ h, setL_length]
    · cases h
theorem bslO_sound (hrel : Rel w0 U E nt st a w η) {t : TypeId} {n n' s : Nat} {is : List Nat} {ps : List (Nat × Nat)} {zero vs cs : List V} {us : List Value} (hc : cBsl P t n is = some (.bsl n' zero ps)) (hz1 : zero.length = 1)
    (hv : RepL w (Ok U st.objs η w) vs us) (h : bslC n' zero ps vs = some cs) (hn : s < nt) :
    ∃ u' w' η', (Instr.buildSlice t n (is.zip us).toArray).run P w = .ok u' w' ∧ Rel w0 U E nt ((st.fresh s cs).put (some s) (.own s 1 0 n')) (a.put (some s) u') w' η' := by
  unfold cBsl at hc
  split at hc
  case h_2 => cases hc
  rename_i e hu
  split at hc
  case h_2 => cases hc
  rename_i zero' z hz hsz
  split at hc
  case h_2 => cases hc
  rename_i ps' hp
  split at hc <;> cases hc
  rename_i hb
  obtain rfl : z = 1 := by omega
  unfold bslC at h
  simp only [Option.bind_eq_some_iff] at h
  obtain ⟨q, hq, hf⟩ := h
  unfold zeroOf at hz
  simp only [Option.bind_eq_some_iff] at hz
  obtain ⟨it, hit, zv, hzz, hcz⟩ := hz
  simp only [szOf, hit, Option.map_some, Option.some.injEq] at hsz
  have hcl : zv.cells.size = 1 := by have := (RepL.of_cells (w := w) (ok := Ok U st.objs η w) hcz).1; simp at this; omega
  have hrp := pairUp_rep (w := w) (ok := Ok U st.objs η w) is ps vs us q hp hv hq
  have hzr := zeros_rep (RepL.of_cells (w := w) (ok := Ok U st.objs η w) hcz) n
  rw [hcl] at hzr
  obtain ⟨cu', h1, h2⟩ := fill_rep q _ _ cs _ hrp hzr hf
  have hrun := run_buildSlice (P := P) w t e n (is.zip us).toArray cu' it zv hu hit hzz (by rw [hsz]; omega) (by rw [hsz]; exact hb.2.2) (by rw [hsz, hcl]; exact h1)
  have hb' : Below w.heap.size w (w.alloc (.cells cu' e)) := (Below.refl _ _).alloc (Nat.le_refl _) _
  have hl : cs.length = cu'.size := by have := h2.1; simpa using this.symm
  have hcs : cs.length = n := by rw [fillV_len q _ _ hf, zerosL_length, hz1, Nat.mul_one]
  have hr := hrel.fresh hb' (s := s) (cs := cs) (x := some (w.heap.size, 0)) ⟨Nat.le_refl _, by simp, fun ok' hk => new_lies (fun i v hi => h2.getD i v hi) (by omega) (fun b hb => hb.1) hk⟩
  refine ⟨_, _, η.set s (some (w.heap.size, 0)), hrun, hr.put (dst := some s) (.own s 1 0 n _ 0 n Eta.set_same (Nat.le_refl _) ?_) (fun t ht => by cases ht; exact hn)⟩
  have hh : ∀ o : Obj, (w.alloc o).heap[w.heap.size]? = some o := fun o => by show (w.heap.push _)[w.heap.size]? = _; simp
  simp only [rowSize, hh]
  omega
end
end Go.Proofs.YtljcbmnkjiogmaaDoor.Sv
/-! append does in the model what is said of it. -/
namespace Go.Proofs.YtljcbmnkjiogmaaDoor.Sv
open Go Go.RowKit
set_option linter.unusedVariables false
set_option linter.unusedSimpArgs false
theorem growBy_le (n : Nat) : ∀ (r c : Nat), Builtin.growBy n r c ≤ max c (n + (n + 768) / 4)
  | 0, c => by simp [Builtin.growBy]; omega
  | r + 1, c => by
    unfold Builtin.growBy
    split
    · omega
    · have := growBy_le n r (c + (c + 768) / 4)
      omega
theorem nextcap_le {need old : Nat} (h : old < need) : Builtin.nextslicecap need old ≤ 2 * need := by
  unfold Builtin.nextslicecap
  split
  · omega
  · split
    · omega
    · have := growBy_le need 4 old
      omega
section
variable {P : Program} {w w0 w' : World} {U E : Nat → Prop} {nt : Nat} {st : St} {a : Act} {η : Eta} {ok : Nat → Prop}
/-- What lies there, as the model's append reads it, in any world with this memory. -/
def Reads (P : Program) (w : World) (z m : Nat) (u : Value) (us : List Value) : Prop := ∀ w1 : World, w1.heap = w.heap → (Builtin.firstCells z m u).run P w1 = .ok us.toArray w1
theorem reads_nil {z : Nat} {x : Option Addr} {c : Nat} : Reads P w z 0 (.slice x 0 c) [] := fun w1 _ => by
  cases x <;> simp [Builtin.firstCells, loadCells, loadCellsFrom]
theorem reads_lies {z m n c : Nat} {b o : Nat} {ys : List V} (hl : ys.length = m * z) (h : ∀ (i : Nat) v, ys[i]? = some v → ∃ x, w.cell? ⟨b, o + i, none⟩ = some x ∧ RepV w ok v x) :
    ∃ us, Reads P w z m (.slice (some ⟨b, o, none⟩) n c) us ∧ RepL w ok ys us := by
  obtain ⟨us, h1, h2⟩ := lies_list (w := w) (ok := ok) b ys o h
  refine ⟨us, fun w1 hw => ?_, h1⟩
  have := run_loadCells_list (P := P) w1 ⟨b, o, none⟩ us (fun j v hj => by
    have := h2 j v hj
    rw [add_plain] at this ⊢
    simpa [World.cell?, hw] using this)
  rw [h1.1, hl] at this
  simpa [Builtin.firstCells] using this
theorem appArg_reads (hrel : Rel w0 U E nt st a w η) {x : D} {u : Value} {z m : Nat} {ys : List V} (hx : RepD w (Ok U st.objs η w) η x u) (h : appArg st.objs z x = some (m, ys)) :
    ∃ us, Reads P w z m u us ∧ RepL w (Ok U st.objs η w) ys us ∧ (∃ p c, u = .slice p m c) ∧ ys.length = m * z := by
  unfold appArg at h
  split at h
  · split at h <;> cases h
    rename_i hl
    cases hx with | v _ _ hx =>
    cases hx with
    | sl0 t p => exact ⟨[], reads_nil, .nil, ⟨_, _, rfl⟩, hl⟩
    | sl _ _ _ us bl off cap hok hlc ht hc hr =>
      obtain ⟨us', h1, h2⟩ := reads_lies (P := P) (n := m) (c := cap) hl (fun i v hi => ⟨us i, hc i v hi, hr i v hi⟩)
      exact ⟨us', h1, h2, ⟨_, _, rfl⟩, hl⟩
  · rename_i s z' off m'
    simp only [Option.bind_eq_some_iff] at h
    obtain ⟨cs, hcs, h⟩ := h
    split at h <;> cases h
    rename_i hb
    obtain ⟨rfl, hb⟩ := hb
    have hl : ((cs.drop off).take (m * z')).length = m * z' := by simp; omega
    cases hx with
    | own0 => exact ⟨[], reads_nil, by simpa using RepL.nil, ⟨_, _, rfl⟩, hl⟩
    | own _ _ _ _ b o cap hη hlc hc =>
      obtain ⟨us', h1, h2⟩ := reads_lies (P := P) (w := w) (ok := Ok U st.objs η w) (b := b) (o := o + off) (n := m) (c := cap) hl (fun i v hi => by
        rw [List.getElem?_take] at hi
        split at hi
        · exact (hrel.objs s cs hcs).lies hη i v hi
        · cases hi)
      exact ⟨us', h1, h2, ⟨_, _, rfl⟩, hl⟩
  · cases h
theorem run_append_in {t t2 e : TypeId} {ts : Array TypeId} {ty : TypeId} {z m n c : Nat} {b o : Nat} {u : Value} {us : List Value} (h0 : ts[0]? = some t) (h1 : ts[1]? = some t2) (hu : P.underlying t = some (.slice e)) (hu2 : ∃ e2, P.underlying t2 = some (.slice e2)) (hz : szOf P e = some z)
    (hm : ∃ p c', u = .slice p m c') (hr : Reads P w z m u us) (hf : n + m ≤ c) (hs : ∃ w', (storeCells ⟨b, o + n * z, none⟩ us).run P w = .ok () w') :
    ∃ w', (storeCells ⟨b, o + n * z, none⟩ us).run P w = .ok () w' ∧ (Builtin.append_ ts ty #[.slice (some ⟨b, o, none⟩) n c, u]).run P w = .ok (.slice (some ⟨b, o, none⟩) (n + m) c) w' := by
  obtain ⟨w', hs⟩ := hs
  obtain ⟨e2, hu2⟩ := hu2
  obtain ⟨p, c', rfl⟩ := hm
  refine ⟨w', hs, ?_⟩
  simp [Builtin.append_, h0, h1, run_underlying hu, run_underlying hu2, run_size hz, Builtin.lenOf, hf, hr w rfl, add_plain, hs]
theorem run_append_new {t t2 e : TypeId} {ts : Array TypeId} {ty : TypeId} {z m n c by_ : Nat} {x : Option Addr} {u : Value} {us os : List Value} {zero : List V} (h0 : ts[0]? = some t) (h1 : ts[1]? = some t2) (hu : P.underlying t = some (.slice e)) (hu2 : ∃ e2, P.underlying t2 = some (.slice e2)) (hz : szOf P e = some z)
    (hb : bytesOf' P e = some by_) (hzero : zeroOf P e = some zero) (hm : ∃ p c', u = .slice p m c') (hr : Reads P w z m u us) (ho : Reads P w z n (.slice x n c) os) (hf : ¬ n + m ≤ c) (hroom : (n + m) * by_ ≤ 2 ^ 47) (hby : by_ ≠ 0) (hzl : zero.length = z) :
    ∃ (cap : Nat) (rest : Array Value), n + m ≤ cap ∧ rest.size = (cap - (n + m)) * z ∧ (Builtin.append_ ts ty #[.slice x n c, u]).run P w = .ok (.slice (some ⟨w.heap.size, 0, none⟩) (n + m) cap) (w.drew.alloc (.cells (os.toArray ++ us.toArray ++ rest) e)) := by
  obtain ⟨e2, hu2⟩ := hu2
  obtain ⟨p, c', rfl⟩ := hm
  obtain ⟨zv, hz1, hz2⟩ := zeroOf_run (w := w.drew) (ok := fun _ => True) hzero
  have hzs : zv.cells.size = z := by have := hz2.1; simp at this; omega
  simp only [bytesOf', Option.map_eq_some_iff] at hb
  obtain ⟨i, hi, rfl⟩ := hb
  have hnc := nextcap_le (need := n + m) (old := c) (by omega)
  have hcap : ¬ (281474976710656 < Builtin.nextslicecap (n + m) c * i.bytes) := by
    have h2 : Builtin.nextslicecap (n + m) c * i.bytes ≤ (2 * (n + m)) * i.bytes := Nat.mul_le_mul_right _ hnc
    have h3 : (2 * (n + m)) * i.bytes = 2 * ((n + m) * i.bytes) := Nat.mul_assoc _ _ _
    omega
  have hq : (Question.appendCap (n + m) c e).forced = false := rfl
  have hcut : n + m ≤ (Question.appendCap (n + m) c e).cut (w.tape w.drawn (.appendCap (n + m) c e)) := by simp [Question.cut]
  refine ⟨(Question.appendCap (n + m) c e).cut (w.tape w.drawn (.appendCap (n + m) c e)), Builtin.zeroCells zv.cells ((Question.appendCap (n + m) c e).cut (w.tape w.drawn (.appendCap (n + m) c e)) - (n + m)), hcut, ?_, ?_⟩
  · simp [Builtin.zeroCells, hzs]
  · have hzr : (Builtin.firstCells z n (.slice x n c)).run P w.drew = .ok os.toArray w.drew := ho w.drew rfl
    have hzr2 : (Builtin.firstCells z m (.slice p m c')).run P w.drew = .ok us.toArray w.drew := hr w.drew rfl
    have hi2 : (typeInfo e).run P w = .ok i w := run_info hi w
    have hsz : ∀ w1 : World, (sizeOf e).run P w1 = .ok z w1 := fun w1 => run_size hz w1
    have hask : ∀ k, (askRoom k).run P w.drew = .ok () w.drew := fun k => run_askRoom P w.drew k
    have hi3 : (typeInfo e).run P w.drew = .ok i w.drew := run_info hi w.drew
    simp [Builtin.append_, h0, h1, run_underlying hu, run_underlying hu2, hsz, Builtin.lenOf, hf, hi2, hby, hcap, hq, hzr, hzr2, hask, hi3, hz1, newRow_run]
    congr 2
    apply Array.ext'
    simp
theorem below_drew_alloc (w : World) (o : Obj) : Below w.heap.size w (w.drew.alloc o) := ((Below.refl _ _).drew).alloc (by simp) _
theorem app_own_sound (hrel : Rel w0 U E nt st a w η) {t t2 : TypeId} {ts : Array TypeId} {ty : TypeId} {z by_ s0 off n m s tt : Nat} {x : D} {u1 u2 : Value} {cs ys : List V} (hc : cApp P t t2 = some (.app z by_)) (h0 : ts[0]? = some t) (h1 : ts[1]? = some t2)
    (hx1 : RepD w (Ok U st.objs η w) η (.own s0 z off n) u1) (hx2 : RepD w (Ok U st.objs η w) η x u2) (hcs : look st.objs s0 = some cs) (hys : appArg st.objs z x = some (m, ys)) (hend : off + n * z = cs.length)
    (hroom : (n + m) * by_ ≤ 2 ^ 47) (hone : ys.all V.one = true) (hn : tt < nt) (hby : by_ ≠ 0) :
    ∃ u' w' η', (Builtin.append_ ts ty #[u1, u2]).run P w = .ok u' w' ∧ Rel w0 U E nt ((st.move s0 s (cs.drop off ++ ys)).put (some tt) (.own s z 0 (n + m))) (a.put (some tt) u') w' η' := by
  unfold cApp at hc
  split at hc
  case h_2 => cases hc
  rename_i e e2 hu hu2
  split at hc
  case h_2 => cases hc
  rename_i z' b' zero hz hb hzero
  split at hc <;> cases hc
  rename_i hzl
  obtain ⟨hzl, hz0⟩ := hzl
  obtain ⟨us, hr, hyr, hm, hyl⟩ := appArg_reads hrel hx2 hys
  have hdl : (cs.drop off).length = n * z := by simp; omega
  have hones : ∀ v ∈ us, v.oneCell' = true := fun v hv => by
    obtain ⟨i, hi⟩ := List.mem_iff_getElem?.1 hv
    have hlt : i < ys.length := by rw [← hyr.1]; exact (List.getElem?_eq_some_iff.1 hi).1
    obtain ⟨u', hu', hr'⟩ := hyr.2 i _ (List.getElem?_eq_getElem hlt)
    rw [hi] at hu'
    cases hu'
    exact one_rep hr' (List.all_eq_true.1 hone _ (List.getElem_mem hlt))
  -- a new block: what it holds
  have grown : ∀ (os : List Value) (c : Nat) (p : Option Addr), u1 = .slice p n c → Reads P w z n (.slice p n c) os → RepL w (Ok U st.objs η w) (cs.drop off) os → ¬ n + m ≤ c →
      ∃ u' w' η', (Builtin.append_ ts ty #[u1, u2]).run P w = .ok u' w' ∧ Rel w0 U E nt ((st.move s0 s (cs.drop off ++ ys)).put (some tt) (.own s z 0 (n + m))) (a.put (some tt) u') w' η' := fun os c p hu1 ho hor hf => by
    subst hu1
    obtain ⟨cap, rest, k1, k2, k3⟩ := run_append_new (P := P) (ty := ty) h0 h1 hu ⟨e2, hu2⟩ hz hb hzero hm hr ho hf hroom hby hzl
    have hbel := below_drew_alloc w (.cells (os.toArray ++ us.toArray ++ rest) e)
    have hall := hor.append hyr
    have hlen : (cs.drop off ++ ys).length = (n + m) * z := by rw [List.length_append, hdl, hyl, Nat.add_mul]
    have hsz : (os.toArray ++ us.toArray ++ rest).size = (n + m) * z + (cap - (n + m)) * z := by
      have := hall.1
      rw [hlen] at this
      simp only [List.length_append] at this
      simp [k2]; omega
    have hsz' : (os.toArray ++ us.toArray ++ rest).size = cap * z := by
      rw [hsz, ← Nat.add_mul]; congr 1; omega
    have hd := hrel.drop s0
    have hok0 : ∀ b', Ok U st.objs η w b' → Ok U (rid st.objs s0) η w b' := fun b' hb' => ⟨hb'.1, hb'.2.1, fun s' cs' o' h1 h2 => by
      rw [look_rid] at h1
      split at h1
      · cases h1
      · exact hb'.2.2 _ _ _ h1 h2⟩
    have hr2 := hd.fresh hbel (s := s) (cs := cs.drop off ++ ys) (x := some (w.heap.size, 0)) ⟨Nat.le_refl _, by simp, fun ok' hk => by
      have hll := new_lies (w := w.drew) (e := e) (cs := cs.drop off ++ ys) (cu := os.toArray ++ us.toArray ++ rest) (ok := Ok U st.objs η w) (fun i v hi => by
        obtain ⟨u, hu, hv⟩ := hall.2 i v hi
        have hlt : i < (os ++ us).length := (List.getElem?_eq_some_iff.1 hu).1
        have : (os.toArray ++ us.toArray ++ rest).getD i undef = u := by
          have e1 : os.toArray ++ us.toArray ++ rest = (os ++ us ++ rest.toList).toArray := by apply Array.ext'; simp
          rw [e1, Array.getD_eq_getD_getElem?, List.getElem?_toArray, List.getElem?_append_left hlt, hu]
          rfl
        rw [this]
        exact RepV.mono (w := w) (w' := w.drew) (ok := Ok U st.objs η w) (ok' := Ok U st.objs η w) (fun b hb => ⟨hb, rfl⟩) hv) (by rw [hsz, hlen]; omega) (fun b hb => hb.1) (ok' := ok') (fun b hb => hk b (hok0 b hb))
      exact hll⟩
    refine ⟨_, _, η.set s (some (w.heap.size, 0)), k3, hr2.put (dst := some tt) (.own s z 0 (n + m) _ 0 cap Eta.set_same k1 ?_) (fun t ht => by cases ht; exact hn)⟩
    have hh : (w.drew.alloc (.cells (os.toArray ++ us.toArray ++ rest) e)).heap[w.heap.size]? = some (.cells (os.toArray ++ us.toArray ++ rest) e) := by show (w.heap.push _)[w.heap.size]? = _; simp
    simp only [rowSize, hh]
    omega
  cases hx1 with
  | own0 _ _ _ p =>
    by_cases hm0 : m = 0
    · subst hm0
      have hys0 : ys = [] := by have : ys.length = 0 := by omega
                                exact List.eq_nil_of_length_eq_zero this
      subst hys0
      have hd0 : cs.drop off = [] := List.eq_nil_of_length_eq_zero (by omega)
      obtain rfl : us = [] := by have := hyr.1; simpa using this
      have hd := hrel.drop s0
      have hr2 := hd.fresh (Below.refl _ w) (s := s) (cs := []) (x := none) rfl
      obtain ⟨p2, c2, rfl⟩ := hm
      have hrun : (Builtin.append_ ts ty #[.slice p 0 0, .slice p2 0 c2]).run P w = .ok (.slice p 0 0) w := by
        cases p <;> simp [Builtin.append_, h0, h1, run_underlying hu, run_underlying hu2, run_size hz, Builtin.lenOf, hr w rfl, storeCells]
      refine ⟨_, _, η.set s none, hrun, ?_⟩
      rw [hd0]
      exact hr2.put (dst := some tt) (.own0 s z 0 p) (fun t ht => by cases ht; exact hn)
    · refine grown [] 0 p rfl reads_nil ?_ (by omega)
      rw [List.eq_nil_of_length_eq_zero (show (cs.drop off).length = 0 by omega)]
      exact .nil
  | own _ _ _ _ b o cap hη hl hcap =>
    have hob := hrel.objs s0 cs hcs
    have hlies0 := fun i v hi => hob.lies (off := off) hη i v hi
    by_cases hf : n + m ≤ cap
    · unfold RepO at hob
      rw [hη] at hob
      obtain ⟨c, e', fr, g1, g2, g3, g4⟩ := hob
      have hrow : rowSize w b = c.size := by simp [rowSize, g1]
      have hfit : o + off + n * z + us.length ≤ c.size := by
        rw [hyr.1, hyl]
        have : n * z + m * z ≤ cap * z := by rw [← Nat.add_mul]; exact Nat.mul_le_mul_right _ hf
        omega
      obtain ⟨w', k1, k2, k3⟩ := run_storeCells (P := P) b us (o + off + n * z) 0 c e' fr w g1 (by omega) (fun j _ hj' => g3.not j hj') hones
      obtain ⟨w'', k1', k4⟩ := run_append_in (P := P) (ty := ty) h0 h1 hu ⟨e2, hu2⟩ hz hm hr hf ⟨w', k1⟩
      rw [k1] at k1'
      cases k1'
      rw [Nat.add_zero] at k3
      have hr2 := hrel.move (s := s) (o := o + off) (cs := cs.drop off ++ ys) hcs hη k2 fun ok' hk => by
        refine (grow_lies (w := w) (c := c) (us := us) (e := e') (fr := fr) (ok := Ok U st.objs η w) (by rw [hdl]; exact k3) (by rw [hdl, ← hyr.1]; exact hfit) g3 (fun i v hi => ?_) hyr (fun v u h => ok_row hrel hcs hη k2 v u h)).mono hk
        rw [List.getElem?_drop] at hi
        have := g4 _ v hi
        rwa [show o + (off + i) = o + off + i by omega] at this
      refine ⟨_, _, η.set s (some (b, o + off)), k4, hr2.put (dst := some tt) ?_ (fun t ht => by cases ht; exact hn)⟩
      have := RepD.own (w := w') (ok := Ok U (st.move s0 s (cs.drop off ++ ys)).objs (η.set s (some (b, o + off))) w') (η := η.set s (some (b, o + off))) s z 0 (n + m) b (o + off) cap Eta.set_same hf (by rw [k2.row]; omega)
      simpa using this
    · obtain ⟨os, h2, h3⟩ := reads_lies (P := P) (w := w) (ok := Ok U st.objs η w) (b := b) (o := o + off) (n := n) (c := cap) hdl hlies0
      exact grown os cap _ rfl h2 h3 hf
end
end Go.Proofs.YtljcbmnkjiogmaaDoor.Sv
/-! Calls, and one operation's step. -/
namespace Go.Proofs.YtljcbmnkjiogmaaDoor.Sv
open Go Go.RowKit
set_option linter.unusedVariables false
set_option linter.unusedSimpArgs false

/-- An append onto a value by itself that has no room. -/
def appV (objs : List (Nat × List V)) (z by_ : Nat) : List D → Option D
  | [.v (.sl n xs true), x] => (appArg objs z x).bind fun (m, ys) => if xs.length = n * z ∧ (n + m) * by_ ≤ 2 ^ 47 ∧ by_ ≠ 0 then some (.v (.sl (n + m) (xs ++ ys) false)) else none
  | _ => none
/-- A row of one's own, marked behind its last cell. -/
def cvD (objs : List (Nat × List V)) : List D → Option D
  | [.own s z off ln] => if ln = 0 then none else (look objs s).map fun _ => .own s z off ln
  | _ => none
/-- What an operation yields that only reads, an append onto a value by itself among them. -/
def SO.rdx (objs : List (Nat × List V)) (so : SO) (ds : List D) : Option D :=
  match so with
  | .app z by_ => appV objs z by_ ds
  | .appv z by_ => appV objs z by_ ds
  | .cv => cvD objs ds
  | so => so.rd objs ds
/-- What an argument reads as when it is handed on. -/
def snapV (objs : List (Nat × List V)) : D → Option V
  | .v x => some x
  | .own s z off ln => (look objs s).map fun cs => .sl ln ((cs.drop off).take (ln * z)) false
  | .ref s off => (look objs s).map fun cs => .ip (cs.drop off)
  | .dead => none
def snapL (objs : List (Nat × List V)) : List D → Option (List V)
  | [] => some []
  | d :: ds => match snapV objs d, snapL objs ds with
    | some v, some vs => some (v :: vs)
    | _, _ => none
def D.isV : D → Bool
  | .v _ => true
  | _ => false
/-- A value that leads nowhere. -/
def V.flat1 : V → Bool
  | .b _ | .n _ _ | .s _ | .nilp | .nilf | .nili => true
  | _ => false
def V.flat : V → Bool
  | .tup xs => xs.all V.flat1
  | .agg xs => xs.all V.flat1
  | v => v.flat1
def CallOk (P : Program) (f : FuncId) (args : Array Value) (w : World) (R : Ending → World → Prop) : Prop :=
  match (callFunc f args).run P w with
  | .ok (.enter g as_) w1 => g = f ∧ as_ = args ∧ w1 = w ∧ Calls P f args w R
  | .ok (.value v) w1 => R (.returned v) w1
  | _ => False
/-- A call that turns nothing that was there and hands back r, whatever memory it finds its arguments in; what it hands back lies apart from the blocks of U, if the arguments do. -/
def Pure (P : Program) (f : FuncId) (args : List V) (r : V) : Prop :=
  ∀ (w : World) (U : Nat → Prop) (us : List Value), Laid w → (∀ b, U b → b < w.heap.size) → RepL w (fun b => b < w.heap.size ∧ ¬ U b) args us →
    CallOk P f us.toArray w fun e w' => ∃ u, e = .returned u ∧ RepV w' (fun b => b < w'.heap.size ∧ ¬ U b) r u ∧ Below w.heap.size w w'
/-! ### Calls that write to an object that they are handed -/
/-- The same of the object named k. -/
def D.rekey (k : Nat) : D → D
  | .v x => .v x
  | .ref _ o => .ref k o
  | .own _ z o l => .own k z o l
  | .dead => .dead
def onlyZ : D → Bool
  | .own 0 _ 0 _ | .ref 0 0 => true
  | _ => false
def resZ : D → Bool
  | .v _ | .own 0 _ _ _ | .ref 0 _ => true
  | _ => false
def okMu (w : World) (U : Nat → Prop) (pl : Option (Nat × Nat)) (b : Nat) : Prop := b < w.heap.size ∧ ¬ U b ∧ ∀ o, pl ≠ some (b, o)
/-- Of what was there only the block at pl is written, and no block changes its size. -/
structure Turned (w w' : World) (pl : Option (Nat × Nat)) : Prop where
  os : w'.os = w.os
  tape : w'.tape = w.tape
  output : w'.output = w.output
  size : w.heap.size ≤ w'.heap.size
  block : ∀ k, k < w.heap.size → (∀ o, pl ≠ some (k, o)) → w'.heap[k]? = w.heap[k]?
  row : ∀ k, k < w.heap.size → rowSize w' k = rowSize w k
/-- A call that is handed values and one object (named 0), with the cells cs; it hands back r and leaves the cells cs'. -/
def Mut (P : Program) (f : FuncId) (pre : List V) (d : D) (cs : List V) (post : List V) (r : D) (cs' : List V) : Prop :=
  resZ r = true ∧ ∀ (w : World) (U : Nat → Prop) (pl : Option (Nat × Nat)) (us1 : List Value) (u : Value) (us2 : List Value), Laid w → (∀ b o, pl = some (b, o) → ¬ laidB b) → (∀ b, U b → b < w.heap.size) → (∀ b o, pl = some (b, o) → ¬ U b ∧ b < w.heap.size) →
    RepL w (okMu w U pl) pre us1 → RepD w (okMu w U pl) (fun _ => pl) d u → RepL w (okMu w U pl) post us2 → RepO w (okMu w U pl) (fun _ => pl) 0 cs →
    CallOk P f (us1 ++ u :: us2).toArray w fun e w' => ∃ ur, e = .returned ur ∧ RepD w' (okMu w' U pl) (fun _ => pl) r ur ∧ RepO w' (okMu w' U pl) (fun _ => pl) 0 cs' ∧ Turned w w' pl
/-- A call that is handed values and one row of one's own (named 0, n elements from its beginning on); it hands back that row, turned and perhaps grown, in its block or in a new one. -/
def Mov (P : Program) (f : FuncId) (pre : List V) (z n : Nat) (cs : List V) (post : List V) (m : Nat) (cs' : List V) : Prop :=
  ∀ (w : World) (U : Nat → Prop) (pl : Option (Nat × Nat)) (us1 : List Value) (u : Value) (us2 : List Value), Laid w → (∀ b o, pl = some (b, o) → ¬ laidB b) → (∀ b, U b → b < w.heap.size) → (∀ b o, pl = some (b, o) → ¬ U b ∧ b < w.heap.size) →
    RepL w (okMu w U pl) pre us1 → RepD w (okMu w U pl) (fun _ => pl) (.own 0 z 0 n) u → RepL w (okMu w U pl) post us2 → RepO w (okMu w U pl) (fun _ => pl) 0 cs →
    CallOk P f (us1 ++ u :: us2).toArray w fun e w' => ∃ ur pl', e = .returned ur ∧ (∀ b o, pl' = some (b, o) → (∃ o', pl = some (b, o')) ∨ (w.heap.size ≤ b ∧ b < w'.heap.size)) ∧
      RepD w' (okMu w' U pl') (fun _ => pl') (.own 0 z 0 m) ur ∧ RepO w' (okMu w' U pl') (fun _ => pl') 0 cs' ∧ Turned w w' pl
/-- A call that is handed values and hands back a new row (n elements of z cells each, the cells cs). -/
def New (P : Program) (f : FuncId) (args : List V) (z n : Nat) (cs : List V) : Prop :=
  ∀ (w : World) (U : Nat → Prop) (us : List Value), Laid w → (∀ b, U b → b < w.heap.size) → RepL w (fun b => b < w.heap.size ∧ ¬ U b) args us →
    CallOk P f us.toArray w fun e w' => ∃ ur pl, e = .returned ur ∧ (∀ b o, pl = some (b, o) → w.heap.size ≤ b ∧ b < w'.heap.size) ∧
      RepD w' (okMu w' U pl) (fun _ => pl) (.own 0 z 0 n) ur ∧ RepO w' (okMu w' U pl) (fun _ => pl) 0 cs ∧ Below w.heap.size w w'
/-- An operation, its types looked up and its guard's slot. -/
structure SOp where
  dst : Option Nat
  guard : Option (Nat × Bool)
  so : SO
  args : List Opd
def evs (st : St) : List Opd → Option (List D)
  | [] => some []
  | x :: xs => match x.ev st, evs st xs with
    | some d, some ds => some (d :: ds)
    | _, _ => none
/-- The step of an operation that is wanted. -/
inductive Step (P : Program) (o : SOp) (st : St) : St → Prop
  | rd (ds : List D) (d : D) (h1 : evs st o.args = some ds) (h2 : o.so.rdx st.objs ds = some d) : Step P o st (st.put o.dst d)
  | ef (ds : List D) (st' : St) (h1 : evs st o.args = some ds) (h2 : o.so.ef st o.dst ds = some st') : Step P o st st'
  | call (f : FuncId) (ds : List D) (vs : List V) (r : V) (hf : o.so = .call f) (h1 : evs st o.args = some ds) (h2 : snapL st.objs ds = some vs) (h3 : Pure P f vs r)
      (h4 : ds.all D.isV = true ∨ r.flat = true) : Step P o st (st.put o.dst (.v r))
  | callD (f : FuncId) (first cap : List V) (ds : List D) (vs : List V) (r : V) (hf : o.so = .callD) (h1 : evs st o.args = some (.v (.clo (.func f) first cap) :: ds)) (h2 : snapL st.objs ds = some vs) (h3 : Pure P f (first ++ vs ++ cap) r)
      (h4 : ds.all D.isV = true ∨ r.flat = true) : Step P o st (st.put o.dst (.v r))
  | callM (f : FuncId) (pre post : List V) (d : D) (s : Nat) (cs cs' : List V) (r : D) (hf : o.so = .callM f) (h1 : evs st o.args = some (pre.map .v ++ d.rekey s :: post.map .v)) (hz : onlyZ d = true) (h2 : look st.objs s = some cs) (h3 : Mut P f pre d cs post r cs') :
      Step P o st ((⟨st.ρ, upd st.objs s cs'⟩ : St).put o.dst (r.rekey s))
  | callV (f : FuncId) (pre post : List V) (s z n m : Nat) (cs cs' : List V) (hf : o.so = .callV f) (h1 : evs st o.args = some (pre.map .v ++ .own s z 0 n :: post.map .v)) (h2 : look st.objs s = some cs) (h3 : Mov P f pre z n cs post m cs') :
      Step P o st ((st.move s s cs').put o.dst (.own s z 0 m))
  | callN (f : FuncId) (ds : List D) (vs : List V) (t z n : Nat) (cs : List V) (hf : o.so = .callN f) (hd : o.dst = some t) (h1 : evs st o.args = some ds) (h2 : snapL st.objs ds = some vs) (h3 : New P f vs z n cs)
      (h4 : ds.all D.isV = true ∨ cs.all V.flat1 = true) : Step P o st ((st.fresh t cs).put o.dst (.own t z 0 n))
/-- The slot of a guard does not want it. -/
def isOff (want : Bool) : Option D → Bool
  | some (.v (.b x)) => x != want
  | some (.v (.tup [])) => true
  | _ => false
/-- The step of an operation, wanted or not. -/
inductive GStep (P : Program) (o : SOp) (st : St) : St → Prop
  | yes (st' : St) (h : Step P o st st') (hg : o.guard = none ∨ ∃ g want, o.guard = some (g, want) ∧ look st.ρ g = some (.v (.b want))) : GStep P o st st'
  | no (g : Nat) (want : Bool) (hg : o.guard = some (g, want)) (h : isOff want (look st.ρ g) = true) : GStep P o st (st.put o.dst (.v (.tup [])))
section
variable {P : Program} {w w0 w' : World} {U E : Nat → Prop} {nt : Nat} {st st' : St} {a : Act} {η : Eta} {ok : Nat → Prop}
theorem flat1_rep {v : V} {u : Value} {w1 : World} {ok1 : Nat → Prop} (h : RepV w ok v u) (hf : v.flat1 = true) : RepV w1 ok1 v u := by
  cases h <;> first | (simp [V.flat1] at hf; done) | constructor
theorem flat_rep {v : V} {u : Value} {w1 : World} {ok1 : Nat → Prop} (h : RepV w ok v u) (hf : v.flat = true) : RepV w1 ok1 v u := by
  cases h with
  | agg xs us hl hr => exact .agg xs us hl fun i v hi => flat1_rep (hr i v hi) (List.all_eq_true.1 hf _ (List.mem_of_getElem? hi))
  | tup xs us hl hr => exact .tup xs us hl fun i v hi => flat1_rep (hr i v hi) (List.all_eq_true.1 hf _ (List.mem_of_getElem? hi))
  | b x => exact .b x
  | n k x => exact .n k x
  | s x => exact .s x
  | nilp => exact .nilp
  | nilf => exact .nilf
  | nili => exact .nili
  | ip => simp [V.flat, V.flat1] at hf
  | sl0 => simp [V.flat, V.flat1] at hf
  | sl => simp [V.flat, V.flat1] at hf
  | clo => simp [V.flat, V.flat1] at hf
  | ifc => simp [V.flat, V.flat1] at hf
theorem isV_snap {objs : List (Nat × List V)} : ∀ {ds : List D} {vs : List V}, ds.all D.isV = true → snapL objs ds = some vs → allV ds = some vs
  | [], vs, _, h => by cases h; rfl
  | d :: ds, vs, ha, h => by
    simp only [List.all_cons, Bool.and_eq_true] at ha
    unfold snapL at h
    split at h <;> cases h
    rename_i v vs' h1 h2
    have ih := isV_snap ha.2 h2
    cases d with
    | v x => cases h1; simp [allV, ih]
    | ref => simp [D.isV] at ha
    | own => simp [D.isV] at ha
    | dead => simp [D.isV] at ha
theorem snap_rep' {ok' : Nat → Prop} (hrel : Rel w0 U E nt st a w η) (hok : ∀ b, Ok U st.objs η w b → ok' b) {d : D} (hblk : ∀ s cs b o, d.ment s = true → look st.objs s = some cs → η s = some (b, o) → ok' b) {u : Value} {v : V}
    (hd : RepD w (Ok U st.objs η w) η d u) (h : snapV st.objs d = some v) : RepV w ok' v u := by
  have hm : ∀ {v : V} {u : Value}, RepV w (Ok U st.objs η w) v u → RepV w ok' v u := fun hr => hr.mono fun b hb => ⟨hok b hb, rfl⟩
  have blk := hblk
  cases hd with
  | v x u hx => cases h; exact hm hx
  | ref s off b o hη =>
    simp only [snapV, Option.map_eq_some_iff] at h
    obtain ⟨cs, hcs, rfl⟩ := h
    obtain ⟨us, h1, h2⟩ := lies_list (w := w) (ok := ok') b (cs.drop off) (o + off) (fun i v hi => by
      obtain ⟨x, hx, hr⟩ := (hrel.objs s cs hcs).lies hη i v hi
      exact ⟨x, hx, hm hr⟩)
    refine .ip _ (fun i => us.getD i undef) b (o + off) (blk s cs b o (by simp [D.ment]) hcs hη) (fun i v hi => ?_) (fun i v hi => ?_)
    · obtain ⟨u, hu, hr⟩ := h1.2 i v hi
      have := h2 i u hu
      rw [add_plain] at this
      simp only [List.getD, hu, Option.getD_some]
      exact this
    · obtain ⟨u, hu, hr⟩ := h1.2 i v hi
      simp only [List.getD, hu, Option.getD_some]
      exact hr
  | own0 s z off p =>
    simp only [snapV, Option.map_eq_some_iff] at h
    obtain ⟨cs, hcs, rfl⟩ := h
    simpa using RepV.sl0 _ p
  | own s z off ln b o cap hη hl hc =>
    simp only [snapV, Option.map_eq_some_iff] at h
    obtain ⟨cs, hcs, rfl⟩ := h
    obtain ⟨us, h1, h2⟩ := lies_list (w := w) (ok := ok') b ((cs.drop off).take (ln * z)) (o + off) (fun i v hi => by
      rw [List.getElem?_take] at hi
      split at hi
      · obtain ⟨x, hx, hr⟩ := (hrel.objs s cs hcs).lies hη i v hi
        exact ⟨x, hx, hm hr⟩
      · cases hi)
    refine .sl _ _ _ (fun i => us.getD i undef) b (o + off) cap (blk s cs b o (by simp [D.ment]) hcs hη) hl (fun h => by cases h) (fun i v hi => ?_) (fun i v hi => ?_)
    · obtain ⟨u, hu, hr⟩ := h1.2 i v hi
      have := h2 i u hu
      rw [add_plain] at this
      simp only [List.getD, hu, Option.getD_some]
      exact this
    · obtain ⟨u, hu, hr⟩ := h1.2 i v hi
      simp only [List.getD, hu, Option.getD_some]
      exact hr
  | dead => cases h
theorem snap_rep (hrel : Rel w0 U E nt st a w η) {d : D} {u : Value} {v : V} (hd : RepD w (Ok U st.objs η w) η d u) (h : snapV st.objs d = some v) : RepV w (fun b => b < w.heap.size ∧ ¬ U b) v u :=
  snap_rep' hrel (fun b hb => ⟨hb.1, hb.2.1⟩) (fun s cs b o _ h1 h2 => by
    obtain ⟨h3, h4⟩ := hrel.lies s cs b o h1 h2
    refine ⟨h4, fun hu => ?_⟩
    have hU := hrel.uold b hu
    rcases h3 with h3 | h3
    · have := hU.1; omega
    · exact hU.2 h3) hd h
theorem snapL_rep (hrel : Rel w0 U E nt st a w η) : ∀ {ds : List D} {us : List Value} {vs : List V}, RepDL w (Ok U st.objs η w) η ds us → snapL st.objs ds = some vs → RepL w (fun b => b < w.heap.size ∧ ¬ U b) vs us
  | [], us, vs, hd, h => by cases h; rw [hd.nil_eq]; exact .nil
  | d :: ds, us, vs, hd, h => by
    obtain ⟨u, us', rfl, h1, h2⟩ := hd.head
    unfold snapL at h
    split at h <;> cases h
    rename_i v vs' g1 g2
    exact .cons (snap_rep hrel h1 g1) (snapL_rep hrel h2 g2)
/-- A call leaves a state that tells it. -/
theorem call_sound (hrel : Rel w0 U E nt st a w η) {f : FuncId} {ds : List D} {us : List Value} {vs first cap : List V} {fs cs : List Value} {r : V} {dst : Option Nat} (hd : RepDL w (Ok U st.objs η w) η ds us) (h2 : snapL st.objs ds = some vs)
    (hf : RepL w (Ok U st.objs η w) first fs) (hc : RepL w (Ok U st.objs η w) cap cs) (h3 : Pure P f (first ++ vs ++ cap) r) (h4 : ds.all D.isV = true ∨ r.flat = true) (hn : ∀ t, dst = some t → t < nt) :
    CallOk P f (fs ++ us ++ cs).toArray w fun e w' => ∃ u, e = .returned u ∧ RelX w0 U E nt (st.put dst (.v r)) (a.put dst u) w' := by
  have hU : ∀ b, U b → b < w.heap.size := fun b hb => Nat.lt_of_lt_of_le (hrel.uold b hb).1 hrel.keeps.size
  have fin : ∀ (R R' : Ending → World → Prop), (∀ e w', R e w' → R' e w') → CallOk P f (fs ++ us ++ cs).toArray w R → CallOk P f (fs ++ us ++ cs).toArray w R' := fun R R' hRR h => by
    unfold CallOk at h ⊢
    split at h
    · obtain ⟨g1, g2, g3, g4⟩ := h
      exact ⟨g1, g2, g3, g4.mono hRR⟩
    · exact hRR _ _ h
    · exact h.elim
  have hm : ∀ {v : V} {u : Value}, RepV w (Ok U st.objs η w) v u → RepV w (fun b => b < w.heap.size ∧ ¬ U b) v u := fun hr => hr.mono fun b hb => ⟨⟨hb.1, hb.2.1⟩, rfl⟩
  rcases h4 with h4 | h4
  · -- all arguments are values by themselves: the call's own objects are out of its reach
    have hvs := hd.vals (isV_snap h4 h2)
    let U' : Nat → Prop := fun b => U b ∨ ∃ s cs o, look st.objs s = some cs ∧ η s = some (b, o)
    have hU' : ∀ b, U' b → b < w.heap.size := fun b hb => by
      rcases hb with hb | ⟨s, cs, o, g1, g2⟩
      · exact hU b hb
      · exact (hrel.lies s cs b o g1 g2).2
    have hcv : ∀ {v : V} {u : Value}, RepV w (Ok U st.objs η w) v u → RepV w (fun b => b < w.heap.size ∧ ¬ U' b) v u := fun hr => hr.mono fun b hb => ⟨⟨hb.1, fun hu => by
      rcases hu with hu | ⟨s, cs, o, g1, g2⟩
      · exact hb.2.1 hu
      · exact hb.2.2 s cs o g1 g2⟩, rfl⟩
    have hcl : ∀ {vs : List V} {us : List Value}, RepL w (Ok U st.objs η w) vs us → RepL w (fun b => b < w.heap.size ∧ ¬ U' b) vs us := fun hr => ⟨hr.1, fun i v hi => let ⟨u, g1, g2⟩ := hr.2 i v hi; ⟨u, g1, hcv g2⟩⟩
    refine fin _ _ (fun e w' ⟨u, he, hr, hb⟩ => ⟨u, he, η, ?_⟩) (h3 w U' _ hrel.keeps.now hU' (((hcl hf).append (hcl hvs)).append (hcl hc)))
    refine (hrel.below hb).put (.v _ _ (hr.mono fun b hb' => ⟨⟨hb'.1, fun hu => hb'.2 (.inl hu), fun s cs o g1 g2 => hb'.2 (.inr ⟨s, cs, o, g1, g2⟩)⟩, rfl⟩)) hn
  · have hcl : ∀ {vs : List V} {us : List Value}, RepL w (Ok U st.objs η w) vs us → RepL w (fun b => b < w.heap.size ∧ ¬ U b) vs us := fun hr => ⟨hr.1, fun i v hi => let ⟨u, g1, g2⟩ := hr.2 i v hi; ⟨u, g1, hm g2⟩⟩
    refine fin _ _ (fun e w' ⟨u, he, hr, hb⟩ => ⟨u, he, η, ?_⟩) (h3 w U _ hrel.keeps.now hU (((hcl hf).append (snapL_rep hrel hd h2)).append (hcl hc)))
    exact (hrel.below hb).put (.v _ _ (flat_rep hr h4)) hn
theorem RepDL.vs : ∀ {vs : List V} {us : List Value}, RepDL w ok η (vs.map .v) us → RepL w ok vs us
  | [], us, h => by rw [h.nil_eq]; exact .nil
  | v :: vs, us, h => by
    obtain ⟨u, us', rfl, h1, h2⟩ := h.head
    cases h1 with | v _ _ h1 =>
    exact .cons h1 h2.vs
theorem RepDL.split : ∀ {vs : List V} {ds : List D} {us : List Value}, RepDL w ok η (vs.map .v ++ ds) us → ∃ us1 us2, us = us1 ++ us2 ∧ RepL w ok vs us1 ∧ RepDL w ok η ds us2
  | [], ds, us, h => ⟨[], us, rfl, .nil, h⟩
  | v :: vs, ds, us, h => by
    obtain ⟨u, us', rfl, h1, h2⟩ := h.head
    cases h1 with | v _ _ h1 =>
    obtain ⟨us1, us2, rfl, h3, h4⟩ := h2.split
    exact ⟨u :: us1, us2, rfl, .cons h1 h3, h4⟩
theorem RepD.rekey {ok' : Nat → Prop} {η' : Eta} {d : D} {s s' : Nat} {u : Value} (hk : ∀ b, ok b → ok' b) (hη : ∀ x, η s = some x → η' s' = some x) (h : RepD w ok η (d.rekey s) u) : RepD w ok' η' (d.rekey s') u := by
  cases d with
  | v x => cases h with | v _ _ h => exact .v _ _ (h.mono fun b hb => ⟨hk b hb, rfl⟩)
  | ref k o => cases h with | ref _ _ b o' h => exact .ref _ _ _ _ (hη _ h)
  | own k z o l =>
    cases h with
    | own0 _ _ _ p => exact .own0 _ _ _ _
    | own _ _ _ _ b o' cap h hl hc => exact .own _ _ _ _ _ _ _ (hη _ h) hl hc
  | dead => exact .dead _
theorem RepO.rekey {ok' : Nat → Prop} {η' : Eta} {s s' : Nat} {cs : List V} (hk : ∀ b, ok b → ok' b) (hη : η' s' = η s) (h : RepO w ok η s cs) : RepO w ok' η' s' cs := by
  unfold RepO at h ⊢
  rw [hη]
  cases hs : η s with
  | none => rw [hs] at h; exact h
  | some bo =>
    obtain ⟨b, o⟩ := bo
    rw [hs] at h
    obtain ⟨c, e, fr, h1, h2, h3, h4⟩ := h
    exact ⟨c, e, fr, h1, h2, h3, fun i v hv => (h4 i v hv).mono fun b hb => ⟨hk b hb, rfl⟩⟩
/-- An object's block was written, and new blocks were made. -/
theorem Rel.turned (h : Rel w0 U E nt st a w η) {s : Nat} {cs cs0 : List V} (hs : look st.objs s = some cs0) (ht : Turned w w' (η s))
    (hO : ∀ ok', (∀ b', b' < w'.heap.size → ¬ U b' → (∀ s' cs' o, look st.objs s' = some cs' → η s' ≠ some (b', o)) → ok' b') → RepO w' ok' η s cs) : Rel w0 U E nt ⟨st.ρ, upd st.objs s cs⟩ a w' η := by
  have hlu : ∀ t, look (upd st.objs s cs) t = if t = s then some cs else look st.objs t := fun t => by rw [look_upd, hs]; rfl
  have hok' : ∀ b', b' < w'.heap.size → ¬ U b' → (∀ s' cs' o, look st.objs s' = some cs' → η s' ≠ some (b', o)) → Ok U (upd st.objs s cs) η w' b' := fun b' h1 h2 h3 => ⟨h1, h2, fun s' cs' o' g1 g2 => by
    rw [hlu] at g1
    split at g1
    · rename_i e; subst e; exact h3 _ _ _ hs g2
    · exact h3 _ _ _ g1 g2⟩
  have hok : ∀ b', Ok U st.objs η w b' → Ok U (upd st.objs s cs) η w' b' := fun b' hb' => hok' b' (Nat.lt_of_lt_of_le hb'.1 ht.size) hb'.2.1 hb'.2.2
  have hne : ∀ b', Ok U st.objs η w b' → ∀ o, η s ≠ some (b', o) := fun b' hb' o e => hb'.2.2 s cs0 o hs e
  have hv : ∀ v u, RepV w (Ok U st.objs η w) v u → RepV w' (Ok U (upd st.objs s cs) η w') v u := fun v u hr => hr.mono fun b' hb' => ⟨hok b' hb', ht.block b' hb'.1 (hne b' hb')⟩
  refine ⟨h.size, h.defers, ⟨h.keeps.laid, h.keeps.apart, ht.os.trans h.keeps.os, ht.tape.trans h.keeps.tape, ht.output.trans h.keeps.output, Nat.le_trans h.keeps.size ht.size, fun k hk hE => (ht.block k (Nat.lt_of_lt_of_le hk h.keeps.size) fun o e => ?_).trans (h.keeps.block k hk hE), fun k hk => (ht.row k (Nat.lt_of_lt_of_le hk h.keeps.size)).trans (h.keeps.row k hk)⟩, h.uold, fun t d htt => ?_, fun s' cs' hs' => ?_, fun s' cs' b' o' h1 h2 => ?_, fun s1 s2 cs1 cs2 b' o1 o2 h1 h2 h3 h4 => ?_⟩
  · rcases (h.lies _ _ _ _ hs e).1 with h1 | h1
    · omega
    · exact hE h1
  · refine ⟨(h.slots t d htt).1, (h.slots t d htt).2.change hv (fun b => ?_)⟩
    rcases Nat.lt_or_ge b w.heap.size with hb | hb
    · rw [ht.row b hb]; exact Nat.le_refl _
    · rw [rowSize_pos hb]; exact Nat.zero_le _
  · simp only at hs'
    rw [hlu] at hs'
    split at hs'
    · rename_i e; subst e; cases hs'; exact hO _ hok'
    · rename_i e
      refine (h.objs s' cs' hs').change rfl hv fun b o hb => ht.block b (h.lies _ _ _ _ hs' hb).2 fun o' e' => e (h.inj _ _ _ _ _ _ _ hs' hs hb e')
  · simp only at h1
    rw [hlu] at h1
    split at h1
    · rename_i e; subst e
      obtain ⟨g1, g2⟩ := h.lies _ _ _ _ hs h2
      exact ⟨g1, Nat.lt_of_lt_of_le g2 ht.size⟩
    · obtain ⟨g1, g2⟩ := h.lies _ _ _ _ h1 h2
      exact ⟨g1, Nat.lt_of_lt_of_le g2 ht.size⟩
  · simp only at h1 h2
    rw [hlu] at h1 h2
    have g1 : ∃ c, look st.objs s1 = some c := by
      split at h1
      · rename_i e; subst e; exact ⟨_, hs⟩
      · exact ⟨_, h1⟩
    have g2 : ∃ c, look st.objs s2 = some c := by
      split at h2
      · rename_i e; subst e; exact ⟨_, hs⟩
      · exact ⟨_, h2⟩
    obtain ⟨c1, g1⟩ := g1
    obtain ⟨c2, g2⟩ := g2
    exact h.inj _ _ _ _ _ _ _ g1 g2 h3 h4
theorem onlyZ_rekey {d : D} (h : onlyZ d = true) : d.rekey 0 = d := by
  unfold onlyZ at h
  split at h <;> first | rfl | cases h
theorem resZ_rekey {d : D} (h : resZ d = true) : d.rekey 0 = d := by
  unfold resZ at h
  split at h <;> first | rfl | cases h
theorem callM_sound (hrel : Rel w0 U E nt st a w η) {f : FuncId} {pre post : List V} {d r : D} {s : Nat} {cs cs' : List V} {us : List Value} {dst : Option Nat} (hd : RepDL w (Ok U st.objs η w) η (pre.map .v ++ d.rekey s :: post.map .v) us) (hz : onlyZ d = true)
    (hs : look st.objs s = some cs) (hM : Mut P f pre d cs post r cs') (hn : ∀ t, dst = some t → t < nt) :
    CallOk P f us.toArray w fun e w' => ∃ u, e = .returned u ∧ RelX w0 U E nt ((⟨st.ρ, upd st.objs s cs'⟩ : St).put dst (r.rekey s)) (a.put dst u) w' := by
  obtain ⟨us1, us2, rfl, h1, h2⟩ := hd.split
  obtain ⟨u, us2, rfl, h2, h3⟩ := h2.head
  have h3 := h3.vs
  obtain ⟨hr, hM⟩ := hM
  let U' : Nat → Prop := fun b => U b ∨ ∃ s' cs o, s' ≠ s ∧ look st.objs s' = some cs ∧ η s' = some (b, o)
  have hU' : ∀ b, U' b → b < w.heap.size := fun b hb => by
    rcases hb with hb | ⟨s', cs, o, _, g1, g2⟩
    · exact Nat.lt_of_lt_of_le (hrel.uold b hb).1 hrel.keeps.size
    · exact (hrel.lies s' cs b o g1 g2).2
  have hpl : ∀ b o, η s = some (b, o) → ¬ U' b ∧ b < w.heap.size := fun b o hb => by
    obtain ⟨g1, g2⟩ := hrel.lies _ _ _ _ hs hb
    refine ⟨fun hu => ?_, g2⟩
    rcases hu with hu | ⟨s', cs, o', h1, h2, h3⟩
    · have hu' := hrel.uold b hu
      rcases g1 with g1 | g1
      · have := hu'.1; omega
      · exact hu'.2 g1
    · exact h1 (hrel.inj _ _ _ _ _ _ _ h2 hs h3 hb)
  have hok : ∀ b, Ok U st.objs η w b → okMu w U' (η s) b := fun b hb => ⟨hb.1, fun hu => by
    rcases hu with hu | ⟨s', cs, o, _, g1, g2⟩
    · exact hb.2.1 hu
    · exact hb.2.2 s' cs o g1 g2, fun o e => hb.2.2 s cs o hs e⟩
  have hcl : ∀ {vs : List V} {us : List Value}, RepL w (Ok U st.objs η w) vs us → RepL w (okMu w U' (η s)) vs us := fun hr => ⟨hr.1, fun i v hi => let ⟨u, g1, g2⟩ := hr.2 i v hi; ⟨u, g1, g2.mono fun b hb => ⟨hok b hb, rfl⟩⟩⟩
  have hd0 : RepD w (okMu w U' (η s)) (fun _ => η s) d u := by
    have := h2.rekey (s' := 0) (η' := fun _ => η s) hok (fun x hx => hx)
    rwa [onlyZ_rekey hz] at this
  have hO : RepO w (okMu w U' (η s)) (fun _ => η s) 0 cs := (hrel.objs s cs hs).rekey hok rfl
  have hnl : ∀ b o, η s = some (b, o) → ¬ laidB b := fun b o hb hm => by
    rcases (hrel.lies _ _ _ _ hs hb).1 with g1 | g1
    · have := hrel.keeps.laid.lt hm; omega
    · exact hrel.keeps.apart b g1 hm
  have main := hM w U' (η s) us1 u us2 hrel.keeps.now hnl hU' hpl (hcl h1) hd0 (hcl h3) hO
  have fin : ∀ (R R' : Ending → World → Prop), (∀ e w', R e w' → R' e w') → CallOk P f (us1 ++ u :: us2).toArray w R → CallOk P f (us1 ++ u :: us2).toArray w R' := fun R R' hRR h => by
    unfold CallOk at h ⊢
    split at h
    · obtain ⟨g1, g2, g3, g4⟩ := h
      exact ⟨g1, g2, g3, g4.mono hRR⟩
    · exact hRR _ _ h
    · exact h.elim
  refine fin _ _ (fun e w' ⟨ur, he, k1, k2, k3⟩ => ⟨ur, he, η, ?_⟩) main
  have hlu : ∀ t, look (upd st.objs s cs') t = if t = s then some cs' else look st.objs t := fun t => by rw [look_upd, hs]; rfl
  refine (hrel.turned hs k3 fun ok' hk => k2.rekey (fun b hb => hk b hb.1 (fun hu => hb.2.1 (.inl hu)) fun s' cs0 o g1 g2 => ?_) rfl).put ?_ hn
  · by_cases e : s' = s
    · subst e; exact hb.2.2 o g2
    · exact hb.2.1 (.inr ⟨s', cs0, o, e, g1, g2⟩)
  · refine RepD.rekey (s := 0) (η := fun _ => η s) (ok := okMu w' U' (η s)) (fun b hb => ⟨hb.1, fun hu => hb.2.1 (.inl hu), fun s' cs0 o g1 g2 => ?_⟩) (fun x hx => hx) (by rw [resZ_rekey hr]; exact k1)
    simp only at g1
    rw [hlu] at g1
    split at g1
    · rename_i e; subst e; exact hb.2.2 o g2
    · rename_i e; exact hb.2.1 (.inr ⟨s', cs0, o, e, g1, g2⟩)
/-- An object's block was written, or it went on in a new one, and new blocks were made. -/
theorem Rel.moved (h : Rel w0 U E nt st a w η) {s : Nat} {cs cs0 : List V} {pl' : Option (Nat × Nat)} (hs : look st.objs s = some cs0) (ht : Turned w w' (η s)) (hp : ∀ b o, pl' = some (b, o) → (∃ o', η s = some (b, o')) ∨ (w.heap.size ≤ b ∧ b < w'.heap.size))
    (hO : ∀ ok', (∀ b', b' < w'.heap.size → ¬ U b' → (∀ s' cs' o, s' ≠ s → look st.objs s' = some cs' → η s' ≠ some (b', o)) → (∀ o, pl' ≠ some (b', o)) → ok' b') → RepO w' ok' (fun _ => pl') s cs) : Rel w0 U E nt (st.move s s cs) a w' (η.set s pl') := by
  have hlk : ∀ t cs', look (rid (rid st.objs s) s) t = some cs' → t ≠ s ∧ look st.objs t = some cs' := fun t cs' h1 => by
    rw [look_rid] at h1
    split at h1
    · cases h1
    · rename_i e1
      rw [look_rid, if_neg e1] at h1
      exact ⟨e1, h1⟩
  have hok' : ∀ b', b' < w'.heap.size → ¬ U b' → (∀ s' cs' o, s' ≠ s → look st.objs s' = some cs' → η s' ≠ some (b', o)) → (∀ o, pl' ≠ some (b', o)) → Ok U ((s, cs) :: rid (rid st.objs s) s) (η.set s pl') w' b' := fun b' h1 h2 h3 h4 => ⟨h1, h2, fun s' cs' o' g1 g2 => by
    simp only [look] at g1
    split at g1
    · rename_i e; subst e; rw [Eta.set_same] at g2; exact h4 _ g2
    · rename_i e
      obtain ⟨k1, k2⟩ := hlk _ _ g1
      rw [Eta.set_ne k1] at g2
      exact h3 _ _ _ k1 k2 g2⟩
  have hok : ∀ b', Ok U st.objs η w b' → Ok U ((s, cs) :: rid (rid st.objs s) s) (η.set s pl') w' b' := fun b' hb' => hok' b' (Nat.lt_of_lt_of_le hb'.1 ht.size) hb'.2.1 (fun s' cs' o _ g1 g2 => hb'.2.2 s' cs' o g1 g2) fun o e => by
    rcases hp _ _ e with ⟨o', h1⟩ | ⟨h1, _⟩
    · exact hb'.2.2 s cs0 o' hs h1
    · have := hb'.1; omega
  have hne : ∀ b', Ok U st.objs η w b' → ∀ o, η s ≠ some (b', o) := fun b' hb' o e => hb'.2.2 s cs0 o hs e
  have hv : ∀ v u, RepV w (Ok U st.objs η w) v u → RepV w' (Ok U ((s, cs) :: rid (rid st.objs s) s) (η.set s pl') w') v u := fun v u hr => hr.mono fun b' hb' => ⟨hok b' hb', ht.block b' hb'.1 (hne b' hb')⟩
  have hrow : ∀ b, rowSize w b ≤ rowSize w' b := fun b => by
    rcases Nat.lt_or_ge b w.heap.size with hb | hb
    · rw [ht.row b hb]; exact Nat.le_refl _
    · rw [rowSize_pos hb]; exact Nat.zero_le _
  refine ⟨h.size, h.defers, ⟨h.keeps.laid, h.keeps.apart, ht.os.trans h.keeps.os, ht.tape.trans h.keeps.tape, ht.output.trans h.keeps.output, Nat.le_trans h.keeps.size ht.size, fun k hk hE => (ht.block k (Nat.lt_of_lt_of_le hk h.keeps.size) fun o e => ?_).trans (h.keeps.block k hk hE), fun k hk => (ht.row k (Nat.lt_of_lt_of_le hk h.keeps.size)).trans (h.keeps.row k hk)⟩, h.uold, fun t d htt => ?_, fun s' cs' hs' => ?_, fun s' cs' b' o' h1 h2 => ?_, fun s1 s2 cs1 cs2 b' o1 o2 h1 h2 h3 h4 => ?_⟩
  · rcases (h.lies _ _ _ _ hs e).1 with h1 | h1
    · omega
    · exact hE h1
  · simp only [St.move] at htt
    rw [look_killR, look_killR, Option.map_map, Option.map_eq_some_iff] at htt
    obtain ⟨e, he, rfl⟩ := htt
    have hr := (h.slots t e he).2
    have h1 : RepD w (Ok U st.objs η w) η (killD s e) (a.tmps.getD t undef) := killD_rep (fun _ _ => rfl) (fun _ _ h => h) (fun _ _ _ _ _ => Nat.le_refl _) hr
    exact ⟨(h.slots t e he).1, killD_rep (fun s' hs' => Eta.set_ne hs') hv (fun s' b' o' _ _ => hrow _) h1⟩
  · simp only [St.move, look] at hs'
    split at hs'
    · rename_i e
      subst e
      cases hs'
      have := hO _ hok'
      unfold RepO at this ⊢
      rw [Eta.set_same]
      exact this
    · obtain ⟨g1, g3⟩ := hlk _ _ hs'
      refine (h.objs s' cs' g3).change (Eta.set_ne g1) hv (fun b' o' hη' => ht.block b' (h.lies _ _ _ _ g3 hη').2 fun o'' e' => g1 (h.inj _ _ _ _ _ _ _ g3 hs hη' e'))
  · simp only [St.move, look] at h1
    split at h1
    · rename_i e
      subst e
      rw [Eta.set_same] at h2
      rcases hp _ _ h2 with ⟨o'', g1⟩ | ⟨g1, g2⟩
      · obtain ⟨g2, g3⟩ := h.lies _ _ _ _ hs g1
        exact ⟨g2, Nat.lt_of_lt_of_le g3 ht.size⟩
      · exact ⟨.inl (Nat.le_trans h.keeps.size g1), g2⟩
    · obtain ⟨g1, g3⟩ := hlk _ _ h1
      rw [Eta.set_ne g1] at h2
      obtain ⟨k1, k2⟩ := h.lies _ _ _ _ g3 h2
      exact ⟨k1, Nat.lt_of_lt_of_le k2 ht.size⟩
  · simp only [St.move, look] at h1 h2
    have one : ∀ s2 cs2 b' o1 o2, look (rid (rid st.objs s) s) s2 = some cs2 → pl' = some (b', o1) → η.set s pl' s2 = some (b', o2) → False := fun s2 cs2 b' o1 o2 h2 h3 h4 => by
      obtain ⟨g1, g3⟩ := hlk _ _ h2
      rw [Eta.set_ne g1] at h4
      rcases hp _ _ h3 with ⟨o'', k1⟩ | ⟨k1, _⟩
      · exact g1 (h.inj _ _ _ _ _ _ _ g3 hs h4 k1)
      · have := (h.lies _ _ _ _ g3 h4).2
        omega
    split at h1 <;> split at h2
    · rename_i e1 e2; rw [e1, e2]
    · rename_i e1 e2
      subst e1
      rw [Eta.set_same] at h3
      exact (one _ _ _ _ _ h2 h3 h4).elim
    · rename_i e1 e2
      subst e2
      rw [Eta.set_same] at h4
      exact (one _ _ _ _ _ h1 h4 h3).elim
    · obtain ⟨g1, g3⟩ := hlk _ _ h1
      obtain ⟨k1, k3⟩ := hlk _ _ h2
      rw [Eta.set_ne g1] at h3
      rw [Eta.set_ne k1] at h4
      exact h.inj _ _ _ _ _ _ _ g3 k3 h3 h4
theorem callV_sound (hrel : Rel w0 U E nt st a w η) {f : FuncId} {pre post : List V} {s z n m : Nat} {cs cs' : List V} {us : List Value} {dst : Option Nat} (hd : RepDL w (Ok U st.objs η w) η (pre.map .v ++ .own s z 0 n :: post.map .v) us)
    (hs : look st.objs s = some cs) (hM : Mov P f pre z n cs post m cs') (hn : ∀ t, dst = some t → t < nt) :
    CallOk P f us.toArray w fun e w' => ∃ u, e = .returned u ∧ RelX w0 U E nt ((st.move s s cs').put dst (.own s z 0 m)) (a.put dst u) w' := by
  obtain ⟨us1, us2, rfl, h1, h2⟩ := hd.split
  obtain ⟨u, us2, rfl, h2, h3⟩ := h2.head
  have h3 := h3.vs
  let U' : Nat → Prop := fun b => U b ∨ ∃ s' cs o, s' ≠ s ∧ look st.objs s' = some cs ∧ η s' = some (b, o)
  have hU' : ∀ b, U' b → b < w.heap.size := fun b hb => by
    rcases hb with hb | ⟨s', cs, o, _, g1, g2⟩
    · exact Nat.lt_of_lt_of_le (hrel.uold b hb).1 hrel.keeps.size
    · exact (hrel.lies s' cs b o g1 g2).2
  have hpl : ∀ b o, η s = some (b, o) → ¬ U' b ∧ b < w.heap.size := fun b o hb => by
    obtain ⟨g1, g2⟩ := hrel.lies _ _ _ _ hs hb
    refine ⟨fun hu => ?_, g2⟩
    rcases hu with hu | ⟨s', cs, o', h1, h2, h3⟩
    · have hu' := hrel.uold b hu
      rcases g1 with g1 | g1
      · have := hu'.1; omega
      · exact hu'.2 g1
    · exact h1 (hrel.inj _ _ _ _ _ _ _ h2 hs h3 hb)
  have hok : ∀ b, Ok U st.objs η w b → okMu w U' (η s) b := fun b hb => ⟨hb.1, fun hu => by
    rcases hu with hu | ⟨s', cs, o, _, g1, g2⟩
    · exact hb.2.1 hu
    · exact hb.2.2 s' cs o g1 g2, fun o e => hb.2.2 s cs o hs e⟩
  have hcl : ∀ {vs : List V} {us : List Value}, RepL w (Ok U st.objs η w) vs us → RepL w (okMu w U' (η s)) vs us := fun hr => ⟨hr.1, fun i v hi => let ⟨u, g1, g2⟩ := hr.2 i v hi; ⟨u, g1, g2.mono fun b hb => ⟨hok b hb, rfl⟩⟩⟩
  have hd0 : RepD w (okMu w U' (η s)) (fun _ => η s) (.own 0 z 0 n) u := RepD.rekey (d := .own 0 z 0 n) (s := s) (s' := 0) (η' := fun _ => η s) hok (fun x hx => hx) h2
  have hO : RepO w (okMu w U' (η s)) (fun _ => η s) 0 cs := (hrel.objs s cs hs).rekey hok rfl
  have hnl : ∀ b o, η s = some (b, o) → ¬ laidB b := fun b o hb hm => by
    rcases (hrel.lies _ _ _ _ hs hb).1 with g1 | g1
    · have := hrel.keeps.laid.lt hm; omega
    · exact hrel.keeps.apart b g1 hm
  have main := hM w U' (η s) us1 u us2 hrel.keeps.now hnl hU' hpl (hcl h1) hd0 (hcl h3) hO
  have fin : ∀ (R R' : Ending → World → Prop), (∀ e w', R e w' → R' e w') → CallOk P f (us1 ++ u :: us2).toArray w R → CallOk P f (us1 ++ u :: us2).toArray w R' := fun R R' hRR h => by
    unfold CallOk at h ⊢
    split at h
    · obtain ⟨g1, g2, g3, g4⟩ := h
      exact ⟨g1, g2, g3, g4.mono hRR⟩
    · exact hRR _ _ h
    · exact h.elim
  refine fin _ _ (fun e w' ⟨ur, pl', he, hp, k1, k2, k3⟩ => ⟨ur, he, η.set s pl', ?_⟩) main
  refine (hrel.moved hs k3 hp fun ok' hk => k2.rekey (fun b hb => hk b hb.1 (fun hu => hb.2.1 (.inl hu)) (fun s' cs0 o hne g1 g2 => hb.2.1 (.inr ⟨s', cs0, o, hne, g1, g2⟩)) hb.2.2) rfl).put ?_ hn
  refine RepD.rekey (d := .own 0 z 0 m) (s := 0) (s' := s) (η := fun _ => pl') (ok := okMu w' U' pl') (fun b hb => ⟨hb.1, fun hu => hb.2.1 (.inl hu), fun s' cs0 o g1 g2 => ?_⟩) (fun x hx => by rw [Eta.set_same]; exact hx) k1
  simp only [St.move, look] at g1
  split at g1
  · rename_i e; subst e; rw [Eta.set_same] at g2; exact hb.2.2 o g2
  · rename_i e
    rw [look_rid, if_neg e, look_rid, if_neg e] at g1
    rw [Eta.set_ne e] at g2
    exact hb.2.1 (.inr ⟨s', cs0, o, e, g1, g2⟩)
theorem killR_twice (k : Nat) (ρ : List (Nat × D)) : killR k (killR k ρ) = killR k ρ := by
  unfold killR
  rw [List.map_map]
  refine List.map_congr_left fun x _ => ?_
  simp only [Function.comp, Prod.mk.injEq, true_and]
  unfold killD
  split <;> simp_all [D.ment]
theorem rid_twice (k : Nat) (l : List (Nat × List V)) : rid (rid l k) k = rid l k := by
  unfold rid
  rw [List.filter_filter]
  refine List.filter_congr fun x _ => ?_
  simp
theorem move_self (st : St) (k : Nat) (cs : List V) : st.move k k cs = st.fresh k cs := by
  unfold St.move St.fresh
  rw [killR_twice, rid_twice]
theorem fresh_twice (st : St) (k : Nat) (cs cs' : List V) : (st.fresh k cs').move k k cs = st.fresh k cs := by
  rw [move_self]
  unfold St.fresh
  simp only
  rw [killR_twice]
  congr 2
  show rid ((k, cs') :: rid st.objs k) k = _
  unfold rid
  rw [List.filter_cons]
  simp only [bne_self_eq_false, Bool.false_eq_true, if_false]
  exact rid_twice k st.objs
theorem RepO.flat {ok ok' : Nat → Prop} {η' : Eta} {s s' : Nat} {cs : List V} (hc : cs.all V.flat1 = true) (hη : η' s' = η s) (h : RepO w ok η s cs) : RepO w ok' η' s' cs := by
  unfold RepO at h ⊢
  rw [hη]
  cases hs : η s with
  | none => rw [hs] at h; exact h
  | some bo =>
    obtain ⟨b, o⟩ := bo
    rw [hs] at h
    obtain ⟨c, e, fr, h1, h2, h3, h4⟩ := h
    exact ⟨c, e, fr, h1, h2, h3, fun i v hv => flat1_rep (h4 i v hv) (List.all_eq_true.1 hc _ (List.mem_of_getElem? hv))⟩
theorem callN_sound (hrel : Rel w0 U E nt st a w η) {f : FuncId} {ds : List D} {us : List Value} {vs : List V} {t z n : Nat} {cs : List V} (hd : RepDL w (Ok U st.objs η w) η ds us) (h2 : snapL st.objs ds = some vs)
    (h3 : New P f vs z n cs) (h4 : ds.all D.isV = true ∨ cs.all V.flat1 = true) (hn : t < nt) :
    CallOk P f us.toArray w fun e w' => ∃ u, e = .returned u ∧ RelX w0 U E nt ((st.fresh t cs).put (some t) (.own t z 0 n)) (a.put (some t) u) w' := by
  have hU : ∀ b, U b → b < w.heap.size := fun b hb => Nat.lt_of_lt_of_le (hrel.uold b hb).1 hrel.keeps.size
  have fin : ∀ (R R' : Ending → World → Prop), (∀ e w', R e w' → R' e w') → CallOk P f us.toArray w R → CallOk P f us.toArray w R' := fun R R' hRR h => by
    unfold CallOk at h ⊢
    split at h
    · obtain ⟨g1, g2, g3, g4⟩ := h
      exact ⟨g1, g2, g3, g4.mono hRR⟩
    · exact hRR _ _ h
    · exact h.elim
  have hf0 : Rel w0 U E nt (st.fresh t []) a w (η.set t none) := hrel.fresh (Below.refl w.heap.size w) (x := none) rfl
  have hl0 : look (st.fresh t []).objs t = some [] := by simp [St.fresh, look]
  have lk : ∀ s' cs', s' ≠ t → look st.objs s' = some cs' → look (st.fresh t []).objs s' = some cs' := fun s' cs' hne h => by
    simp only [St.fresh, look]
    rw [if_neg hne, look_rid, if_neg hne]
    exact h
  -- what is left to show behind the call
  have done_ : ∀ (U' : Nat → Prop) (w' : World) (ur : Value) (pl : Option (Nat × Nat)), (∀ b, U b → U' b) → (∀ b o, pl = some (b, o) → w.heap.size ≤ b ∧ b < w'.heap.size) → RepD w' (okMu w' U' pl) (fun _ => pl) (.own 0 z 0 n) ur → Below w.heap.size w w' →
      (∀ ok' : Nat → Prop, (∀ b', b' < w'.heap.size → ¬ U b' → (∀ s' cs' o, s' ≠ t → look (st.fresh t []).objs s' = some cs' → (η.set t none) s' ≠ some (b', o)) → (∀ o, pl ≠ some (b', o)) → ok' b') → RepO w' ok' (fun _ => pl) t cs) →
      RelX w0 U E nt ((st.fresh t cs).put (some t) (.own t z 0 n)) (a.put (some t) ur) w' := fun U' w' ur pl hUU hp hr hb hO => by
    have hT : Turned w w' ((η.set t none) t) := ⟨hb.os, hb.tape, hb.output, hb.size, fun k hk _ => hb.block k hk, fun k hk => rowSize_below hb hk⟩
    have hm := hf0.moved hl0 hT (fun b o e => .inr (hp b o e)) hO
    rw [fresh_twice] at hm
    refine ⟨_, hm.put (dst := some t) ?_ (fun t' ht' => by cases ht'; exact hn)⟩
    cases hr with
    | own0 => exact .own0 _ _ _ _
    | own _ _ _ _ b o cap h hl hc => exact .own _ _ _ _ b o cap (by rw [Eta.set_same]; exact h) hl hc
  rcases h4 with h4 | h4
  · have hvs := hd.vals (isV_snap h4 h2)
    let U' : Nat → Prop := fun b => U b ∨ ∃ s cs o, look st.objs s = some cs ∧ η s = some (b, o)
    have hU' : ∀ b, U' b → b < w.heap.size := fun b hb => by
      rcases hb with hb | ⟨s, cs, o, g1, g2⟩
      · exact hU b hb
      · exact (hrel.lies s cs b o g1 g2).2
    have hcl : RepL w (fun b => b < w.heap.size ∧ ¬ U' b) vs us := ⟨hvs.1, fun i v hi => let ⟨u, g1, g2⟩ := hvs.2 i v hi; ⟨u, g1, g2.mono fun b hb => ⟨⟨hb.1, fun hu => by
      rcases hu with hu | ⟨s, cs, o, g1, g2⟩
      · exact hb.2.1 hu
      · exact hb.2.2 s cs o g1 g2⟩, rfl⟩⟩⟩
    refine fin _ _ (fun e w' ⟨ur, pl, he, hp, k1, k2, k3⟩ => ⟨ur, he, done_ U' w' ur pl (fun b hb => .inl hb) hp k1 k3 fun ok' hk => ?_⟩) (h3 w U' us hrel.keeps.now hU' hcl)
    refine k2.rekey (fun b hb => hk b hb.1 (fun hu => hb.2.1 (.inl hu)) (fun s' cs' o hne g1 g2 => ?_) hb.2.2) rfl
    rw [Eta.set_ne hne] at g2
    simp only [St.fresh, look] at g1
    rw [if_neg hne, look_rid, if_neg hne] at g1
    exact hb.2.1 (.inr ⟨s', cs', o, g1, g2⟩)
  · exact fin _ _ (fun e w' ⟨ur, pl, he, hp, k1, k2, k3⟩ => ⟨ur, he, done_ U w' ur pl (fun b hb => hb) hp k1 k3 fun ok' hk => k2.flat h4 rfl⟩) (h3 w U us hrel.keeps.now hU (snapL_rep hrel hd h2))
end
end Go.Proofs.YtljcbmnkjiogmaaDoor.Sv
/-! One operation of the text does in the model what its step says. -/
namespace Go.Proofs.YtljcbmnkjiogmaaDoor.Sv
open Go Go.RowKit
set_option linter.unusedVariables false
set_option linter.unusedSimpArgs false

def cGuard (ops : Array Oper) : Option (Nat × Bool) → Option (Option (Nat × Bool))
  | none => some none
  | some (j, want) => ((ops[j]?).bind (·.dst)).map fun g => some (g, want)
def cDst (nt : Nat) : Option Nat → Bool
  | none => true
  | some t => t < nt
def okSO : SO → Bool
  | .app _ by_ => by_ != 0
  | _ => true
/-- An operation of the text, put for what it does. -/
def cAdopt (P : Program) (t : TypeId) : List Opd → Option Nat
  | [.cn (.sl 0 [] true)] => match P.underlying t with
    | some (.slice e) => match szOf P e with
      | some (z + 1) => some (z + 1)
      | _ => none
    | _ => none
  | _ => none
def isMove : Op → Bool
  | .move _ | .assign _ => true
  | _ => false
/-- Pointers to a row's elements: what lies there is not known by number. -/
def hardPtr (ops : Array Oper) : Nat → Operand → Bool
  | n + 1, .tmp t => ops.toList.any fun o => o.dst == some t && match o.op with
    | .indexAddr _ _ _ => true
    | .fieldAddr _ x _ | .move x | .assign x | .nilCheck x => hardPtr ops n x
    | _ => false
  | _, _ => false
def isHard (b : Bool) (ops : Array Oper) : Op → Bool
  | .load _ x => hardPtr ops 4 x
  | .buildSlice t _ _ => b || ops.any fun o => match o.op with
    | .convert s d _ => s == t && d == t
    | _ => false
  | _ => false
/-- What is asked of a function's text: rows that begin empty are its own (b); functions that are handed an object to write to (m); appends in regions that draw their order are onto own rows (d). -/
structure Ad where
  b : Bool
  m : List Nat
  d : Bool
def Ad.none : Ad := ⟨false, [], false⟩
def Ad.at (ad : Ad) (draw : Bool) : Ad := if draw then ⟨false, ad.m.filter fun x => Nat.ble 1000000 x, false⟩ else ad
def toM (ml : List Nat) (so : SO) : SO := match so with
  | .call f => if ml.contains f then .callM f else if ml.contains (1000000 + f) then .callV f else if ml.contains (2000000 + f) then .callN f else .call f
  | so => so
theorem toM_cases (ml : List Nat) (so : SO) : toM ml so = so ∨ ∃ f, so = .call f ∧ (toM ml so = .callM f ∨ toM ml so = .callV f ∨ toM ml so = .callN f) := by
  unfold toM
  split
  · rename_i f
    split
    · exact .inr ⟨f, rfl, .inl rfl⟩
    · split
      · exact .inr ⟨f, rfl, .inr (.inl rfl)⟩
      · split
        · exact .inr ⟨f, rfl, .inr (.inr rfl)⟩
        · exact .inl rfl
  · exact .inl rfl
def cSOp (P : Program) (nt : Nat) (ad : Ad) (ops : Array Oper) (o : Oper) : Option SOp :=
  match cGuard ops o.guard with
  | some g => if cDst nt o.dst then
      match cOp P (isHard ad.b ops o.op) o.op with
      | some (so, xs) => match allSome (xs.map cOpd) with
        | some args => if okSO so then (match ad.b && isMove o.op, cAdopt P o.type args with
            | true, some z => some ⟨o.dst, g, .adopt z, []⟩
            | _, _ => some ⟨o.dst, g, toM ad.m so, args⟩) else some ⟨o.dst, g, .bad, []⟩
        | none => some ⟨o.dst, g, .bad, []⟩
      | none => some ⟨o.dst, g, .bad, []⟩
    else none
  | none => none
section
variable {P : Program} {w w0 w' : World} {U E : Nat → Prop} {nt : Nat} {st st' : St} {a : Act} {η : Eta} {ok : Nat → Prop}
theorem evs_rep (hrel : Rel w0 U E nt st a w η) : ∀ {xs : List Operand} {args : List Opd} {ds : List D}, allSome (xs.map cOpd) = some args → evs st args = some ds → RepDL w (Ok U st.objs η w) η ds (xs.map a.eval)
  | [], args, ds, h1, h2 => by cases h1; cases h2; exact .nil
  | x :: xs, args, ds, h1, h2 => by
    simp only [List.map_cons] at h1
    cases hp : cOpd x with
    | none => simp [hp, allSome] at h1
    | some p =>
      simp only [hp, allSome, Option.map_eq_some_iff] at h1
      obtain ⟨args', h1, rfl⟩ := h1
      unfold evs at h2
      split at h2 <;> cases h2
      rename_i d ds' g1 g2
      exact .cons (Opd.rep hrel hp g1) (evs_rep hrel h1 g2)
theorem cSOp_split {ad : Ad} {ops : Array Oper} {o : Oper} {s : SOp} (h : cSOp P nt ad ops o = some s) :
    (s.so ≠ .bad → (∃ z x, s.so = .adopt z ∧ s.args = [] ∧ (o.op = .move x ∨ o.op = .assign x) ∧ cOpd x = some (.cn (.sl 0 [] true))) ∨ ∃ so xs, s.so = toM ad.m so ∧ cOp P (isHard ad.b ops o.op) o.op = some (so, xs) ∧ allSome (xs.map cOpd) = some s.args ∧ okSO so = true) ∧ cGuard ops o.guard = some s.guard ∧ s.dst = o.dst ∧ cDst nt o.dst = true := by
  unfold cSOp at h
  split at h
  · rename_i g hg
    split at h
    · rename_i hd
      split at h
      · rename_i so xs h1
        split at h
        · rename_i args h3
          split at h
          · rename_i hb
            split at h <;> cases h
            · rename_i z hm hz
              refine ⟨fun _ => .inl ?_, hg, rfl, hd⟩
              unfold cAdopt at hz
              split at hz
              · simp only [Bool.and_eq_true] at hm
                obtain ⟨_, hm⟩ := hm
                unfold isMove at hm
                have main : ∀ x, cOp P (isHard ad.b ops o.op) o.op = some (.mv, [x]) → (o.op = .move x ∨ o.op = .assign x) → ∃ z' x, SO.adopt z = .adopt z' ∧ ([] : List Opd) = [] ∧ (o.op = .move x ∨ o.op = .assign x) ∧ cOpd x = some (.cn (.sl 0 [] true)) := fun x hx ho => by
                  rw [hx] at h1
                  cases h1
                  refine ⟨z, x, rfl, rfl, ho, ?_⟩
                  simp only [List.map_cons, List.map_nil] at h3
                  cases hc : cOpd x with
                  | none => simp [hc, allSome] at h3
                  | some p => simp [hc, allSome] at h3; rw [h3]
                split at hm
                · rename_i x ho
                  exact main x (by rw [ho]; rfl) (.inl ho)
                · rename_i x ho
                  exact main x (by rw [ho]; rfl) (.inr ho)
                · cases hm
              · cases hz
            · exact ⟨fun _ => .inr ⟨so, xs, rfl, h1, h3, hb⟩, hg, rfl, hd⟩
          · cases h; exact ⟨fun hb => absurd rfl hb, hg, rfl, hd⟩
        · cases h; exact ⟨fun hb => absurd rfl hb, hg, rfl, hd⟩
      · cases h; exact ⟨fun hb => absurd rfl hb, hg, rfl, hd⟩
    · cases h
  · cases h
theorem bad_step {s : SOp} (hs : s.so = .bad) (h : Step P s st st') : False := by
  cases h with
  | rd ds d h1 h2 => rw [hs] at h2; simp [SO.rdx, SO.rd] at h2
  | ef ds _ h1 h2 => rw [hs] at h2; simp [SO.ef] at h2
  | call f ds vs r hf => rw [hs] at hf; cases hf
  | callD f first cap ds vs r hf => rw [hs] at hf; cases hf
  | callM f pre post d s cs cs' r hf => rw [hs] at hf; cases hf
  | callV f pre post s z n m cs cs' hf => rw [hs] at hf; cases hf
  | callN f ds vs t z n cs hf => rw [hs] at hf; cases hf
theorem upon_value {o : Oper} {next : Act → World → Prop} {Q : Exit → Act → World → Prop} {u : Value} (he : (execOp a.eval o).run P w = .ok (.value u) w') (h : next (a.put o.dst u) w') : o.wp P a w next Q := by
  unfold Oper.wp
  rw [he]
  exact h
theorem upon_skip {o : Oper} {next : Act → World → Prop} {Q : Exit → Act → World → Prop} (he : (execOp a.eval o).run P w = .ok .skip w') (h : next (a.put o.dst undef) w') : o.wp P a w next Q := by
  unfold Oper.wp
  rw [he]
  exact h
theorem upon_call {o : Oper} {next : Act → World → Prop} {Q : Exit → Act → World → Prop} {f : FuncId} {us : Array Value} (he : (execOp a.eval o).run P w = (callFunc f us).run P w)
    (h : CallOk P f us w fun e w' => ∃ u, e = .returned u ∧ next (a.put o.dst u) w') : o.wp P a w next Q := by
  unfold Oper.wp
  rw [he]
  unfold CallOk at h
  split at h
  · rename_i g as_ w1 hr
    obtain ⟨rfl, rfl, rfl, hc⟩ := h
    rw [hr]
    refine hc.mono fun e w'' ⟨u, h1, h2⟩ => ?_
    subst h1
    exact h2
  · rename_i v w1 hr
    rw [hr]
    obtain ⟨u, h1, h2⟩ := h
    cases h1
    exact h2
  · exact h.elim
theorem app_v_sound (hrel : Rel w0 U E nt st a w η) {t t2 : TypeId} {ts : Array TypeId} {ty : TypeId} {z by_ n m : Nat} {x : D} {u1 u2 : Value} {xs ys : List V} (hc : cApp P t t2 = some (.app z by_)) (h0 : ts[0]? = some t) (h1 : ts[1]? = some t2)
    (hx1 : RepD w (Ok U st.objs η w) η (.v (.sl n xs true)) u1) (hx2 : RepD w (Ok U st.objs η w) η x u2) (hys : appArg st.objs z x = some (m, ys)) (hxl : xs.length = n * z)
    (hroom : (n + m) * by_ ≤ 2 ^ 47) (hby : by_ ≠ 0) : Gives P w U st.objs η (Builtin.append_ ts ty #[u1, u2]) (.v (.sl (n + m) (xs ++ ys) false)) := by
  unfold cApp at hc
  split at hc
  case h_2 => cases hc
  rename_i e e2 hu hu2
  split at hc
  case h_2 => cases hc
  rename_i z' b' zero hz hb hzero
  split at hc <;> cases hc
  rename_i hzl
  obtain ⟨hzl, hz0⟩ := hzl
  obtain ⟨us, hr, hyr, hm, hyl⟩ := appArg_reads hrel hx2 hys
  have hUb : ∀ b, U b → b < w.heap.size := fun b hb => Nat.lt_of_lt_of_le (hrel.uold b hb).1 hrel.keeps.size
  have grown : ∀ (os : List Value) (c : Nat) (p : Option Addr), u1 = .slice p n c → Reads P w z n (.slice p n c) os → RepL w (Ok U st.objs η w) xs os → ¬ n + m ≤ c →
      Gives P w U st.objs η (Builtin.append_ ts ty #[u1, u2]) (.v (.sl (n + m) (xs ++ ys) false)) := fun os c p hu1 ho hor hf => by
    subst hu1
    obtain ⟨cap, rest, k1, k2, k3⟩ := run_append_new (P := P) (ty := ty) h0 h1 hu ⟨e2, hu2⟩ hz hb hzero hm hr ho hf hroom hby hzl
    have hbel := below_drew_alloc w (.cells (os.toArray ++ us.toArray ++ rest) e)
    have hall := hor.append hyr
    refine ⟨_, _, k3, hbel, .v _ _ ?_⟩
    have hnew : Ok U st.objs η (w.drew.alloc (.cells (os.toArray ++ us.toArray ++ rest) e)) w.heap.size := ⟨by simp, fun h => by have := hUb _ h; omega, fun s cs o g1 g2 => by have := (hrel.lies s cs _ o g1 g2).2; omega⟩
    have e1 : os.toArray ++ us.toArray ++ rest = (os ++ us ++ rest.toList).toArray := by apply Array.ext'; simp
    have get : ∀ (i : Nat) v, (xs ++ ys)[i]? = some v → ∃ u, (os.toArray ++ us.toArray ++ rest)[i]? = some u ∧ RepV w (Ok U st.objs η w) v u := fun i v hi => by
      obtain ⟨u, hu, hv⟩ := hall.2 i v hi
      have hlt : i < (os ++ us).length := (List.getElem?_eq_some_iff.1 hu).1
      exact ⟨u, by rw [e1, List.getElem?_toArray, List.getElem?_append_left hlt, hu], hv⟩
    have hh : (w.drew.alloc (.cells (os.toArray ++ us.toArray ++ rest) e)).heap[w.heap.size]? = some (.cells (os.toArray ++ us.toArray ++ rest) e) := by show (w.heap.push _)[w.heap.size]? = _; simp
    refine .sl _ _ _ (fun i => (os.toArray ++ us.toArray ++ rest).getD i undef) w.heap.size 0 cap hnew k1 (fun h => by cases h) (fun i v hi => ?_) (fun i v hi => ?_)
    · obtain ⟨u, g1, g2⟩ := get i v hi
      simp only [World.cell?, hh, Option.isSome_none, Bool.false_eq_true, if_false, Nat.zero_add, g1, Array.getD_eq_getD_getElem?, Option.getD_some]
    · obtain ⟨u, g1, g2⟩ := get i v hi
      simp only [Array.getD_eq_getD_getElem?, g1, Option.getD_some]
      exact g2.mono fun b hb => hb.below hbel
  cases hx1 with | v _ _ hx1 =>
  cases hx1 with
  | sl0 _ p =>
    by_cases hm0 : m = 0
    · subst hm0
      obtain rfl : ys = [] := List.eq_nil_of_length_eq_zero (by omega)
      obtain rfl : us = [] := by have := hyr.1; simpa using this
      obtain ⟨p2, c2, rfl⟩ := hm
      have hrun : (Builtin.append_ ts ty #[.slice p 0 0, .slice p2 0 c2]).run P w = .ok (.slice p 0 0) w := by
        cases p <;> simp [Builtin.append_, h0, h1, run_underlying hu, run_underlying hu2, run_size hz, Builtin.lenOf, hr w rfl, storeCells]
      exact .same hrun (.v _ _ (.sl0 _ p))
    · exact grown [] 0 p rfl reads_nil .nil (by omega)
  | sl _ _ _ us0 b o cap hok hl ht hcc hrr =>
    have hcap := ht rfl
    subst hcap
    by_cases hf : cap + m ≤ cap
    · have hm0 : m = 0 := by omega
      subst hm0
      obtain rfl : ys = [] := List.eq_nil_of_length_eq_zero (by omega)
      obtain rfl : us = [] := by have := hyr.1; simpa using this
      obtain ⟨w'', g1, g2⟩ := run_append_in (P := P) (w := w) (ty := ty) (b := b) (o := o) h0 h1 hu ⟨e2, hu2⟩ hz hm hr hf ⟨w, rfl⟩
      cases g1
      refine .same g2 (.v _ _ ?_)
      rw [List.append_nil]
      exact .sl _ _ _ us0 b o cap hok (by omega) (fun h => by cases h) hcc hrr
    · obtain ⟨os, h2, h3⟩ := reads_lies (P := P) (w := w) (ok := Ok U st.objs η w) (b := b) (o := o) (n := cap) (c := cap) hxl (fun i v hi => ⟨us0 i, hcc i v hi, hrr i v hi⟩)
      exact grown os cap _ rfl h2 h3 hf
theorem cOp_noappv (hd : Bool) (op : Op) {z b : Nat} {xs : List Operand} : ¬ cOp P hd op = some (.appv z b, xs) := by
  intro hc
  cases op <;> simp only [cOp] at hc <;> try (cases hc; done)
  all_goals try (simp only [Option.map_eq_some_iff, Prod.mk.injEq, reduceCtorEq, false_and, and_false, exists_false] at hc; done)
  case load => split at hc <;> cases hc
  case store => split at hc <;> cases hc
  case makeInterface => split at hc <;> cases hc
  case buildSlice t n parts =>
    simp only [Option.map_eq_some_iff] at hc
    obtain ⟨s, hs, hc⟩ := hc
    cases hc
    obtain ⟨_, _, _, _, h | ⟨h, _⟩⟩ := cBs_is hs <;> cases h
  case convert src dst x =>
    simp only [Option.map_eq_some_iff] at hc
    obtain ⟨s, hs, hc⟩ := hc
    cases hc
    rcases cCv_is hs with ⟨_, h, _⟩ | ⟨_, h, _⟩ <;> cases h
  case makeSlice t l c =>
    simp only [Option.map_eq_some_iff] at hc
    obtain ⟨s, hs, hc⟩ := hc
    cases hc
    unfold cMk at hs
    split at hs
    · split at hs
      · split at hs <;> cases hs
      · cases hs
    · cases hs
  case call c =>
    split at hc
    · cases hc
    · cases hc
    · simp only [Option.map_eq_some_iff] at hc
      obtain ⟨s, hs, hc⟩ := hc
      cases hc
      unfold cBuiltin at hs
      split at hs
      · split at hs
        · cases hs
        · simp at hs
      · cases hs
      · cases hs
      · unfold cApp at hs
        split at hs
        · split at hs
          · split at hs <;> cases hs
          · cases hs
        · cases hs
      · obtain ⟨_, _, _, _, _, _, _, hs⟩ := cClr_is hs
        cases hs
      · cases hs
    · cases hc
theorem cOp_noappo (hd : Bool) (op : Op) {z b : Nat} {xs : List Operand} : ¬ cOp P hd op = some (.appo z b, xs) := by
  intro hc
  cases op <;> simp only [cOp] at hc <;> try (cases hc; done)
  all_goals try (simp only [Option.map_eq_some_iff, Prod.mk.injEq, reduceCtorEq, false_and, and_false, exists_false] at hc; done)
  case load => split at hc <;> cases hc
  case store => split at hc <;> cases hc
  case makeInterface => split at hc <;> cases hc
  case buildSlice t n parts =>
    simp only [Option.map_eq_some_iff] at hc
    obtain ⟨s, hs, hc⟩ := hc
    cases hc
    obtain ⟨_, _, _, _, h | ⟨h, _⟩⟩ := cBs_is hs <;> cases h
  case convert src dst x =>
    simp only [Option.map_eq_some_iff] at hc
    obtain ⟨s, hs, hc⟩ := hc
    cases hc
    rcases cCv_is hs with ⟨_, h, _⟩ | ⟨_, h, _⟩ <;> cases h
  case makeSlice t l c =>
    simp only [Option.map_eq_some_iff] at hc
    obtain ⟨s, hs, hc⟩ := hc
    cases hc
    unfold cMk at hs
    split at hs
    · split at hs
      · split at hs <;> cases hs
      · cases hs
    · cases hs
  case call c =>
    split at hc
    · cases hc
    · cases hc
    · simp only [Option.map_eq_some_iff] at hc
      obtain ⟨s, hs, hc⟩ := hc
      cases hc
      unfold cBuiltin at hs
      split at hs
      · split at hs
        · cases hs
        · simp at hs
      · cases hs
      · cases hs
      · unfold cApp at hs
        split at hs
        · split at hs
          · split at hs <;> cases hs
          · cases hs
        · cases hs
      · obtain ⟨_, _, _, _, _, _, _, hs⟩ := cClr_is hs
        cases hs
      · cases hs
    · cases hc
theorem cOp_nocallM (hd : Bool) (op : Op) {f : FuncId} {xs : List Operand} : ¬ cOp P hd op = some (.callM f, xs) := by
  intro hc
  cases op <;> simp only [cOp] at hc <;> try (cases hc; done)
  all_goals try (simp only [Option.map_eq_some_iff, Prod.mk.injEq, reduceCtorEq, false_and, and_false, exists_false] at hc; done)
  case load => split at hc <;> cases hc
  case store => split at hc <;> cases hc
  case makeInterface => split at hc <;> cases hc
  case buildSlice t n parts =>
    simp only [Option.map_eq_some_iff] at hc
    obtain ⟨s, hs, hc⟩ := hc
    cases hc
    obtain ⟨_, _, _, _, h | ⟨h, _⟩⟩ := cBs_is hs <;> cases h
  case convert src dst x =>
    simp only [Option.map_eq_some_iff] at hc
    obtain ⟨s, hs, hc⟩ := hc
    cases hc
    rcases cCv_is hs with ⟨_, h, _⟩ | ⟨_, h, _⟩ <;> cases h
  case makeSlice t l c =>
    simp only [Option.map_eq_some_iff] at hc
    obtain ⟨s, hs, hc⟩ := hc
    cases hc
    unfold cMk at hs
    split at hs
    · split at hs
      · split at hs <;> cases hs
      · cases hs
    · cases hs
  case call c =>
    split at hc
    · cases hc
    · cases hc
    · simp only [Option.map_eq_some_iff] at hc
      obtain ⟨s, hs, hc⟩ := hc
      cases hc
      unfold cBuiltin at hs
      split at hs
      · split at hs
        · cases hs
        · simp at hs
      · cases hs
      · cases hs
      · unfold cApp at hs
        split at hs
        · split at hs
          · split at hs <;> cases hs
          · cases hs
        · cases hs
      · obtain ⟨_, _, _, _, _, _, _, hs⟩ := cClr_is hs
        cases hs
      · cases hs
    · cases hc
theorem cOp_nocallN (hd : Bool) (op : Op) {f : FuncId} {xs : List Operand} : ¬ cOp P hd op = some (.callN f, xs) := by
  intro hc
  cases op <;> simp only [cOp] at hc <;> try (cases hc; done)
  all_goals try (simp only [Option.map_eq_some_iff, Prod.mk.injEq, reduceCtorEq, false_and, and_false, exists_false] at hc; done)
  case load => split at hc <;> cases hc
  case store => split at hc <;> cases hc
  case makeInterface => split at hc <;> cases hc
  case buildSlice t n parts =>
    simp only [Option.map_eq_some_iff] at hc
    obtain ⟨s, hs, hc⟩ := hc
    cases hc
    obtain ⟨_, _, _, _, h | ⟨h, _⟩⟩ := cBs_is hs <;> cases h
  case convert src dst x =>
    simp only [Option.map_eq_some_iff] at hc
    obtain ⟨s, hs, hc⟩ := hc
    cases hc
    rcases cCv_is hs with ⟨_, h, _⟩ | ⟨_, h, _⟩ <;> cases h
  case makeSlice t l c =>
    simp only [Option.map_eq_some_iff] at hc
    obtain ⟨s, hs, hc⟩ := hc
    cases hc
    unfold cMk at hs
    split at hs
    · split at hs
      · split at hs <;> cases hs
      · cases hs
    · cases hs
  case call c =>
    split at hc
    · cases hc
    · cases hc
    · simp only [Option.map_eq_some_iff] at hc
      obtain ⟨s, hs, hc⟩ := hc
      cases hc
      unfold cBuiltin at hs
      split at hs
      · split at hs
        · cases hs
        · simp at hs
      · cases hs
      · cases hs
      · unfold cApp at hs
        split at hs
        · split at hs
          · split at hs <;> cases hs
          · cases hs
        · cases hs
      · obtain ⟨_, _, _, _, _, _, _, hs⟩ := cClr_is hs
        cases hs
      · cases hs
    · cases hc
theorem cOp_nocallV (hd : Bool) (op : Op) {f : FuncId} {xs : List Operand} : ¬ cOp P hd op = some (.callV f, xs) := by
  intro hc
  cases op <;> simp only [cOp] at hc <;> try (cases hc; done)
  all_goals try (simp only [Option.map_eq_some_iff, Prod.mk.injEq, reduceCtorEq, false_and, and_false, exists_false] at hc; done)
  case load => split at hc <;> cases hc
  case store => split at hc <;> cases hc
  case makeInterface => split at hc <;> cases hc
  case buildSlice t n parts =>
    simp only [Option.map_eq_some_iff] at hc
    obtain ⟨s, hs, hc⟩ := hc
    cases hc
    obtain ⟨_, _, _, _, h | ⟨h, _⟩⟩ := cBs_is hs <;> cases h
  case convert src dst x =>
    simp only [Option.map_eq_some_iff] at hc
    obtain ⟨s, hs, hc⟩ := hc
    cases hc
    rcases cCv_is hs with ⟨_, h, _⟩ | ⟨_, h, _⟩ <;> cases h
  case makeSlice t l c =>
    simp only [Option.map_eq_some_iff] at hc
    obtain ⟨s, hs, hc⟩ := hc
    cases hc
    unfold cMk at hs
    split at hs
    · split at hs
      · split at hs <;> cases hs
      · cases hs
    · cases hs
  case call c =>
    split at hc
    · cases hc
    · cases hc
    · simp only [Option.map_eq_some_iff] at hc
      obtain ⟨s, hs, hc⟩ := hc
      cases hc
      unfold cBuiltin at hs
      split at hs
      · split at hs
        · cases hs
        · simp at hs
      · cases hs
      · cases hs
      · unfold cApp at hs
        split at hs
        · split at hs
          · split at hs <;> cases hs
          · cases hs
        · cases hs
      · obtain ⟨_, _, _, _, _, _, _, hs⟩ := cClr_is hs
        cases hs
      · cases hs
    · cases hc
theorem cOp_cv (hd : Bool) (op : Op) {xs : List Operand} (hc : cOp P hd op = some (.cv, xs)) : ∃ t x, op = .convert t t x ∧ xs = [x] ∧ isBytes P t = true := by
  cases op <;> simp only [cOp] at hc <;> try (cases hc; done)
  all_goals try (simp only [Option.map_eq_some_iff, Prod.mk.injEq, reduceCtorEq, false_and, and_false, exists_false] at hc; done)
  case load => split at hc <;> cases hc
  case store => split at hc <;> cases hc
  case makeInterface => split at hc <;> cases hc
  case buildSlice t n parts =>
    simp only [Option.map_eq_some_iff] at hc
    obtain ⟨s, hs, hc⟩ := hc
    cases hc
    obtain ⟨_, _, _, _, h | ⟨h, _⟩⟩ := cBs_is hs <;> cases h
  case convert src dst x =>
    simp only [Option.map_eq_some_iff] at hc
    obtain ⟨s, hs, hc⟩ := hc
    cases hc
    rcases cCv_is hs with ⟨rfl, _, hb⟩ | ⟨_, h, _⟩
    · exact ⟨_, _, rfl, rfl, hb⟩
    · cases h
  case makeSlice t l c =>
    simp only [Option.map_eq_some_iff] at hc
    obtain ⟨s, hs, hc⟩ := hc
    cases hc
    unfold cMk at hs
    split at hs
    · split at hs
      · split at hs <;> cases hs
      · cases hs
    · cases hs
  case call c =>
    split at hc
    · cases hc
    · cases hc
    · simp only [Option.map_eq_some_iff] at hc
      obtain ⟨s, hs, hc⟩ := hc
      cases hc
      unfold cBuiltin at hs
      split at hs
      · split at hs
        · cases hs
        · simp at hs
      · cases hs
      · cases hs
      · unfold cApp at hs
        split at hs
        · split at hs
          · split at hs <;> cases hs
          · cases hs
        · cases hs
      · obtain ⟨_, _, _, _, _, _, _, hs⟩ := cClr_is hs
        cases hs
      · cases hs
    · cases hc
theorem cOp_call (hd : Bool) (op : Op) {f : FuncId} {xs : List Operand} (hc : cOp P hd op = some (.call f, xs)) : ∃ c, op = .call c ∧ c.callee = .value (.func f) ∧ xs = c.args.toList := by
  cases op <;> simp only [cOp] at hc <;> try (cases hc; done)
  all_goals try (simp only [Option.map_eq_some_iff, Prod.mk.injEq, reduceCtorEq, false_and, and_false, exists_false] at hc; done)
  case load => split at hc <;> cases hc
  case store => split at hc <;> cases hc
  case makeInterface => split at hc <;> cases hc
  case buildSlice t n parts =>
    simp only [Option.map_eq_some_iff] at hc
    obtain ⟨s, hs, hc⟩ := hc
    cases hc
    obtain ⟨_, _, _, _, h | ⟨h, _⟩⟩ := cBs_is hs <;> cases h
  case convert src dst x =>
    simp only [Option.map_eq_some_iff] at hc
    obtain ⟨s, hs, hc⟩ := hc
    cases hc
    rcases cCv_is hs with ⟨_, h, _⟩ | ⟨_, h, _⟩ <;> cases h
  case makeSlice t l c =>
    simp only [Option.map_eq_some_iff] at hc
    obtain ⟨s, hs, hc⟩ := hc
    cases hc
    unfold cMk at hs
    split at hs
    · split at hs
      · split at hs <;> cases hs
      · cases hs
    · cases hs
  case call c =>
    split at hc
    · rename_i g hcal
      cases hc
      exact ⟨_, rfl, hcal, rfl⟩
    · cases hc
    · simp only [Option.map_eq_some_iff] at hc
      obtain ⟨s, hs, hc⟩ := hc
      cases hc
      unfold cBuiltin at hs
      split at hs
      · split at hs
        · cases hs
        · simp at hs
      · cases hs
      · cases hs
      · unfold cApp at hs
        split at hs
        · split at hs
          · split at hs <;> cases hs
          · cases hs
        · cases hs
      · obtain ⟨_, _, _, _, _, _, _, hs⟩ := cClr_is hs
        cases hs
      · cases hs
    · cases hc
theorem rdx_sound {hd : Bool} {o : Oper} {so : SO} {xs : List Operand} {ds : List D} {d : D} (hrel : Rel w0 U E nt st a w η) (hcv : so ≠ .cv) (hc : cOp P hd o.op = some (so, xs))
    (hv : RepDL w (Ok U st.objs η w) η ds (xs.map a.eval)) (h : so.rdx st.objs ds = some d) :
    ∃ u w', (execOp a.eval o).run P w = .ok (.value u) w' ∧ Below w.heap.size w w' ∧ RepD w' (Ok U st.objs η w') η d u := by
  unfold SO.rdx at h
  split at h
  · rename_i z by_
    unfold appV at h
    split at h
    · rename_i n ys x
      simp only [Option.bind_eq_some_iff] at h
      obtain ⟨⟨m, zs⟩, h1, h⟩ := h
      split at h <;> cases h
      rename_i hb
      obtain ⟨dst, op, type, pos, after, guard⟩ := o
      simp only at hc
      -- only append is put for that
      cases op <;> simp only [cOp] at hc <;> try (cases hc; done)
      all_goals try (simp only [Option.map_eq_some_iff, Prod.mk.injEq, reduceCtorEq, false_and, and_false, exists_false] at hc; done)
      case load => split at hc <;> cases hc
      case store => split at hc <;> cases hc
      case makeInterface => split at hc <;> cases hc
      case buildSlice t n parts =>
        simp only [Option.map_eq_some_iff] at hc
        obtain ⟨s, hs, hc⟩ := hc
        cases hc
        obtain ⟨_, _, _, _, h | ⟨h, _⟩⟩ := cBs_is hs <;> cases h
      case convert src dst x =>
        simp only [Option.map_eq_some_iff] at hc
        obtain ⟨s, hs, hc⟩ := hc
        cases hc
        rcases cCv_is hs with ⟨_, h, _⟩ | ⟨_, h, _⟩ <;> cases h
      case makeSlice t l c =>
        simp only [Option.map_eq_some_iff] at hc
        obtain ⟨s, hs, hc⟩ := hc
        cases hc
        unfold cMk at hs
        split at hs
        · split at hs
          · split at hs <;> cases hs
          · cases hs
        · cases hs
      case call c =>
        split at hc
        · cases hc
        · cases hc
        · rename_i b hcal
          simp only [Option.map_eq_some_iff] at hc
          obtain ⟨s, hs, hc⟩ := hc
          cases hc
          unfold cBuiltin at hs
          split at hs
          · split at hs
            · cases hs
            · simp at hs
          · cases hs
          · cases hs
          · rename_i t t2 hts
            have ha0 : c.argTypes[0]? = some t := by rw [← Array.getElem?_toList, hts]; rfl
            have ha1 : c.argTypes[1]? = some t2 := by rw [← Array.getElem?_toList, hts]; rfl
            obtain ⟨u1, u2, he, hr1, hr2⟩ := hv.two
            have ea : c.args.map a.eval = #[u1, u2] := by apply Array.ext'; simpa using he
            have g := app_v_sound (ty := type) hrel hs ha0 ha1 hr1 hr2 h1 hb.1 hb.2.1 hb.2.2
            refine Gives.exec (s := Builtin.append_ c.argTypes type #[u1, u2]) ?_ g
            simp only [execOp, resolve, hcal, pure_bind, invoke]
            rw [ea]
            rfl
          · obtain ⟨_, _, _, _, _, _, _, hs⟩ := cClr_is hs
            cases hs
          · cases hs
        · cases hc
    · cases h
  · exact absurd hc (cOp_noappv _ _)
  · exact absurd rfl hcv
  · exact rd_sound hrel hc hv h
theorem Rel.look_congr {ρ : List (Nat × D)} {o1 o2 : List (Nat × List V)} (hlk : ∀ s, look o2 s = look o1 s) (hrel : Rel w0 U E nt ⟨ρ, o1⟩ a w η) : Rel w0 U E nt ⟨ρ, o2⟩ a w η := by
  have hok : ∀ b', Ok U o1 η w b' → Ok U o2 η w b' := fun b' hb' => ⟨hb'.1, hb'.2.1, fun s' cs' o' h1 h2 => hb'.2.2 s' cs' o' (by rw [← hlk]; exact h1) h2⟩
  have hv : ∀ v u, RepV w (Ok U o1 η w) v u → RepV w (Ok U o2 η w) v u := fun v u hr => hr.mono fun b' hb' => ⟨hok b' hb', rfl⟩
  exact ⟨hrel.size, hrel.defers, hrel.keeps, hrel.uold, fun t d ht => ⟨(hrel.slots t d ht).1, (hrel.slots t d ht).2.change hv (fun _ => Nat.le_refl _)⟩, fun s' cs' hs' => (hrel.objs s' cs' (by rw [← hlk]; exact hs')).change rfl hv (fun _ _ _ => rfl), fun s' cs' b o g1 g2 => hrel.lies s' cs' b o (by rw [← hlk]; exact g1) g2, fun s1 s2 c1 c2 b o o' g1 g2 g3 g4 => hrel.inj s1 s2 c1 c2 b o o' (by rw [← hlk]; exact g1) (by rw [← hlk]; exact g2) g3 g4⟩
theorem cv_sound (hrel : Rel w0 U E nt st a w η) {t : TypeId} {s z off ln : Nat} {cs : List V} {u : Value} (hb : isBytes P t = true) (hr : RepD w (Ok U st.objs η w) η (.own s z off ln) u) (hs : look st.objs s = some cs) (hln : ln ≠ 0) :
    ∃ w', (convert t t u).run P w = .ok u w' ∧ Rel w0 U E nt st a w' η ∧ RepD w' (Ok U st.objs η w') η (.own s z off ln) u := by
  unfold isBytes at hb
  split at hb
  case h_2 => cases hb
  rename_i e hu
  split at hb
  case h_2 => cases hb
  rename_i he
  cases hr with
  | own0 => exact absurd rfl hln
  | own _ _ _ _ b o cap hη hl hc =>
    have ho := hrel.objs s cs hs
    unfold RepO at ho
    rw [hη] at ho
    obtain ⟨c, e', fr, g1, g2, g3, g4⟩ := ho
    have hsh : w.shape? b = some (e', c.size) := by unfold World.shape?; rw [g1]
    have hset : (w.freeze ⟨b, c.size, none⟩ 1).heap[b]? = some (.cells c e' (if fr.1 == fr.2 then (c.size, c.size + 1) else (min fr.1 c.size, max fr.2 (c.size + 1)))) := by
      simp [World.freeze, Array.getElem?_modify, g1]
    have ht : Turn w (w.freeze ⟨b, c.size, none⟩ 1) b := by
      refine ⟨rfl, rfl, rfl, by simp [World.freeze], fun k hk => ?_, by simp only [rowSize, hset, g1]⟩
      simp [World.freeze, Array.getElem?_modify, Ne.symm hk]
    have hfr : frOk (if fr.1 == fr.2 then (c.size, c.size + 1) else (min fr.1 c.size, max fr.2 (c.size + 1))) c.size := by
      unfold frOk at g3 ⊢
      split
      · exact .inr (Nat.le_refl _)
      · rename_i h
        simp only [beq_iff_eq] at h
        refine .inr ?_
        show c.size ≤ min fr.1 c.size
        omega
    have hst := hrel.store hs hη ht (cs := cs) fun ok' hk => ⟨c, e', _, hset, g2, hfr, fun i v hi => (g4 i v hi).mono fun b' hb' => ⟨hk b' hb', ht.block b' fun e => hb'.2.2 s cs o hs (by rw [e]; exact hη)⟩⟩
    have hR : Rel w0 U E nt st a (w.freeze ⟨b, c.size, none⟩ 1) η := by
      refine Rel.look_congr (ρ := st.ρ) (fun s' => ?_) hst
      rw [look_upd]
      split
      · rename_i e; subst e; rw [hs]; rfl
      · rfl
    refine ⟨_, ?_, hR, .own _ _ _ _ b o cap hη hl (by rw [ht.rows]; exact hc)⟩
    simp [convert, run_underlying hu, run_underlying he, markStringish, hsh]
end
end Go.Proofs.YtljcbmnkjiogmaaDoor.Sv
/-! One operation's step, whatever it does. -/
namespace Go.Proofs.YtljcbmnkjiogmaaDoor.Sv
open Go Go.RowKit
set_option linter.unusedVariables false
set_option linter.unusedSimpArgs false
section
variable {P : Program} {w w0 w' : World} {U E : Nat → Prop} {nt : Nat} {st st' : St} {a : Act} {η : Eta} {ok : Nat → Prop}
theorem ef_sound {hd : Bool} {o : Oper} {so : SO} {xs : List Operand} {ds : List D} (hrel : Rel w0 U E nt st a w η) (hc : cOp P hd o.op = some (so, xs))
    (hv : RepDL w (Ok U st.objs η w) η ds (xs.map a.eval)) (h : so.ef st o.dst ds = some st') (hn : cDst nt o.dst = true) (hso : okSO so = true) {next : Act → World → Prop} {Q : Exit → Act → World → Prop}
    (hk : ∀ u w', RelX w0 U E nt st' (a.put o.dst u) w' → next (a.put o.dst u) w') : o.wp P a w next Q := by
  obtain ⟨dst, op, type, pos, after, guard⟩ := o
  simp only at hc hn h
  have hdst : ∀ s, dst = some s → s < nt := fun s hs => by subst hs; simpa [cDst] using hn
  have noef : ∀ p : PO, so = .po p → False := fun p hp => by subst hp; simp [SO.ef] at h
  cases op <;> simp only [cOp] at hc <;> try (cases hc; done)
  case move => cases hc; simp [SO.ef] at h
  case assign => cases hc; simp [SO.ef] at h
  case pick => cases hc; simp [SO.ef] at h
  case unOp => cases hc; exact (noef _ rfl).elim
  case makeFunc => cases hc; exact (noef _ rfl).elim
  case extract => cases hc; exact (noef _ rfl).elim
  case nilCheck => cases hc; simp [SO.ef] at h
  case build => simp only [Option.map_eq_some_iff] at hc; obtain ⟨p, _, hc⟩ := hc; cases hc; exact (noef _ rfl).elim
  case buildSlice t n parts =>
    simp only [Option.map_eq_some_iff] at hc
    obtain ⟨so', hs, hc⟩ := hc
    cases hc
    obtain ⟨n', zero, ps, hb, rfl | ⟨rfl, hz1⟩⟩ := cBs_is hs
    · exact (noef _ rfl).elim
    simp only [SO.ef, Option.bind_eq_some_iff, Option.map_eq_some_iff] at h
    obtain ⟨vs, hvs, cs, hcs, s, rfl, rfl⟩ := h
    obtain ⟨u, w', η', h1, h2⟩ := bslO_sound hrel hb hz1 (hv.vals hvs) hcs (hdst s rfl)
    rw [← zip_eval] at h1
    exact upon_value (u := u) (w' := w') (by simp [execOp, h1]) (hk _ _ ⟨η', h2⟩)
  case binOp => simp only [Option.map_eq_some_iff] at hc; obtain ⟨p, _, hc⟩ := hc; cases hc; exact (noef _ rfl).elim
  case convert src dst x =>
    simp only [Option.map_eq_some_iff] at hc
    obtain ⟨so', hs, hc⟩ := hc
    cases hc
    rcases cCv_is hs with ⟨_, rfl, _⟩ | ⟨_, rfl, _⟩
    · simp [SO.ef] at h
    · exact (noef _ rfl).elim
  case field => simp only [Option.map_eq_some_iff] at hc; obtain ⟨p, _, hc⟩ := hc; cases hc; exact (noef _ rfl).elim
  case index => simp only [Option.map_eq_some_iff] at hc; obtain ⟨p, _, hc⟩ := hc; cases hc; exact (noef _ rfl).elim
  case slice => simp only [Option.map_eq_some_iff] at hc; obtain ⟨⟨p, q⟩, _, hc⟩ := hc; cases hc; simp [SO.ef] at h
  case fieldAddr => simp only [Option.map_eq_some_iff] at hc; obtain ⟨p, _, hc⟩ := hc; cases hc; simp [SO.ef] at h
  case indexAddr => simp only [Option.map_eq_some_iff] at hc; obtain ⟨⟨p, q⟩, _, hc⟩ := hc; cases hc; simp [SO.ef] at h
  case makeInterface => split at hc <;> cases hc; exact (noef _ rfl).elim
  case load => split at hc <;> cases hc; simp [SO.ef] at h
  case alloc e =>
    simp only [Option.map_eq_some_iff] at hc
    obtain ⟨zs, hz, hc⟩ := hc
    cases hc
    match ds, h with
    | [], h =>
      simp only [SO.ef, Option.map_eq_some_iff] at h
      obtain ⟨s, rfl, rfl⟩ := h
      obtain ⟨u, w', η', h1, h2⟩ := alloc_sound hrel hz (hdst s rfl)
      exact upon_value (u := u) (w' := w') (by simp [execOp, h1]) (hk _ _ ⟨η', h2⟩)
  case box e x =>
    cases hc
    match ds, h with
    | [.v v], h =>
      simp only [SO.ef, Option.map_eq_some_iff] at h
      obtain ⟨s, rfl, rfl⟩ := h
      obtain ⟨u1, he, hr⟩ := hv.one
      cases he
      cases hr with | v _ _ hr =>
      obtain ⟨u, w', η', h1, h2⟩ := box_sound (P := P) (t := e) hrel hr (hdst s rfl)
      exact upon_value (u := u) (w' := w') (by simp [execOp, h1]) (hk _ _ ⟨η', h2⟩)
  case store t x v =>
    split at hc <;> cases hc
    rename_i z hz
    match ds, h with
    | [.ref s off, .v y], h =>
      simp only [SO.ef, Option.bind_eq_some_iff] at h
      obtain ⟨cs, hcs, h⟩ := h
      split at h <;> cases h
      rename_i hb
      obtain ⟨b1, b2, b3, rfl⟩ := hb
      obtain ⟨u1, u2, he, hr1, hr2⟩ := hv.two
      cases he
      cases hr2 with | v _ _ hr2 =>
      obtain ⟨w', h1, h2⟩ := st_sound hrel hz hr1 hr2 hcs b1 b2 (by omega) b3
      exact upon_skip (w' := w') (by simp [execOp, h1]) (hk _ _ ⟨η, h2⟩)
  case makeSlice t l c =>
    simp only [Option.map_eq_some_iff] at hc
    obtain ⟨s', hs, hc⟩ := hc
    cases hc
    unfold cMk at hs
    split at hs
    case h_2 => cases hs
    rename_i e hu
    split at hs
    case h_2 => cases hs
    rename_i z b zero hz hb hzero
    split at hs <;> cases hs
    rename_i hzl
    match ds, h with
    | [.v (.n kl li), .v (.n kc ci)], h =>
      simp only [SO.ef] at h
      split at h
      case isFalse => cases h
      rename_i hbd
      simp only [Option.map_eq_some_iff] at h
      obtain ⟨s, rfl, rfl⟩ := h
      obtain ⟨u1, u2, he, hr1, hr2⟩ := hv.two
      simp only [List.map_cons, List.map_nil, List.cons.injEq, and_true] at he
      obtain ⟨he1, he2⟩ := he
      cases hr1 with | v _ _ hr1 =>
      cases hr2 with | v _ _ hr2 =>
      cases hr1
      cases hr2
      obtain ⟨u, w', η', h1, h2⟩ := mk_sound (kl := kl) (kc := kc) hrel hu hz hb hzero hzl.1 hzl.2 hbd.1 hbd.2.1 hbd.2.2.1 hbd.2.2.2 (hdst s rfl)
      exact upon_value (u := u) (w' := w') (by simp [execOp, he1, he2, h1]) (hk _ _ ⟨η', h2⟩)
  case call c =>
    split at hc
    · cases hc; simp [SO.ef] at h
    · cases hc; simp [SO.ef] at h
    · rename_i b hcal
      simp only [Option.map_eq_some_iff] at hc
      obtain ⟨s', hs, hc⟩ := hc
      cases hc
      unfold cBuiltin at hs
      split at hs
      · split at hs
        · cases hs; exact (noef _ rfl).elim
        · simp only [Option.map_eq_some_iff] at hs
          obtain ⟨str, _, rfl⟩ := hs
          simp [SO.ef] at h
      · cases hs; exact (noef _ rfl).elim
      · cases hs; exact (noef _ rfl).elim
      · rename_i t t2 hts
        have ha0 : c.argTypes[0]? = some t := by rw [← Array.getElem?_toList, hts]; rfl
        have ha1 : c.argTypes[1]? = some t2 := by rw [← Array.getElem?_toList, hts]; rfl
        have hs0 := hs
        unfold cApp at hs0
        split at hs0
        case h_2 => cases hs0
        split at hs0
        case h_2 => cases hs0
        rename_i z by_ zero _ _ _
        split at hs0 <;> cases hs0
        match ds, h with
        | [.own s0 z' off ln, x], h =>
          simp only [SO.ef, Option.bind_eq_some_iff] at h
          obtain ⟨cs, hcs, ⟨m, ys⟩, hys, h⟩ := h
          split at h
          case isFalse => cases h
          rename_i hbd
          obtain ⟨rfl, b1, b2, b3⟩ := hbd
          simp only [Option.map_eq_some_iff] at h
          obtain ⟨s, rfl, rfl⟩ := h
          obtain ⟨u1, u2, he, hr1, hr2⟩ := hv.two
          have ea : c.args.map a.eval = #[u1, u2] := by apply Array.ext'; simpa using he
          obtain ⟨u, w', η', h1, h2⟩ := app_own_sound (ty := type) hrel hs ha0 ha1 hr1 hr2 hcs hys b1 b2 b3 (hdst s rfl) (by simpa [okSO] using hso)
          refine upon_value (u := u) (w' := w') ?_ (hk _ _ ⟨η', h2⟩)
          simp only [execOp, resolve, hcal, pure_bind, invoke]
          rw [ea]
          simp [builtin, h1]
        | [.v (.sl 0 [] true), x], h =>
          simp only [SO.ef, Option.bind_eq_some_iff] at h
          obtain ⟨⟨m, ys⟩, hys, s, rfl, h⟩ := h
          split at h <;> cases h
          rename_i hbd
          obtain ⟨b1, b2, b3⟩ := hbd
          obtain ⟨u1, u2, he, hr1, hr2⟩ := hv.two
          have ea : c.args.map a.eval = #[u1, u2] := by apply Array.ext'; simpa using he
          have hr0 := hrel.fresh (Below.refl w.heap.size w) (s := s) (cs := []) (x := none) rfl
          have hok : ∀ b', Ok U st.objs η w b' → Ok U (st.fresh s []).objs (η.set s none) w b' := fun b' hb' => ⟨hb'.1, hb'.2.1, fun s' cs' o' h1 h2 => by
            simp only [St.fresh, look] at h1
            split at h1
            · rename_i e; subst e; simp [Eta.set] at h2
            · rename_i e
              rw [look_rid, if_neg e] at h1
              simp only [Eta.set, if_neg e] at h2
              exact hb'.2.2 _ _ _ h1 h2⟩
          have hvv : ∀ v u, RepV w (Ok U st.objs η w) v u → RepV w (Ok U (st.fresh s []).objs (η.set s none) w) v u := fun v u hr => hr.mono fun b' hb' => ⟨hok b' hb', rfl⟩
          have g1 : RepD w (Ok U (st.fresh s []).objs (η.set s none) w) (η.set s none) (.own s z 0 0) u1 := by
            cases hr1 with | v _ _ hr1 =>
            cases hr1 with
            | sl0 => exact .own0 _ _ _ _
            | sl _ _ _ us bl off cap hok hl ht =>
              have : cap = 0 := ht rfl
              subst this
              exact .own0 _ _ _ _
          have g2 : RepD w (Ok U (st.fresh s []).objs (η.set s none) w) (η.set s none) x u2 := by
            have := killD_rep (s := s) (η' := η.set s none) (fun s' hs' => by simp [Eta.set, hs']) hvv (fun _ _ _ _ _ => Nat.le_refl _) hr2
            unfold killD at this
            rw [b1] at this
            simpa using this
          have g3 : look (st.fresh s []).objs s = some [] := by simp [St.fresh, look]
          have g4 : appArg (st.fresh s []).objs z x = some (m, ys) := by
            cases x with
            | v x => cases x <;> first | exact hys | (simp [appArg] at hys; done)
            | ref s' off => simp [appArg] at hys
            | dead => simp [appArg] at hys
            | own s' z' off l =>
              have hne : ¬ s' = s := by simpa [D.ment] using b1
              simp only [appArg, St.fresh, look] at hys ⊢
              rw [if_neg hne, look_rid, if_neg hne]
              exact hys
          obtain ⟨u, w', η', h1, h2⟩ := app_own_sound (ty := type) hr0 hs ha0 ha1 g1 g2 g3 g4 (by simp) (by simpa using b2) b3 (hdst s rfl) (by simpa [okSO] using hso)
          refine upon_value (u := u) (w' := w') ?_ (hk _ _ ⟨η', ?_⟩)
          · simp only [execOp, resolve, hcal, pure_bind, invoke]
            rw [ea]
            simp [builtin, h1]
          · simpa using h2
      · rename_i t hts
        obtain ⟨e, z, zero, hu, hz, h0, hzl, rfl⟩ := cClr_is hs
        have ha0 : c.argTypes[0]? = some t := by rw [← Array.getElem?_toList, hts]; rfl
        match ds, h with
        | [.own s z' off ln], h =>
          simp only [SO.ef, Option.bind_eq_some_iff] at h
          obtain ⟨cs, hcs, h⟩ := h
          split at h <;> cases h
          rename_i hb
          obtain ⟨b1, b2, b3, rfl⟩ := hb
          obtain ⟨u1, he, hr1⟩ := hv.one
          have ea : c.args.map a.eval = #[u1] := by apply Array.ext'; simpa using he
          obtain ⟨w', h1, h2⟩ := clr_sound (ty := type) hrel hu hz h0 hzl ha0 hr1 hcs b1 b2 b3
          refine upon_value (u := .tuple #[]) (w' := w') ?_ (hk _ _ ⟨η, h2⟩)
          simp only [execOp, resolve, hcal, pure_bind, invoke]
          rw [ea]
          simp [builtin, h1]
      · cases hs
    · cases hc
theorem step_sound {ops : Array Oper} {o : Oper} {s : SOp} (hrel : RelX w0 U E nt st a w) {ad : Ad} (hc : cSOp P nt ad ops o = some s) (h : Step P s st st') {next : Act → World → Prop} {Q : Exit → Act → World → Prop}
    (hk : ∀ u w', RelX w0 U E nt st' (a.put o.dst u) w' → next (a.put o.dst u) w') : o.wp P a w next Q := by
  obtain ⟨η, hrel⟩ := hrel
  obtain ⟨hcc, hc2, hc4, hc5⟩ := cSOp_split hc
  rcases hcc fun hb => bad_step hb h with ⟨z, x, hso, har, hop, hx⟩ | ⟨so, xs, hso, hc1, hc3, hc6⟩
  · cases h with
    | rd ds d h1 h2 => rw [hso] at h2; simp [SO.rdx, SO.rd] at h2
    | call f ds vs r hf => rw [hso] at hf; cases hf
    | callD f first cap ds vs r hf => rw [hso] at hf; cases hf
    | callM f pre post d s cs cs' r hf => rw [hso] at hf; cases hf
    | callV f pre post s z n m cs cs' hf => rw [hso] at hf; cases hf
    | callN f ds vs t z n cs hf => rw [hso] at hf; cases hf
    | ef ds _ h1 h2 =>
      rw [har] at h1
      cases h1
      rw [hso] at h2
      simp only [SO.ef, Option.map_eq_some_iff] at h2
      obtain ⟨s0, hs0, rfl⟩ := h2
      have hnt : s0 < nt := by rw [hc4] at hs0; rw [hs0] at hc5; simpa [cDst] using hc5
      have hr0 := hrel.fresh (Below.refl w.heap.size w) (s := s0) (cs := []) (x := none) rfl
      have hv := Opd.rep hrel hx (d := .v (.sl 0 [] true)) rfl
      have hu : ∃ a0, a.eval x = .slice a0 0 0 := by
        cases hv with | v _ _ hv =>
        generalize a.eval x = u at hv
        cases hv with
        | sl0 _ a0 => exact ⟨a0, rfl⟩
        | sl _ _ _ us bl off cap hok hl ht => have : cap = 0 := ht rfl; subst this; exact ⟨_, rfl⟩
      obtain ⟨a0, ha0⟩ := hu
      refine upon_value (u := .slice a0 0 0) (w' := w) (by rcases hop with ho | ho <;> rw [execOp, ho] <;> simp [ha0]) (hk _ _ ⟨η.set s0 none, ?_⟩)
      rw [← hc4, hs0]
      exact hr0.put (dst := some s0) (.own0 _ _ _ _) (fun t ht => by cases ht; exact hnt)
  have hdst : ∀ t, s.dst = some t → t < nt := fun t ht => by rw [hc4] at ht; rw [ht] at hc5; simpa [cDst] using hc5
  rcases toM_cases ad.m so with hsame | ⟨g, rfl, hM⟩
  case inr =>
    have hsf : ∀ (c : Call), o.op = .call c → c.callee = .value (.func g) → CallOk P g (c.args.toList.map a.eval).toArray w (fun e w' => ∃ u, e = .returned u ∧ RelX w0 U E nt st' (a.put s.dst u) w') → o.wp P a w next Q := fun c hop hcal this => by
      obtain ⟨dst, op, type, pos, after, guard⟩ := o
      simp only at hop hc4
      subst hop
      have ea : c.args.map a.eval = (c.args.toList.map a.eval).toArray := by apply Array.ext'; simp
      refine upon_call (f := g) (us := (c.args.toList.map a.eval).toArray) ?_ ?_
      · simp only [execOp, resolve, hcal, Act.eval, Deferred.ofValue, pure_bind, invoke]
        rw [show (Array.map (fun x => a.eval x) c.args) = c.args.map a.eval from rfl] at *
        simp only [ea]
        congr 2
        simp
      · unfold CallOk at this ⊢
        split at this
        · obtain ⟨g1, g2, g3, g4⟩ := this
          exact ⟨g1, g2, g3, g4.mono fun e w' ⟨u, h1, h2⟩ => ⟨u, h1, hk _ _ (by rw [hc4] at h2; exact h2)⟩⟩
        · obtain ⟨u, h1, h2⟩ := this
          exact ⟨u, h1, hk _ _ (by rw [hc4] at h2; exact h2)⟩
        · exact this
    obtain ⟨c, hop, hcal, rfl⟩ := cOp_call _ _ hc1
    rcases hM with hM | hM | hM <;> rw [hM] at hso
    · cases h with
      | rd ds d h1 h2 => rw [hso] at h2; simp [SO.rdx, SO.rd] at h2
      | ef ds _ h1 h2 => rw [hso] at h2; simp [SO.ef] at h2
      | call f ds vs r hf => rw [hso] at hf; cases hf
      | callD f first cap ds vs r hf => rw [hso] at hf; cases hf
      | callV f pre post s z n m cs cs' hf => rw [hso] at hf; cases hf
      | callN f ds vs t z n cs hf => rw [hso] at hf; cases hf
      | callM f pre post d s0 cs cs' r hf h1 hz h2 h3 =>
        rw [hso] at hf
        cases hf
        exact hsf c hop hcal (callM_sound hrel (evs_rep hrel hc3 h1) hz h2 h3 hdst)
    · cases h with
      | rd ds d h1 h2 => rw [hso] at h2; simp [SO.rdx, SO.rd] at h2
      | ef ds _ h1 h2 => rw [hso] at h2; simp [SO.ef] at h2
      | call f ds vs r hf => rw [hso] at hf; cases hf
      | callD f first cap ds vs r hf => rw [hso] at hf; cases hf
      | callM f pre post d s cs cs' r hf => rw [hso] at hf; cases hf
      | callV f pre post s0 z n m cs cs' hf h1 h2 h3 =>
        rw [hso] at hf
        cases hf
        exact hsf c hop hcal (callV_sound hrel (evs_rep hrel hc3 h1) h2 h3 hdst)
      | callN f ds vs t z n cs hf => rw [hso] at hf; cases hf
    · cases h with
      | rd ds d h1 h2 => rw [hso] at h2; simp [SO.rdx, SO.rd] at h2
      | ef ds _ h1 h2 => rw [hso] at h2; simp [SO.ef] at h2
      | call f ds vs r hf => rw [hso] at hf; cases hf
      | callD f first cap ds vs r hf => rw [hso] at hf; cases hf
      | callM f pre post d s cs cs' r hf => rw [hso] at hf; cases hf
      | callV f pre post s z n m cs cs' hf => rw [hso] at hf; cases hf
      | callN f ds vs t z n cs hf hd h1 h2 h3 h4 =>
        rw [hso] at hf
        cases hf
        have := callN_sound hrel (evs_rep hrel hc3 h1) h2 h3 h4 (hdst t hd)
        rw [← hd] at this
        exact hsf c hop hcal this
  rw [hsame] at hso
  subst hso
  cases h with
  | callM f pre post d s0 cs cs' r hf => rw [hf] at hc1; exact (cOp_nocallM _ _ hc1).elim
  | callV f pre post s0 z n m cs cs' hf => rw [hf] at hc1; exact (cOp_nocallV _ _ hc1).elim
  | callN f ds vs t z n cs hf => rw [hf] at hc1; exact (cOp_nocallN _ _ hc1).elim
  | rd ds d h1 h2 =>
    by_cases hcv : s.so = .cv
    · have hv := evs_rep hrel hc3 h1
      rw [hcv] at hc1 h2
      obtain ⟨t, x, hop, rfl, hb⟩ := cOp_cv _ _ hc1
      simp only [SO.rdx] at h2
      unfold cvD at h2
      split at h2
      · rename_i s0 z off ln
        split at h2
        · cases h2
        · rename_i hln
          simp only [Option.map_eq_some_iff] at h2
          obtain ⟨cs, hcs, rfl⟩ := h2
          obtain ⟨u1, he, hr1⟩ := hv.one
          simp only [List.map_cons, List.map_nil, List.cons.injEq, and_true] at he
          obtain ⟨w', g1, g2, g3⟩ := cv_sound hrel hb hr1 hcs hln
          refine upon_value (u := u1) (w' := w') (by rw [execOp, hop]; simp [he, g1]) (hk _ _ ⟨η, ?_⟩)
          rw [← hc4]
          exact g2.put g3 hdst
      · cases h2
    obtain ⟨u, w', g1, g2, g3⟩ := rdx_sound hrel hcv hc1 (evs_rep hrel hc3 h1) h2
    refine upon_value g1 (hk _ _ ⟨η, ?_⟩)
    rw [← hc4]
    exact (hrel.below g2).put g3 hdst
  | ef ds _ h1 h2 =>
    rw [hc4] at h2
    exact ef_sound hrel hc1 (evs_rep hrel hc3 h1) h2 hc5 hc6 hk
  | call f ds vs r hf h1 h2 h3 h4 =>
    have hv := evs_rep hrel hc3 h1
    rw [hf] at hc1
    obtain ⟨dst, op, type, pos, after, guard⟩ := o
    simp only at hc1 hc4
    cases op <;> simp only [cOp] at hc1 <;> try (cases hc1; done)
    all_goals try (simp only [Option.map_eq_some_iff, Prod.mk.injEq, reduceCtorEq, false_and, and_false, exists_false] at hc1; done)
    case load => split at hc1 <;> cases hc1
    case store => split at hc1 <;> cases hc1
    case makeInterface => split at hc1 <;> cases hc1
    case buildSlice t n parts =>
      simp only [Option.map_eq_some_iff] at hc1
      obtain ⟨s, hs, hc1⟩ := hc1
      cases hc1
      obtain ⟨_, _, _, _, h | ⟨h, _⟩⟩ := cBs_is hs <;> cases h
    case convert src dst x =>
      simp only [Option.map_eq_some_iff] at hc1
      obtain ⟨s, hs, hc1⟩ := hc1
      cases hc1
      rcases cCv_is hs with ⟨_, h, _⟩ | ⟨_, h, _⟩ <;> cases h
    case makeSlice t l c =>
      simp only [Option.map_eq_some_iff] at hc1
      obtain ⟨s', hs, hc1⟩ := hc1
      cases hc1
      unfold cMk at hs
      split at hs
      · split at hs
        · split at hs <;> cases hs
        · cases hs
      · cases hs
    case call c =>
      split at hc1
      · rename_i g hcal
        cases hc1
        have ea : c.args.map a.eval = (c.args.toList.map a.eval).toArray := by apply Array.ext'; simp
        have := call_sound (dst := dst) hrel (first := []) (cap := []) (fs := []) (cs := []) hv h2 .nil .nil (by simpa using h3) h4 (fun t ht => hdst t (by rw [hc4]; exact ht))
        refine upon_call (f := f) (us := ([] ++ c.args.toList.map a.eval ++ []).toArray) ?_ ?_
        · simp only [execOp, resolve, hcal, Act.eval, Deferred.ofValue, pure_bind, invoke]
          rw [show (Array.map (fun x => a.eval x) c.args) = c.args.map a.eval from rfl] at *
          simp only [ea]
          congr 2
          simp [ea]
        · unfold CallOk at this ⊢
          split at this
          · obtain ⟨g1, g2, g3, g4⟩ := this
            exact ⟨g1, g2, g3, g4.mono fun e w' ⟨u, h1, h2⟩ => ⟨u, h1, hk _ _ (by rw [hc4]; exact h2)⟩⟩
          · obtain ⟨u, h1, h2⟩ := this
            exact ⟨u, h1, hk _ _ (by rw [hc4]; exact h2)⟩
          · exact this
      · cases hc1
      · rename_i b hcal
        simp only [Option.map_eq_some_iff] at hc1
        obtain ⟨s', hs, hc1⟩ := hc1
        cases hc1
        unfold cBuiltin at hs
        split at hs
        · split at hs
          · cases hs
          · simp at hs
        · cases hs
        · cases hs
        · unfold cApp at hs
          split at hs
          · split at hs
            · split at hs <;> cases hs
            · cases hs
          · cases hs
        · obtain ⟨_, _, _, _, _, _, _, hs⟩ := cClr_is hs
          cases hs
        · cases hs
      · cases hc1
  | callD f first cap ds vs r hf h1 h2 h3 h4 =>
    have hv := evs_rep hrel hc3 h1
    rw [hf] at hc1
    obtain ⟨dst, op, type, pos, after, guard⟩ := o
    simp only at hc1 hc4
    cases op <;> simp only [cOp] at hc1 <;> try (cases hc1; done)
    all_goals try (simp only [Option.map_eq_some_iff, Prod.mk.injEq, reduceCtorEq, false_and, and_false, exists_false] at hc1; done)
    case load => split at hc1 <;> cases hc1
    case store => split at hc1 <;> cases hc1
    case makeInterface => split at hc1 <;> cases hc1
    case buildSlice t n parts =>
      simp only [Option.map_eq_some_iff] at hc1
      obtain ⟨s, hs, hc1⟩ := hc1
      cases hc1
      obtain ⟨_, _, _, _, h | ⟨h, _⟩⟩ := cBs_is hs <;> cases h
    case convert src dst x =>
      simp only [Option.map_eq_some_iff] at hc1
      obtain ⟨s, hs, hc1⟩ := hc1
      cases hc1
      rcases cCv_is hs with ⟨_, h, _⟩ | ⟨_, h, _⟩ <;> cases h
    case makeSlice t l c =>
      simp only [Option.map_eq_some_iff] at hc1
      obtain ⟨s', hs, hc1⟩ := hc1
      cases hc1
      unfold cMk at hs
      split at hs
      · split at hs
        · split at hs <;> cases hs
        · cases hs
      · cases hs
    case call c =>
      split at hc1
      · cases hc1
      · rename_i x hx hcal
        cases hc1
        obtain ⟨ux, us', he, hrx, hrs⟩ := hv.head
        simp only [List.map_cons, List.cons.injEq] at he
        obtain ⟨he1, he2⟩ := he
        rw [← he1] at hrx
        rw [← he2] at hrs
        cases hrx with | v _ _ hrx =>
        generalize hfx : a.eval x = fx at hrx
        cases hrx with | clo _ _ _ fs cs hl hl' hr hr' =>
        have := call_sound (dst := dst) hrel hrs h2 (RepL.of_array hl hr) (RepL.of_array hl' hr') h3 h4 (fun t ht => hdst t (by rw [hc4]; exact ht))
        refine upon_call (f := f) (us := (fs.toList ++ c.args.toList.map a.eval ++ cs.toList).toArray) ?_ ?_
        · simp only [execOp, resolve, hcal, hfx, Deferred.ofValue, pure_bind, invoke]
          congr 2
          apply Array.ext'
          simp
        · unfold CallOk at this ⊢
          split at this
          · obtain ⟨g1, g2, g3, g4⟩ := this
            exact ⟨g1, g2, g3, g4.mono fun e w' ⟨u, h1, h2⟩ => ⟨u, h1, hk _ _ (by rw [hc4]; exact h2)⟩⟩
          · obtain ⟨u, h1, h2⟩ := this
            exact ⟨u, h1, hk _ _ (by rw [hc4]; exact h2)⟩
          · exact this
      · rename_i b hcal
        simp only [Option.map_eq_some_iff] at hc1
        obtain ⟨s', hs, hc1⟩ := hc1
        cases hc1
        unfold cBuiltin at hs
        split at hs
        · split at hs
          · cases hs
          · simp at hs
        · cases hs
        · cases hs
        · unfold cApp at hs
          split at hs
          · split at hs
            · split at hs <;> cases hs
            · cases hs
          · cases hs
        · obtain ⟨_, _, _, _, _, _, _, hs⟩ := cClr_is hs
          cases hs
        · cases hs
      · cases hc1
end
end Go.Proofs.YtljcbmnkjiogmaaDoor.Sv
/-! An object that nobody writes any more turns into values by themselves. -/
namespace Go.Proofs.YtljcbmnkjiogmaaDoor.Sv
open Go Go.RowKit
set_option linter.unusedVariables false
set_option linter.unusedSimpArgs false

def freezeD (objs : List (Nat × List V)) (k : Nat) (d : D) : D := match d.ment k with
  | true => match snapV objs d with
    | some v => .v v
    | none => .dead
  | false => d
def St.freeze (k : Nat) (st : St) : St := ⟨st.ρ.map fun x => (x.1, freezeD st.objs k x.2), rid st.objs k⟩
section
variable {P : Program} {w w0 w' : World} {U E : Nat → Prop} {nt : Nat} {st st' : St} {a : Act} {η : Eta} {ok : Nat → Prop}
theorem look_map {f : D → D} : ∀ (ρ : List (Nat × D)) (t : Nat), look (ρ.map fun x => (x.1, f x.2)) t = (look ρ t).map f
  | [], t => rfl
  | (k, d) :: ρ, t => by
    simp only [List.map_cons, look]
    split
    · rfl
    · exact look_map ρ t
theorem Rel.freeze (h : Rel w0 U E nt st a w η) (k : Nat) : Rel w0 U E nt (st.freeze k) a w η := by
  have hd := h.drop k
  refine ⟨hd.size, hd.defers, hd.keeps, hd.uold, fun t d ht => ?_, hd.objs, hd.lies, hd.inj⟩
  simp only [St.freeze] at ht ⊢
  rw [look_map, Option.map_eq_some_iff] at ht
  obtain ⟨e, he, rfl⟩ := ht
  have hs := h.slots t e he
  refine ⟨hs.1, ?_⟩
  unfold freezeD
  cases hm : e.ment k with
  | false =>
    have := (hd.slots t (killD k e) (by simp only; rw [look_killR, he]; rfl)).2
    unfold killD at this
    rw [hm] at this
    simpa using this
  | true =>
    simp only
    cases hv : snapV st.objs e with
    | none => exact .dead _
    | some v =>
      have hok : ∀ b, Ok U st.objs η w b → Ok U (rid st.objs k) η w b := fun b hb => ⟨hb.1, hb.2.1, fun s' cs' o' h1 h2 => by
        rw [look_rid] at h1
        split at h1
        · cases h1
        · exact hb.2.2 _ _ _ h1 h2⟩
      refine .v _ _ (snap_rep' h hok (fun s cs b o hms h1 h2 => ?_) hs.2 hv)
      have hsk : s = k := by
        cases e with
        | v => cases hm
        | dead => cases hm
        | ref s' off => simp [D.ment] at hm hms; omega
        | own s' z off l => simp [D.ment] at hm hms; omega
      subst hsk
      obtain ⟨h3, h4⟩ := h.lies s cs b o h1 h2
      refine ⟨h4, fun hu => ?_, fun s' cs' o' g1 g2 => ?_⟩
      · have hU := h.uold b hu
        rcases h3 with h3 | h3
        · have := hU.1; omega
        · exact hU.2 h3
      · rw [look_rid] at g1
        split at g1
        · cases g1
        · rename_i hne
          exact hne (h.inj _ _ _ _ _ _ _ g1 h1 g2 h2)
theorem RelX.freeze (k : Nat) (h : RelX w0 U E nt st a w) : RelX w0 U E nt (st.freeze k) a w := let ⟨η, h⟩ := h; ⟨η, h.freeze k⟩
def St.freezeL (ks : List Nat) (st : St) : St := ks.foldl (fun st k => st.freeze k) st
theorem RelX.freezeL : ∀ (ks : List Nat) {st : St}, RelX w0 U E nt st a w → RelX w0 U E nt (st.freezeL ks) a w
  | [], _, h => h
  | k :: ks, _, h => RelX.freezeL ks (h.freeze k)
end
end Go.Proofs.YtljcbmnkjiogmaaDoor.Sv
/-! Operations one behind the other; and a computed form of a step. -/
namespace Go.Proofs.YtljcbmnkjiogmaaDoor.Sv
open Go Go.RowKit
set_option linter.unusedVariables false
set_option linter.unusedSimpArgs false

def optK {α : Type} (o : Option α) (K : α → Prop) : Prop := match o with
  | some x => K x
  | none => False
theorem optK_some {α : Type} (x : α) (K : α → Prop) : optK (some x) K = K x := rfl
theorem optK_none {α : Type} (K : α → Prop) : optK none K = False := rfl
theorem optK_ite {α : Type} (c : Prop) [Decidable c] (x : Option α) (K : α → Prop) : optK (if c then x else none) K = (c ∧ optK x K) := by
  by_cases h : c <;> simp [h, optK]
theorem optK_bind {α β : Type} (x : Option α) (f : α → Option β) (K : β → Prop) : optK (x.bind f) K = optK x fun a => optK (f a) K := by cases x <;> rfl
theorem optK_map {α β : Type} (x : Option α) (f : α → β) (K : β → Prop) : optK (x.map f) K = optK x fun a => K (f a) := by cases x <;> rfl
theorem optK_ex {α : Type} {o : Option α} {K : α → Prop} (h : optK o K) : ∃ x, o = some x ∧ K x := by
  cases o with
  | none => exact h.elim
  | some x => exact ⟨x, rfl, h⟩
def isOwn : List D → Bool
  | .own .. :: _ => true
  | .v (.sl n [] true) :: _ => n == 0
  | _ => false
/-- A call's continuation; F: what is to be shown where the arguments are frozen first. -/
inductive CallK (P : Program) (f : FuncId) (vs : List V) (c : Bool) (K : V → Prop) (F : Prop) : Prop
  | mk (r : V) (h : Pure P f vs r) (hf : (c || r.flat) = true) (hk : K r)
  | fz (h : F)
/-- What comes of a call that writes to an object. -/
inductive MutK (P : Program) (f : FuncId) (pre : List V) (d : D) (cs : List V) (post : List V) (K : D → List V → Prop) : Prop
  | mk (r : D) (cs' : List V) (h : Mut P f pre d cs post r cs') (hk : K r cs')
/-- What comes of a call that hands a row back. -/
inductive MovK (P : Program) (f : FuncId) (pre : List V) (z n : Nat) (cs : List V) (post : List V) (K : Nat → List V → Prop) : Prop
  | mk (m : Nat) (cs' : List V) (h : Mov P f pre z n cs post m cs') (hk : K m cs')
/-- What comes of a call that hands back a new row. -/
inductive NewK (P : Program) (f : FuncId) (vs : List V) (c : Bool) (K : Nat → Nat → List V → Prop) : Prop
  | mk (z n : Nat) (cs : List V) (h : New P f vs z n cs) (hf : (c || cs.all V.flat1) = true) (hk : K z n cs)
/-- The arguments, one object among them. -/
def splitM : List D → Option (List V × D × List V)
  | [] => none
  | .v x :: ds => (splitM ds).map fun (p, d, q) => (x :: p, d, q)
  | d :: ds => (allV ds).map fun q => ([], d, q)
/-- What comes of an operation that may fail. -/
inductive OptK {α : Type} (o : Option α) (K : α → Prop) : Prop
  | mk (x : α) (h : o = some x) (hk : K x)
/-- Both ways of a condition. -/
inductive DecK (x : Bool) (K : Bool → Prop) : Prop
  | mk (t : x = true → K true) (f : x = false → K false)
theorem OptK.opt {α : Type} {o : Option α} {K : α → Prop} (h : OptK o K) : optK o K := let ⟨x, h, hk⟩ := h; by rw [h]; exact hk
theorem OptK.ex {α : Type} {o : Option α} {K : α → Prop} (h : OptK o K) : ∃ x, o = some x ∧ K x := let ⟨x, h, hk⟩ := h; ⟨x, h, hk⟩
theorem DecK.tt {K : Bool → Prop} (h : K true) : DecK true K := ⟨(fun _ => h), (fun h => by cases h)⟩
theorem DecK.ff {K : Bool → Prop} (h : K false) : DecK false K := ⟨(fun h => by cases h), (fun _ => h)⟩
theorem DecK.get {x : Bool} {K : Bool → Prop} (h : DecK x K) : K x := by
  cases x with
  | true => exact h.1 rfl
  | false => exact h.2 rfl
theorem DecK.dec {p : Prop} [Decidable p] {K : Bool → Prop} (ht : p → K true) (hf : ¬ p → K false) : DecK (decide p) K := ⟨(fun h => ht (of_decide_eq_true h)), (fun h => hf (of_decide_eq_false h))⟩
theorem DecK.beq {x y : Int} {K : Bool → Prop} (ht : x = y → K true) (hf : ¬ x = y → K false) : DecK (x == y) K := ⟨(fun h => ht (by simpa using h)), (fun h => hf (by simpa using h))⟩
theorem DecK.bne {x y : Int} {K : Bool → Prop} (ht : ¬ x = y → K true) (hf : x = y → K false) : DecK (x != y) K := ⟨(fun h => ht (by simpa using h)), (fun h => hf (by simpa using h))⟩
theorem DecK.not {x : Bool} {K : Bool → Prop} (h : DecK x fun b => K (!b)) : DecK (!x) K := by
  cases x with
  | true => exact ⟨(fun h => by cases h), (fun _ => h.1 rfl)⟩
  | false => exact ⟨(fun _ => h.2 rfl), (fun h => by cases h)⟩
def isStr : List D → Bool
  | .v (.s _) :: _ => true
  | _ => false
/-- Operations that cannot fail on what is not known by number. -/
def softPO : PO → List Opd → List D → Bool
  | .bin .quo, [_, .cn _], _ | .bin .rem, [_, .cn _], _ | .bin .shl, [_, .cn _], _ | .bin .shr, [_, .cn _], _ => true
  | .bin .quo, _, _ | .bin .rem, _, _ | .bin .shl, _, _ | .bin .shr, _, _ => false
  | .bin .add, _, ds => !isStr ds
  | .idxA _ _ _, _, _ | .idxS, _, _ | .veq _ _, _, _ => false
  | _, _, _ => true
def soft : SO → List Opd → List D → Bool
  | .po p, args, ds => softPO p args ds
  | .ld _ _ false, _, [.ref _ _] => true
  | .mv, _, _ | .pick, _, _ | .fa _, _, _ | .len _, _, _ | .nck, _, _ => true
  | _, _, _ => false
def putK (st : St) (dst : Option Nat) (d : D) (K : St → Prop) : Prop := match dst with
  | none => K st
  | some t => match st with
    | ⟨ρ, o⟩ => K ⟨(t, d) :: ρ, o⟩
theorem putK_iff {st : St} {dst : Option Nat} {d : D} {K : St → Prop} : putK st dst d K ↔ K (st.put dst d) := by cases dst <;> exact Iff.rfl
def D.force (d : D) (K : D → Prop) : Prop := match d with
  | .v x => K (.v x)
  | .ref s o => K (.ref s o)
  | .own s z o l => K (.own s z o l)
  | .dead => K .dead
theorem D.force_iff {d : D} {K : D → Prop} : d.force K ↔ K d := by cases d <;> exact Iff.rfl
def forceR : List (Nat × D) → (List (Nat × D) → Prop) → Prop
  | [], K => K []
  | (t, d) :: l, K => d.force fun d => forceR l fun r => K ((t, d) :: r)
def forceO : List (Nat × List V) → (List (Nat × List V) → Prop) → Prop
  | [], K => K []
  | (t, d) :: l, K => forceO l fun r => K ((t, d) :: r)
theorem forceR_iff : ∀ {l : List (Nat × D)} {K : List (Nat × D) → Prop}, forceR l K ↔ K l
  | [], _ => Iff.rfl
  | (t, d) :: l, K => D.force_iff.trans (forceR_iff (l := l) (K := fun r => K ((t, d) :: r)))
theorem forceO_iff : ∀ {l : List (Nat × List V)} {K : List (Nat × List V) → Prop}, forceO l K ↔ K l
  | [], _ => Iff.rfl
  | (t, d) :: l, K => forceO_iff (l := l) (K := fun r => K ((t, d) :: r))
/-- The state reckoned before one goes on. -/
def forceK (st : St) (K : St → Prop) : Prop := forceR st.ρ fun ρ => forceO st.objs fun o => K ⟨ρ, o⟩
theorem forceK_iff {st : St} {K : St → Prop} : forceK st K ↔ K st := forceR_iff.trans forceO_iff
def SOp.run1 (P : Program) (F : Prop) (s : SOp) (st : St) (ds : List D) (K : St → Prop) : Prop :=
  match s.so with
    | .call f => optK (snapL st.objs ds) fun vs => CallK P f vs (ds.all D.isV) (fun r => putK st s.dst (.v r) K) F
    | .callD => match ds with
      | .v (.clo (.func f) first cap) :: ds => optK (snapL st.objs ds) fun vs => CallK P f (first ++ vs ++ cap) (ds.all D.isV) (fun r => putK st s.dst (.v r) K) F
      | _ => False
    | .callM f => optK (splitM ds) fun x => match x with
      | (pre, .own k z 0 n, post) => optK (look st.objs k) fun cs => MutK P f pre (.own 0 z 0 n) cs post fun r cs' => putK ⟨st.ρ, upd st.objs k cs'⟩ s.dst (r.rekey k) K
      | (pre, .ref k 0, post) => optK (look st.objs k) fun cs => MutK P f pre (.ref 0 0) cs post fun r cs' => putK ⟨st.ρ, upd st.objs k cs'⟩ s.dst (r.rekey k) K
      | _ => False
    | .callV f => optK (splitM ds) fun x => match x with
      | (pre, .own k z 0 n, post) => optK (look st.objs k) fun cs => MovK P f pre z n cs post fun m cs' => forceK (st.move k k cs') fun st => putK st s.dst (.own k z 0 m) K
      | _ => False
    | .callN f => optK (snapL st.objs ds) fun vs => match s.dst with
      | some t => NewK P f vs (ds.all D.isV) fun z n cs => forceK (st.fresh t cs) fun st => putK st s.dst (.own t z 0 n) K
      | none => False
    | .clr z zero => OptK ((SO.clr z zero).ef st s.dst ds) K
    | .alloc z => optK ((SO.alloc z).ef st s.dst ds) fun st => forceK st K
    | .adopt z => optK ((SO.adopt z).ef st s.dst ds) fun st => forceK st K
    | .box => optK (SO.box.ef st s.dst ds) fun st => forceK st K
    | .st z => OptK ((SO.st z).ef st s.dst ds) K
    | .mk z b zero => OptK ((SO.mk z b zero).ef st s.dst ds) fun st => forceK st K
    | .bslO n zero ps => optK ((SO.bslO n zero ps).ef st s.dst ds) fun st => forceK st K
    | .appo z b => OptK ((SO.appo z b).ef st s.dst ds) fun st => forceK st K
    | .app z b => if isOwn ds then OptK ((SO.app z b).ef st s.dst ds) fun st => forceK st K else OptK ((SO.app z b).rdx st.objs ds) fun d => putK st s.dst d K
    | so => if soft so s.args ds then optK (so.rdx st.objs ds) fun d => putK st s.dst d K else OptK (so.rdx st.objs ds) fun d => putK st s.dst d K
def sitesD : D → List Nat
  | .ref k _ => [k]
  | .own k _ _ _ => [k]
  | _ => []
/-- Operations that take values by themselves alone. -/
def fzSites : SO → List D → List Nat
  | .po (.mkF _ _), ds | .po (.build _ _), ds | .po (.bsl _ _ _), ds | .bslO _ _ _, ds | .po .b2s, ds | .po (.mkI _), ds | .box, ds => ds.flatMap sitesD
  | .st _, _ :: ds => ds.flatMap sitesD
  | _, _ => []
def SOp.run0 (P : Program) (s : SOp) (st : St) (K : St → Prop) : Prop := optK (evs st s.args) fun ds => s.run1 P False st ds K
/-- dr: in a region that draws its order nothing is frozen. -/
def SOp.run (P : Program) (dr : Bool) (s : SOp) (st : St) (K : St → Prop) : Prop :=
  match dr with
  | true => s.run0 P st K
  | false => optK (evs st s.args) fun ds => match fzSites s.so ds with
    | [] => s.run1 P (forceK (st.freezeL (ds.flatMap sitesD)) fun st => s.run0 P st K) st ds K
    | k :: ks => forceK (st.freezeL (k :: ks)) fun st => s.run0 P st K
/-- kn: slots that have been asked before. -/
def SOp.wp (P : Program) (dr : Bool) (kn : List Nat) (s : SOp) (st : St) (K : St → Prop) : Prop :=
  match s.guard with
  | none => s.run P dr st K
  | some (g, want) => match look st.ρ g with
    | some (.v (.b x)) => if kn.contains g then (if x = want then s.run P dr st K else putK st s.dst (.v (.tup [])) K)
        else DecK x fun b => if b = want then s.run P dr ⟨(g, .v (.b b)) :: st.ρ, st.objs⟩ K else putK ⟨(g, .v (.b b)) :: st.ρ, st.objs⟩ s.dst (.v (.tup [])) K
    | some (.v (.tup [])) => putK st s.dst (.v (.tup [])) K
    | _ => False
def SOp.knows (s : SOp) (kn : List Nat) : List Nat := match s.guard with
  | some (g, _) => g :: kn
  | none => kn
def opsWP (P : Program) (dr : Bool) : List Nat → List SOp → (St → Prop) → St → Prop
  | _, [], K, st => K st
  | kn, s :: r, K, st => s.wp P dr kn st fun st' => opsWP P dr (s.knows kn) r K st'
def Eqv (st st' : St) : Prop := (∀ t, look st.ρ t = look st'.ρ t) ∧ ∀ s, look st.objs s = look st'.objs s
theorem Eqv.refl (st : St) : Eqv st st := ⟨fun _ => rfl, fun _ => rfl⟩
theorem Eqv.symm {st st' : St} (h : Eqv st st') : Eqv st' st := ⟨fun t => (h.1 t).symm, fun s => (h.2 s).symm⟩
theorem Eqv.trans {a b c : St} (h : Eqv a b) (k : Eqv b c) : Eqv a c := ⟨fun t => (h.1 t).trans (k.1 t), fun s => (h.2 s).trans (k.2 s)⟩
theorem Eqv.known {st : St} {g : Nat} {d : D} (h : look st.ρ g = some d) : Eqv st ⟨(g, d) :: st.ρ, st.objs⟩ := by
  refine ⟨fun t => ?_, fun _ => rfl⟩
  simp only [look]
  split
  · rename_i e; subst e; exact h
  · rfl
section
variable {P : Program} {w w0 w' : World} {U E : Nat → Prop} {nt : Nat} {st st' : St} {a : Act} {η : Eta} {ok : Nat → Prop}
theorem allV_map : ∀ {ds : List D} {vs : List V}, allV ds = some vs → ds = vs.map .v
  | [], vs, h => by cases h; rfl
  | .v x :: ds, vs, h => by
    simp only [allV, Option.map_eq_some_iff] at h
    obtain ⟨vs', h, rfl⟩ := h
    rw [allV_map h]; rfl
  | .ref _ _ :: ds, vs, h => by simp [allV] at h
  | .own _ _ _ _ :: ds, vs, h => by simp [allV] at h
  | .dead :: ds, vs, h => by simp [allV] at h
theorem splitM_map : ∀ {ds : List D} {p : List V} {d : D} {q : List V}, splitM ds = some (p, d, q) → ds = p.map .v ++ d :: q.map .v
  | [], p, d, q, h => by cases h
  | .v x :: ds, p, d, q, h => by
    simp only [splitM, Option.map_eq_some_iff] at h
    obtain ⟨⟨p', d', q'⟩, h, e⟩ := h
    cases e
    rw [splitM_map h]; rfl
  | .ref _ _ :: ds, p, d, q, h => by
    simp only [splitM, Option.map_eq_some_iff] at h
    obtain ⟨q', h, e⟩ := h
    cases e
    rw [allV_map h]; rfl
  | .own _ _ _ _ :: ds, p, d, q, h => by
    simp only [splitM, Option.map_eq_some_iff] at h
    obtain ⟨q', h, e⟩ := h
    cases e
    rw [allV_map h]; rfl
  | .dead :: ds, p, d, q, h => by
    simp only [splitM, Option.map_eq_some_iff] at h
    obtain ⟨q', h, e⟩ := h
    cases e
    rw [allV_map h]; rfl
theorem run1_step {F : Prop} {s : SOp} {K : St → Prop} {ds : List D} (h1 : evs st s.args = some ds) (h : s.run1 P F st ds K) : (∃ st', Step P s st st' ∧ K st') ∨ F := by
  unfold SOp.run1 at h
  have rd : ∀ so, s.so = so → (∃ d, so.rdx st.objs ds = some d ∧ putK st s.dst d K) → (∃ st', Step P s st st' ∧ K st') ∨ F := fun so hs h => by
    obtain ⟨d, h2, h3⟩ := h
    subst hs
    exact .inl ⟨_, .rd ds d h1 h2, putK_iff.1 h3⟩
  have ef : ∀ so, s.so = so → (∃ st', so.ef st s.dst ds = some st' ∧ forceK st' K) → (∃ st', Step P s st st' ∧ K st') ∨ F := fun so hs h => by
    obtain ⟨st', h2, h3⟩ := h
    subst hs
    exact .inl ⟨_, .ef ds st' h1 h2, forceK_iff.1 h3⟩
  split at h
  · rename_i f hs
    obtain ⟨vs, h2, h⟩ := optK_ex h
    rcases h with ⟨r, h3, h4, h⟩ | h
    · exact .inl ⟨_, .call f ds vs r hs h1 h2 h3 (by simpa using h4), putK_iff.1 h⟩
    · exact .inr h
  · rename_i hs
    split at h
    · rename_i f first cap ds'
      obtain ⟨vs, h2, h⟩ := optK_ex h
      rcases h with ⟨r, h3, h4, h⟩ | h
      · exact .inl ⟨_, .callD f first cap _ vs r hs h1 h2 h3 (by simpa using h4), putK_iff.1 h⟩
      · exact .inr h
    · exact h.elim
  · rename_i f hs
    obtain ⟨x, h2, h⟩ := optK_ex h
    split at h
    · obtain ⟨cs, h3, h⟩ := optK_ex h
      obtain ⟨r, cs', h4, h⟩ := h
      exact .inl ⟨_, .callM f _ _ (.own 0 _ 0 _) _ cs cs' r hs (by rw [h1, splitM_map h2]; rfl) rfl h3 h4, putK_iff.1 h⟩
    · obtain ⟨cs, h3, h⟩ := optK_ex h
      obtain ⟨r, cs', h4, h⟩ := h
      exact .inl ⟨_, .callM f _ _ (.ref 0 0) _ cs cs' r hs (by rw [h1, splitM_map h2]; rfl) rfl h3 h4, putK_iff.1 h⟩
    · exact h.elim
  · rename_i f hs
    obtain ⟨x, h2, h⟩ := optK_ex h
    split at h
    · obtain ⟨cs, h3, h⟩ := optK_ex h
      obtain ⟨m, cs', h4, h⟩ := h
      exact .inl ⟨_, .callV f _ _ _ _ _ m cs cs' hs (by rw [h1, splitM_map h2]) h3 h4, putK_iff.1 (forceK_iff.1 h)⟩
    · exact h.elim
  · rename_i f hs
    obtain ⟨vs, h2, h⟩ := optK_ex h
    split at h
    · rename_i t hd
      obtain ⟨z, n, cs, h3, h4, h⟩ := h
      exact .inl ⟨_, .callN f ds vs t z n cs hs hd h1 h2 h3 (by simpa using h4), putK_iff.1 (forceK_iff.1 h)⟩
    · exact h.elim
  · rename_i hs; exact ef _ hs (let ⟨st', h1, h2⟩ := h.ex; ⟨st', h1, forceK_iff.2 h2⟩)
  · rename_i hs; exact ef _ hs (optK_ex h)
  · rename_i hs; exact ef _ hs (optK_ex h)
  · rename_i hs; exact ef _ hs (optK_ex h)
  · rename_i hs; exact ef _ hs (let ⟨st', h1, h2⟩ := h.ex; ⟨st', h1, forceK_iff.2 h2⟩)
  · rename_i hs; exact ef _ hs h.ex
  · rename_i hs; exact ef _ hs (optK_ex h)
  · rename_i hs; exact ef _ hs h.ex
  · rename_i hs
    split at h
    · exact ef _ hs h.ex
    · exact rd _ hs h.ex
  · split at h
    · exact rd _ rfl (optK_ex h)
    · exact rd _ rfl h.ex
theorem run0_step {s : SOp} {K : St → Prop} (h : s.run0 P st K) : ∃ st', Step P s st st' ∧ K st' := by
  obtain ⟨ds, h1, h⟩ := optK_ex h
  rcases run1_step h1 h with h | h
  · exact h
  · exact h.elim
/-- A step, objects frozen ahead of it. -/
inductive FStep (P : Program) (s : SOp) : St → St → Prop
  | base {st st' : St} (h : GStep P s st st') : FStep P s st st'
  | fz {st st' : St} (ks : List Nat) (h : FStep P s (st.freezeL ks) st') : FStep P s st st'
  | eqv {st st1 st' : St} (he : Eqv st st1) (h : FStep P s st1 st') : FStep P s st st'
theorem run_step {s : SOp} {K : St → Prop} (h : s.run P false st K) : ∃ st', (Step P s st st' ∨ ∃ ks, Step P s (st.freezeL ks) st') ∧ K st' := by
  obtain ⟨ds, h1, h⟩ := optK_ex h
  split at h
  · rcases run1_step h1 h with ⟨st', h, hk⟩ | h
    · exact ⟨st', .inl h, hk⟩
    · obtain ⟨st', h, hk⟩ := run0_step (forceK_iff.1 h)
      exact ⟨st', .inr ⟨_, h⟩, hk⟩
  · obtain ⟨st', h, hk⟩ := run0_step (forceK_iff.1 h)
    exact ⟨st', .inr ⟨_, h⟩, hk⟩
theorem freezeD_b (objs : List (Nat × List V)) (k : Nat) (v : V) : freezeD objs k (.v v) = .v v := rfl
theorem look_freezeL {g : Nat} {v : V} : ∀ (ks : List Nat) {st : St}, look st.ρ g = some (.v v) → look (st.freezeL ks).ρ g = some (.v v)
  | [], _, h => h
  | k :: ks, st, h => look_freezeL ks (st := st.freeze k) (by simp only [St.freeze]; rw [look_map, h]; rfl)
theorem wp_split {dr : Bool} {kn : List Nat} {s : SOp} {K : St → Prop} (h : s.wp P dr kn st K) :
    ∃ st1, Eqv st st1 ∧ ((∃ st', s.run P dr st1 K ∧ (s.guard = none ∨ ∃ g want, s.guard = some (g, want) ∧ look st1.ρ g = some (.v (.b want))) ∧ st' = st1) ∨ ∃ st', GStep P s st1 st' ∧ K st') := by
  unfold SOp.wp at h
  split at h
  · rename_i hg
    exact ⟨st, .refl _, .inl ⟨st, h, .inl hg, rfl⟩⟩
  · rename_i g want hg
    split at h
    · rename_i x hx
      have main : ∀ st1, Eqv st st1 → (if x = want then s.run P dr st1 K else putK st1 s.dst (.v (.tup [])) K) →
          ∃ st1, Eqv st st1 ∧ ((∃ st', s.run P dr st1 K ∧ (s.guard = none ∨ ∃ g want, s.guard = some (g, want) ∧ look st1.ρ g = some (.v (.b want))) ∧ st' = st1) ∨ ∃ st', GStep P s st1 st' ∧ K st') := fun st1 he h9 => by
        have hx1 := (he.1 g).symm.trans hx
        by_cases hw : x = want
        · rw [if_pos hw] at h9
          exact ⟨st1, he, .inl ⟨st1, h9, .inr ⟨g, want, hg, by rw [hx1, hw]⟩, rfl⟩⟩
        · rw [if_neg hw] at h9
          rw [putK_iff] at h9
          refine ⟨st1, he, .inr ⟨_, .no g want hg ?_, h9⟩⟩
          rw [hx1]
          simpa [isOff] using hw
      split at h
      · exact main st (.refl _) h
      · exact main _ (.known hx) h.get
    · rename_i hx
      exact ⟨st, .refl _, .inr ⟨_, .no g want hg (by rw [hx]; rfl), putK_iff.1 h⟩⟩
    · exact h.elim
theorem wp_gstep {kn : List Nat} {s : SOp} {K : St → Prop} (h : s.wp P true kn st K) : ∃ st1 st', Eqv st st1 ∧ GStep P s st1 st' ∧ K st' := by
  obtain ⟨st1, he, ⟨_, h, hg, _⟩ | ⟨st', h, hk⟩⟩ := wp_split h
  · obtain ⟨st', h, hk⟩ := run0_step h
    exact ⟨st1, st', he, .yes st' h hg, hk⟩
  · exact ⟨st1, st', he, h, hk⟩
theorem wp_fstep {kn : List Nat} {s : SOp} {K : St → Prop} (h : s.wp P false kn st K) : ∃ st', FStep P s st st' ∧ K st' := by
  obtain ⟨st1, he, ⟨_, h, hg, _⟩ | ⟨st', h, hk⟩⟩ := wp_split h
  · obtain ⟨st', h | ⟨ks, h⟩, hk⟩ := run_step h
    · exact ⟨st', .eqv he (.base (.yes st' h hg)), hk⟩
    · refine ⟨st', .eqv he (.fz ks (.base (.yes st' h ?_))), hk⟩
      rcases hg with hg | ⟨g, want, h1, h2⟩
      · exact .inl hg
      · exact .inr ⟨g, want, h1, look_freezeL ks h2⟩
  · exact ⟨st', .eqv he (.base h), hk⟩
theorem CallK.mono {f : FuncId} {vs : List V} {c : Bool} {K K' : V → Prop} {F F' : Prop} (hk : ∀ r, K r → K' r) (hF : F → F') (h : CallK P f vs c K F) : CallK P f vs c K' F' := by
  rcases h with ⟨r, h1, h2, h3⟩ | h
  · exact .mk r h1 h2 (hk r h3)
  · exact .fz (hF h)
theorem MutK.mono {f : FuncId} {pre post cs : List V} {d : D} {K K' : D → List V → Prop} (hk : ∀ r c, K r c → K' r c) (h : MutK P f pre d cs post K) : MutK P f pre d cs post K' := let ⟨r, c, h, h'⟩ := h; ⟨r, c, h, hk _ _ h'⟩
theorem MovK.mono {f : FuncId} {pre post cs : List V} {z n : Nat} {K K' : Nat → List V → Prop} (hk : ∀ r c, K r c → K' r c) (h : MovK P f pre z n cs post K) : MovK P f pre z n cs post K' := let ⟨r, c, h, h'⟩ := h; ⟨r, c, h, hk _ _ h'⟩
theorem NewK.mono {f : FuncId} {vs : List V} {c : Bool} {K K' : Nat → Nat → List V → Prop} (hk : ∀ z n cs, K z n cs → K' z n cs) (h : NewK P f vs c K) : NewK P f vs c K' := let ⟨z, n, cs, h, hf, h'⟩ := h; ⟨z, n, cs, h, hf, hk _ _ _ h'⟩
theorem OptK.mono {α : Type} {o : Option α} {K K' : α → Prop} (hk : ∀ x, K x → K' x) (h : OptK o K) : OptK o K' := let ⟨x, h, h'⟩ := h; ⟨x, h, hk x h'⟩
theorem DecK.mono {x : Bool} {K K' : Bool → Prop} (hk : ∀ b, K b → K' b) (h : DecK x K) : DecK x K' := ⟨fun e => hk _ (h.1 e), fun e => hk _ (h.2 e)⟩
theorem optK_mono {α : Type} {o : Option α} {K K' : α → Prop} (hk : ∀ x, K x → K' x) (h : optK o K) : optK o K' := by
  cases o with
  | none => exact h
  | some x => exact hk x h
theorem putK_mono {d : D} {dst : Option Nat} {K K' : St → Prop} (hk : ∀ st, K st → K' st) (h : putK st dst d K) : putK st dst d K' := putK_iff.2 (hk _ (putK_iff.1 h))
theorem forceK_mono {K K' : St → Prop} (hk : ∀ st, K st → K' st) (h : forceK st K) : forceK st K' := forceK_iff.2 (hk _ (forceK_iff.1 h))
theorem SOp.run1_mono {F F' : Prop} {s : SOp} {ds : List D} {K K' : St → Prop} (hF : F → F') (hk : ∀ st, K st → K' st) (h : s.run1 P F st ds K) : s.run1 P F' st ds K' := by
  obtain ⟨dst, guard, so, args⟩ := s
  unfold SOp.run1 at h ⊢
  have gen : ∀ {c : Bool} {o : Option D}, (if c then optK o (fun d => putK st dst d K) else OptK o fun d => putK st dst d K) → (if c then optK o (fun d => putK st dst d K') else OptK o fun d => putK st dst d K') := fun {c o} h => by
    cases c
    · exact OptK.mono (fun _ h => putK_mono hk h) h
    · exact optK_mono (fun _ h => putK_mono hk h) h
  cases so <;> simp only at h ⊢
  case call => exact optK_mono (fun _ h => CallK.mono (fun _ h => putK_mono hk h) hF h) h
  case callD =>
    split at h
    · exact optK_mono (fun _ h => CallK.mono (fun _ h => putK_mono hk h) hF h) h
    · exact h
  case app =>
    split at h
    · rename_i hi
      rw [if_pos hi]
      exact OptK.mono (fun _ h => forceK_mono hk h) h
    · rename_i hi
      rw [if_neg hi]
      exact OptK.mono (fun _ h => putK_mono hk h) h
  case callM =>
    refine optK_mono (fun x h => ?_) h
    split at h
    · exact optK_mono (fun _ h => MutK.mono (fun _ _ h => putK_mono hk h) h) h
    · exact optK_mono (fun _ h => MutK.mono (fun _ _ h => putK_mono hk h) h) h
    · exact h
  case callV =>
    refine optK_mono (fun x h => ?_) h
    split at h
    · exact optK_mono (fun _ h => MovK.mono (fun _ _ h => forceK_mono (fun _ h => putK_mono hk h) h) h) h
    · exact h
  case callN =>
    refine optK_mono (fun x h => ?_) h
    split at h
    · exact NewK.mono (fun _ _ _ h => forceK_mono (fun _ h => putK_mono hk h) h) h
    · exact h
  case clr => exact OptK.mono (fun _ h => hk _ h) h
  case alloc => exact optK_mono (fun _ h => forceK_mono hk h) h
  case adopt => exact optK_mono (fun _ h => forceK_mono hk h) h
  case box => exact optK_mono (fun _ h => forceK_mono hk h) h
  case st => exact OptK.mono (fun _ h => hk _ h) h
  case mk => exact OptK.mono (fun _ h => forceK_mono hk h) h
  case bslO => exact optK_mono (fun _ h => forceK_mono hk h) h
  case appo => exact OptK.mono (fun _ h => forceK_mono hk h) h
  all_goals exact gen h
theorem SOp.run0_mono {s : SOp} {K K' : St → Prop} (hk : ∀ st, K st → K' st) (h : s.run0 P st K) : s.run0 P st K' := optK_mono (fun _ h => SOp.run1_mono (fun h => h) hk h) h
theorem SOp.run_mono {dr : Bool} {s : SOp} {K K' : St → Prop} (hk : ∀ st, K st → K' st) (h : s.run P dr st K) : s.run P dr st K' := by
  cases dr with
  | true => exact SOp.run0_mono hk h
  | false =>
    unfold SOp.run at h ⊢
    refine optK_mono (fun ds h => ?_) h
    split at h
    · exact SOp.run1_mono (fun h => forceK_mono (fun _ h => SOp.run0_mono hk h) h) hk h
    · exact forceK_mono (fun _ h => SOp.run0_mono hk h) h
theorem SOp.wp_mono {dr : Bool} {kn : List Nat} {s : SOp} {K K' : St → Prop} (hk : ∀ st, K st → K' st) (h : s.wp P dr kn st K) : s.wp P dr kn st K' := by
  have main : ∀ st1 (x want : Bool), (if x = want then s.run P dr st1 K else putK st1 s.dst (.v (.tup [])) K) → (if x = want then s.run P dr st1 K' else putK st1 s.dst (.v (.tup [])) K') := fun st1 x want h => by
    split at h
    · rename_i hw; rw [if_pos hw]; exact SOp.run_mono hk h
    · rename_i hw; rw [if_neg hw]; exact putK_mono hk h
  unfold SOp.wp at h ⊢
  split at h
  · exact SOp.run_mono hk h
  · rename_i g want hg
    split at h
    · rename_i x hx
      split at h
      · rename_i hc; rw [if_pos hc]; exact main _ _ _ h
      · rename_i hc; rw [if_neg hc]; exact h.mono fun b h => main _ _ _ h
    · exact putK_mono hk h
    · exact h.elim
theorem opsWP_mono {dr : Bool} : ∀ {l : List SOp} {kn : List Nat} {K K' : St → Prop} {st : St}, (∀ st, K st → K' st) → opsWP P dr kn l K st → opsWP P dr kn l K' st
  | [], _, _, _, _, hk, h => hk _ h
  | s :: l, _, _, _, _, hk, h => SOp.wp_mono (fun _ h => opsWP_mono hk h) h
theorem Rel.sub (h : Rel w0 U E nt st a w η) {st' : St} (hρ : ∀ t d, look st'.ρ t = some d → look st.ρ t = some d ∨ d = .dead ∧ t < nt) (ho : ∀ s cs, look st'.objs s = some cs → look st.objs s = some cs) : Rel w0 U E nt st' a w η := by
  have hok : ∀ b', Ok U st.objs η w b' → Ok U st'.objs η w b' := fun b' hb' => ⟨hb'.1, hb'.2.1, fun s' cs' o' h1 h2 => hb'.2.2 _ _ _ (ho _ _ h1) h2⟩
  have hv : ∀ v u, RepV w (Ok U st.objs η w) v u → RepV w (Ok U st'.objs η w) v u := fun v u hr => hr.mono fun b' hb' => ⟨hok b' hb', rfl⟩
  refine ⟨h.size, h.defers, h.keeps, h.uold, fun t d ht => ?_, fun s' cs' hs' => (h.objs s' cs' (ho _ _ hs')).change rfl hv (fun _ _ _ => rfl), fun s' cs' b o h1 h2 => h.lies _ _ _ _ (ho _ _ h1) h2, fun s1 s2 cs1 cs2 b o o' h1 h2 h3 h4 => h.inj _ _ _ _ _ _ _ (ho _ _ h1) (ho _ _ h2) h3 h4⟩
  rcases hρ t d ht with h1 | ⟨rfl, h1⟩
  · exact ⟨(h.slots t d h1).1, (h.slots t d h1).2.change hv (fun _ => Nat.le_refl _)⟩
  · exact ⟨h1, .dead _⟩
theorem RelX.eqv (he : Eqv st st') (h : RelX w0 U E nt st a w) : RelX w0 U E nt st' a w := by
  obtain ⟨η, h⟩ := h
  exact ⟨η, h.sub (fun t d ht => .inl (by rw [he.1]; exact ht)) (fun s cs hs => by rw [he.2]; exact hs)⟩
/-- What a guard's slot holds, the model sees. -/
theorem wanted_of (hrel : Rel w0 U E nt st a w η) {ops : Array Oper} {o : Oper} {s : SOp} {ad : Ad} (hc : cSOp P nt ad ops o = some s) :
    (s.guard = none → Region.wanted o (yielded ops a.tmps) = true) ∧ ∀ g want, s.guard = some (g, want) → (look st.ρ g = some (.v (.b want)) → Region.wanted o (yielded ops a.tmps) = true) ∧ (isOff want (look st.ρ g) = true → Region.wanted o (yielded ops a.tmps) = false) := by
  obtain ⟨hcc, hc2, hc4, hc5⟩ := cSOp_split hc
  unfold cGuard at hc2
  refine ⟨fun hg => ?_, fun g want hg => ?_⟩
  · rw [hg] at hc2
    split at hc2
    · rename_i h; simp [Region.wanted, h]
    · rw [Option.map_eq_some_iff] at hc2; obtain ⟨_, _, hc2⟩ := hc2; cases hc2
  · rw [hg] at hc2
    split at hc2
    · cases hc2
    · rename_i j want' hj
      simp only [Option.map_eq_some_iff, Option.some.injEq, Prod.mk.injEq] at hc2
      obtain ⟨g', h1, rfl, rfl⟩ := hc2
      have val : ∀ v, look st.ρ g' = some (.v v) → ∃ u, a.tmps[g']? = some u ∧ RepV w (Ok U st.objs η w) v u := fun v hx => by
        obtain ⟨hlt, hr⟩ := hrel.slots _ _ hx
        have hsz := hrel.size
        cases hr with | v _ _ hr =>
        exact ⟨_, by simp [Array.getD_eq_getD_getElem?, Array.getElem?_eq_getElem (show g' < a.tmps.size by omega)], hr⟩
      have bool : ∀ x, look st.ρ g' = some (.v (.b x)) → Region.wanted o (yielded ops a.tmps) = (x == want') := fun x hx => by
        obtain ⟨u, ht, hr⟩ := val _ hx
        cases hr
        simp only [Region.wanted, hj, yielded, h1, Option.bind_some, ht]
        cases x <;> cases want' <;> rfl
      refine ⟨fun hx => by rw [bool _ hx]; simp, fun hx => ?_⟩
      unfold isOff at hx
      split at hx
      · rename_i x hl
        rw [bool _ hl]
        cases x <;> cases want' <;> simp at hx ⊢
      · rename_i hl
        obtain ⟨u, ht, hr⟩ := val _ hl
        cases hr with | tup _ us hl' _ =>
        simp only [Region.wanted, hj, yielded, h1, Option.bind_some, ht]
        rfl
      · cases hx
theorem gstep_sound {ops : Array Oper} {o : Oper} {s : SOp} (hrel : RelX w0 U E nt st a w) {ad : Ad} (hc : cSOp P nt ad ops o = some s) (h : GStep P s st st') {next : Act → World → Prop} {Q : Exit → Act → World → Prop}
    (hk : ∀ u w', RelX w0 U E nt st' (a.put o.dst u) w' → next (a.put o.dst u) w') : if Region.wanted o (yielded ops a.tmps) then o.wp P a w next Q ∨ (o.asks P a w ∧ LetsOut Q) else next (a.put o.dst undef) w := by
  obtain ⟨η, hr⟩ := hrel
  obtain ⟨hw1, hw2⟩ := wanted_of hr hc
  obtain ⟨hcc, hc2, hc4, hc5⟩ := cSOp_split hc
  cases h with
  | yes _ h hg =>
    have : Region.wanted o (yielded ops a.tmps) = true := by
      rcases hg with hg | ⟨g, want, hg, hx⟩
      · exact hw1 hg
      · exact (hw2 g want hg).1 hx
    rw [if_pos this]
    exact .inl (step_sound ⟨η, hr⟩ hc h hk)
  | no g want hg hx =>
    have : Region.wanted o (yielded ops a.tmps) = false := (hw2 g want hg).2 hx
    rw [if_neg (by rw [this]; simp)]
    refine hk _ _ ⟨η, ?_⟩
    rw [← hc4]
    exact hr.put (.v _ _ (.tup [] #[] rfl (fun i v h => by simp at h))) (fun t ht => by rw [hc4] at ht; rw [ht] at hc5; simpa [cDst] using hc5)
theorem fstep_sound {ops : Array Oper} {o : Oper} {s : SOp} {ad : Ad} (hc : cSOp P nt ad ops o = some s) (h : FStep P s st st') {next : Act → World → Prop} {Q : Exit → Act → World → Prop}
    (hk : ∀ u w', RelX w0 U E nt st' (a.put o.dst u) w' → next (a.put o.dst u) w') (hrel : RelX w0 U E nt st a w) : if Region.wanted o (yielded ops a.tmps) then o.wp P a w next Q ∨ (o.asks P a w ∧ LetsOut Q) else next (a.put o.dst undef) w := by
  induction h with
  | base h => exact gstep_sound hrel hc h hk
  | fz ks h ih => exact ih hk (hrel.freezeL ks)
  | eqv he h ih => exact ih hk (hrel.eqv he)
/-- Slots outside D hold what they held. -/
def Frm (D : Nat → Prop) (a0 a : Act) : Prop := ∀ t, ¬ D t → a.tmps.getD t undef = a0.tmps.getD t undef
theorem Frm.refl (D : Nat → Prop) (a : Act) : Frm D a a := fun _ _ => rfl
theorem Frm.put {D : Nat → Prop} {a0 a : Act} {dst : Option Nat} {u : Value} (h : Frm D a0 a) (hd : ∀ t, dst = some t → D t) : Frm D a0 (a.put dst u) := fun t ht => by
  rw [← h t ht]
  cases dst with
  | none => rfl
  | some k =>
    have hk : k ≠ t := fun e => ht (e ▸ hd k rfl)
    simp [Act.put, Array.getD_eq_getD_getElem?, Array.getElem?_setIfInBounds_ne hk]
/-- Operations in the order of the text. -/
theorem ops_sound {ad : Ad} {ops : Array Oper} {Q : Exit → Act → World → Prop} {K : St → Prop} {D : Nat → Prop} {a0 : Act} (hK : ∀ st a w, K st → RelX w0 U E nt st a w → Frm D a0 a → Q .normal a w) : ∀ (l : List Oper) (ss : List SOp) (st : St) (a : Act) (w : World),
    (kn : List Nat) → allSome (l.map (cSOp P nt ad ops)) = some ss → opsWP P false kn ss K st → RelX w0 U E nt st a w → (∀ o ∈ l, ∀ t, o.dst = some t → D t) → Frm D a0 a → wpList P ops Q l a w
  | [], ss, st, a, w, kn, hc, h, hr, _, hf => by cases hc; exact hK _ _ _ h hr hf
  | o :: l, ss, st, a, w, kn, hc, h, hr, hD, hf => by
    simp only [List.map_cons] at hc
    cases hs : cSOp P nt ad ops o with
    | none => simp [hs, allSome] at hc
    | some s =>
      simp only [hs, allSome, Option.map_eq_some_iff] at hc
      obtain ⟨ss', hc, rfl⟩ := hc
      obtain ⟨st', h1, h2⟩ := wp_fstep h
      have := fstep_sound (Q := Q) hs h1 (next := wpList P ops Q l) (fun u w' hr' => ops_sound hK l ss' st' _ w' _ hc h2 hr' (fun o ho => hD o (by simp [ho])) (hf.put (hD o (by simp)))) hr
      exact this
end
end Go.Proofs.YtljcbmnkjiogmaaDoor.Sv
/-! What is asked of an iterator: a function that hands a row of things, one by one, to the body of a loop. -/
namespace Go.Proofs.YtljcbmnkjiogmaaDoor.Sv
open Go Go.RowKit
set_option linter.unusedVariables false
set_option linter.unusedSimpArgs false

/-- Blocks that are none of X. -/
def okX (X : Nat → Prop) (W : World) (b : Nat) : Prop := b < W.heap.size ∧ ¬ X b
/-- What a round of the loop keeps: all but the blocks of X. -/
structure KpX (X : Nat → Prop) (W W' : World) : Prop where
  size : W.heap.size ≤ W'.heap.size
  same : ∀ b, b < W.heap.size → ¬ X b → W'.heap[b]? = W.heap[b]?
  laid : Laid W'
/-- The function f, with the values cap captured, is an iterator over xs: it hands them over one by one, unless a round says that it is enough. -/
def IterOk (P : Program) (f : FuncId) (cap : List V) (xs : List (List V)) : Prop :=
  (∀ args w, (callFunc f args).run P w = .ok (.enter f args) w) ∧
  ∀ (W : World) (X : Nat → Prop) (lb : List Value) (n l : Nat) (J : Nat → World → Prop) (Jx : World → Prop), 1 ≤ n → Laid W → (∀ b, X b → b < W.heap.size) → RepL W (okX X W) cap lb →
    (∀ k W1 W2, J k W1 → Below W1.heap.size W1 W2 → J k W2) → (∀ W1 W2, Jx W1 → Below W1.heap.size W1 W2 → Jx W2) →
    (∀ k W1 us x, J k W1 → xs[k]? = some x → RepL W1 (okX X W1) x us → YieldAt Fence.wide (n - 1) P l us.toArray W1 fun e W' =>
      (e = .returned (.bool true) ∧ J (k + 1) W' ∧ KpX X W1 W') ∨ (e = .returned (.bool false) ∧ Jx W' ∧ KpX X W1 W')) →
    J 0 W → CallsIn Fence.wide n P f (#[.func (.yield l) #[] #[]] ++ lb.toArray) W fun e W' => (∃ v, e = .returned v) ∧ (J xs.length W' ∨ Jx W')
/-- A loop over an iterator: m values a round. -/
inductive IterK (P : Program) (f : FuncId) (cap : List V) (m : Nat) (K : List (List V) → Prop) : Prop
  | mk (xs : List (List V)) (h : IterOk P f cap xs) (hm : ∀ x ∈ xs, x.length = m) (hk : K xs)
/-- Does the object s have a slot that names it ahead of a round and behind it, and was it there? -/
def pinned (ρ ρ' : List (Nat × D)) (o : List (Nat × List V)) (s : Nat) : Bool := (match look o s with | some _ => true | none => false) && ρ.any fun x => match look ρ x.1, look ρ' x.1 with
  | some (.ref s1 o1), some (.ref s2 o2) => s1 == s && s2 == s && o1 == o2
  | _, _ => false
def pinK (ρ ρ' : List (Nat × D)) (o : List (Nat × List V)) : List (Nat × List V) → (List (Nat × List V) → Prop) → Prop
  | [], K => K []
  | (s, cs) :: l, K => match pinned ρ ρ' o s with
    | true => pinK ρ ρ' o l fun r => K ((s, cs) :: r)
    | false => pinK ρ ρ' o l K
def setPs : List Nat → List V → List (Nat × D) → List (Nat × D)
  | p :: ps, v :: vs, ρ => setPs ps vs ((p, .v v) :: ρ)
  | _, _, ρ => ρ
/-- Slots that hold values or name objects. -/
def plainR (ρ : List (Nat × D)) : Bool := ρ.all fun x => match x.2 with
  | .own _ _ _ _ => false
  | _ => true
/-- Behind a round: the slots are those ahead of it, the objects are new. -/
def iterQ (ρ : List (Nat × D)) (o : List (Nat × List V)) (K : List (Nat × List V) → Prop) (Q : Exit → St → Prop) : Exit → St → Prop
  | .normal, st' => pinK ρ st'.ρ o st'.objs K
  | .ret, st' => pinK ρ st'.ρ o st'.objs fun o' => Q .ret ⟨ρ, o'⟩
  | .exit id, st' => pinK ρ st'.ρ o st'.objs fun o' => Q (.exit id) ⟨ρ, o'⟩
  | _, _ => False
/-- The rounds of a loop over an iterator. -/
def iterW (step : (Exit → St → Prop) → St → Prop) (ps : List Nat) (Q : Exit → St → Prop) (ρ : List (Nat × D)) : List (List V) → List (Nat × List V) → Prop
  | [], o => Q .normal ⟨ρ, o⟩
  | v :: vs, o => step (iterQ ρ o (iterW step ps Q ρ vs) Q) ⟨setPs ps v ρ, o⟩
theorem pinK_mono {ρ ρ' : List (Nat × D)} {o : List (Nat × List V)} : ∀ {l : List (Nat × List V)} {K K' : List (Nat × List V) → Prop}, (∀ r, K r → K' r) → pinK ρ ρ' o l K → pinK ρ ρ' o l K'
  | [], _, _, hk, h => hk _ h
  | (s, cs) :: l, _, _, hk, h => by
    unfold pinK at h ⊢
    split
    · rename_i e; rw [e] at h; exact pinK_mono (fun r h => hk _ h) h
    · rename_i e; rw [e] at h; exact pinK_mono hk h
theorem pinK_get {ρ ρ' : List (Nat × D)} {o : List (Nat × List V)} : ∀ {l : List (Nat × List V)} {K : List (Nat × List V) → Prop}, pinK ρ ρ' o l K → ∃ r, K r ∧ ∀ s cs, look r s = some cs → ∃ l', look (l'.filter fun x => pinned ρ ρ' o x.1) s = some cs ∧ l' = l
  | [], K, h => ⟨[], h, fun s cs h => by cases h⟩
  | (k, c) :: l, K, h => by
    unfold pinK at h
    split at h
    · rename_i e
      obtain ⟨r, h1, h2⟩ := pinK_get h
      refine ⟨_, h1, fun s cs hs => ⟨_, ?_, rfl⟩⟩
      simp only [List.filter_cons, e, if_true, look] at hs ⊢
      split
      · rename_i hk; rw [if_pos hk] at hs; exact hs
      · rename_i hk
        rw [if_neg hk] at hs
        obtain ⟨_, h3, rfl⟩ := h2 s cs hs
        exact h3
    · rename_i e
      obtain ⟨r, h1, h2⟩ := pinK_get h
      refine ⟨r, h1, fun s cs hs => ⟨_, ?_, rfl⟩⟩
      obtain ⟨_, h3, rfl⟩ := h2 s cs hs
      simpa only [List.filter_cons, e, Bool.false_eq_true, if_false] using h3
theorem iterQ_mono {ρ : List (Nat × D)} {o : List (Nat × List V)} {K K' : List (Nat × List V) → Prop} {Q Q' : Exit → St → Prop} (hk : ∀ r, K r → K' r) (hq : ∀ e st, Q e st → Q' e st) (e : Exit) (st : St) (h : iterQ ρ o K Q e st) : iterQ ρ o K' Q' e st := by
  cases e <;> first | exact pinK_mono hk h | exact pinK_mono (fun _ h => hq _ _ h) h | exact h
theorem iterW_mono {step : (Exit → St → Prop) → St → Prop} (hs : ∀ (Q Q' : Exit → St → Prop) (st : St), (∀ e st, Q e st → Q' e st) → step Q st → step Q' st) {ps : List Nat} {ρ : List (Nat × D)} {Q Q' : Exit → St → Prop} (hq : ∀ e st, Q e st → Q' e st) :
    ∀ {xs : List (List V)} {o : List (Nat × List V)}, iterW step ps Q ρ xs o → iterW step ps Q' ρ xs o
  | [], o, h => hq _ _ h
  | v :: vs, o, h => hs (iterQ ρ o (iterW step ps Q ρ vs) Q) (iterQ ρ o (iterW step ps Q' ρ vs) Q') _ (iterQ_mono (fun r h => iterW_mono hs hq h) hq) h
/-- The rounds, by what holds ahead of round k. -/
theorem iter_ind {step : (Exit → St → Prop) → St → Prop} (hs : ∀ (Q Q' : Exit → St → Prop) (st : St), (∀ e st, Q e st → Q' e st) → step Q st → step Q' st) {ps : List Nat} {ρ : List (Nat × D)} {Q : Exit → St → Prop} {xs : List (List V)} {α : Type} (S : α → List (Nat × List V)) (I : Nat → α → Prop) (a : α) (ha : I 0 a)
    (h : ∀ k a (hk : k < xs.length), I k a → step (iterQ ρ (S a) (fun o => ∃ a', o = S a' ∧ I (k + 1) a') Q) ⟨setPs ps xs[k] ρ, S a⟩) (he : ∀ a, I xs.length a → Q .normal ⟨ρ, S a⟩) : iterW step ps Q ρ xs (S a) := by
  have main : ∀ (m k : Nat) (a : α), k + m = xs.length → I k a → iterW step ps Q ρ (xs.drop k) (S a) := by
    intro m
    induction m with
    | zero =>
      intro k a hk hI
      rw [List.drop_eq_nil_of_le (by omega)]
      have : k = xs.length := by omega
      subst this
      exact he a hI
    | succ m ih =>
      intro k a hk hI
      have hlt : k < xs.length := by omega
      rw [List.drop_eq_getElem_cons hlt]
      exact hs (iterQ ρ (S a) (fun o => ∃ a', o = S a' ∧ I (k + 1) a') Q) (iterQ ρ (S a) (iterW step ps Q ρ (xs.drop (k + 1))) Q) _ (iterQ_mono (fun r ⟨a', h1, h2⟩ => by subst h1; exact ih (k + 1) a' (by omega) h2) (fun _ _ h => h)) (h k a hlt hI)
  simpa using main xs.length 0 a (by omega) ha
end Go.Proofs.YtljcbmnkjiogmaaDoor.Sv
/-! Code by structure: what must hold ahead of it so that Q holds behind it. -/
namespace Go.Proofs.YtljcbmnkjiogmaaDoor.Sv
open Go Go.RowKit
set_option linter.unusedVariables false
set_option linter.unusedSimpArgs false

/-! ### What is asked of a region that draws its order -/
def isNew : SO → Bool
  | .alloc _ | .box | .mk _ _ _ | .bslO _ _ _ | .callN _ => true
  | _ => false
def isWr : SO → Bool
  | .st _ => true
  | _ => false
def isApp : SO → Bool
  | .app _ _ | .adopt _ | .callM _ | .clr _ _ => true
  | _ => false
/-- Operations that turn a row that they are handed, and name it anew. -/
def isMv : SO → Bool
  | .appo _ _ | .callV _ => true
  | _ => false
def isWm (so : SO) : Bool := isWr so || isMv so
/-- Operations that look into objects, or write there. -/
def readsMem : SO → Bool
  | .ld _ _ _ | .app _ _ | .appv _ _ | .call _ | .callD | .st _ | .cv | .appo _ _ | .callV _ | .callN _ => true
  | _ => false
def Opd.slot : Opd → List Nat
  | .tm t => [t]
  | .cn _ => []
def SOp.slots (s : SOp) : List Nat := s.args.flatMap Opd.slot ++ (match s.guard with | some (g, _) => [g] | none => [])
def mOf (m : List (Nat × List Nat)) (t : Nat) : List Nat := (m.filter fun x => x.1 == t).flatMap (·.2)
def passes : SO → Bool
  | .mv | .pick | .fa _ | .ia _ _ | .sl _ _ _ _ _ | .nck | .len _ | .cv | .appo _ _ | .callV _ => true
  | _ => false
def okM (m : List (Nat × List Nat)) (s : SOp) : Bool := match s.dst with
  | none => true
  | some t => if isNew s.so then (mOf m t).contains t else if passes s.so then s.slots.all fun q => (mOf m q).all fun k => (mOf m t).contains k else true
def slotsM (m : List (Nat × List Nat)) (s : SOp) : List Nat := s.slots.flatMap (mOf m)
def apartM (m : List (Nat × List Nat)) (x y : SOp) : Bool :=
  (!isWm x.so || !(readsMem y.so || isMv x.so) || (slotsM m x).all fun k => !(slotsM m y).contains k) && (!isWm y.so || !(readsMem x.so || isMv y.so) || (slotsM m y).all fun k => !(slotsM m x).contains k)
/-- What slots may name in a region: from what they name ahead of it. -/
def tabM : List SOp → List (Nat × List Nat) → List (Nat × List Nat)
  | [], m => m
  | s :: l, m => tabM l (match s.dst with
    | none => m
    | some t => if isNew s.so then (t, [t]) :: m else if passes s.so then (t, slotsM m s) :: m else m)
def entryM (ρ : List (Nat × D)) : List (Nat × List Nat) := ρ.map fun x => (x.1, sitesD x.2)
def chkM (m : List (Nat × List Nat)) (ss : List SOp) (prs : List (Nat × Nat)) : Bool := ss.all (okM m) && prs.all fun x => match ss[x.1]?, ss[x.2]? with
  | some a, some b => apartM m a b
  | _, _ => true
/-- Where there are pairs to look at: is what they touch apart? -/
def drawChk (st : St) (ss : List SOp) (prs : List (Nat × Nat)) : Bool := match prs with
  | [] => true
  | _ => chkM (tabM ss (entryM st.ρ)) ss prs
/-- A check that is left to the kernel. -/
inductive DregK (c : Bool) (K : Prop) : Prop
  | mk (h : c = true) (hk : K)
/-- A short check is reckoned on the way, a long one is a stop. -/
def drawW (prs : List (Nat × Nat)) (c : Bool) (K : Prop) : Prop := match Nat.ble prs.length 6 with
  | true => match c with
    | true => K
    | false => False
  | false => DregK c K
theorem drawW_iff {prs : List (Nat × Nat)} {c : Bool} {K : Prop} : drawW prs c K ↔ c = true ∧ K := by
  unfold drawW
  split
  · split
    · exact ⟨fun h => ⟨rfl, h⟩, fun h => h.2⟩
    · exact ⟨fun h => h.elim, fun h => by cases h.1⟩
  · exact ⟨fun h => ⟨h.1, h.2⟩, fun h => ⟨h.1, h.2⟩⟩
inductive SC where
  | skip
  | ret
  | exit (id : Nat)
  | reg (ops : List SOp) (live : List Nat)
  | dreg (ops : List SOp) (prs : List (Nat × Nat)) (live : List Nat)
  | seq (x y : SC)
  | cond (c : Opd) (x y : SC)
  | block (id : Nat) (x : SC)
  | loop (live : List Nat) (x : SC)
  | thaw (ds : List Nat) (x : SC)
  | iter (live : List Nat) (g : Opd) (ps : List Nat) (x y : SC)
  | bad
def keepR (live : List Nat) (ρ : List (Nat × D)) : List (Nat × D) := live.filterMap fun t => (look ρ t).map fun d => (t, d)
def keepO (ρ : List (Nat × D)) (objs : List (Nat × List V)) : List (Nat × List V) := objs.filter fun x => ρ.any fun y => y.2.ment x.1
/-- What is wanted no more is forgotten. -/
def St.keep (live : List Nat) (st : St) : St := ⟨keepR live st.ρ, keepO (keepR live st.ρ) st.objs⟩
def dsite (o : SOp) : List Nat := match o.so, o.dst with
  | .alloc _, some s | .box, some s | .mk _ _ _, some s | .bslO _ _ _, some s | .callN _, some s => [s]
  | _, _ => []
/-- Names that a region makes anew are forgotten ahead of it. -/
def St.clean (ss : List Nat) (st : St) : St := ⟨ss.foldl (fun ρ s => killR s ρ) st.ρ, ss.foldl (fun o s => rid o s) st.objs⟩
def thenQ (K : St → Prop) (Q : Exit → St → Prop) : Exit → St → Prop
  | .normal, st => K st
  | e, st => Q e st
def inBlockQ (id : Nat) (Q : Exit → St → Prop) : Exit → St → Prop
  | .exit id', st => if id' = id then Q .normal st else Q (.exit id') st
  | e, st => Q e st
/-- The least condition that holds wherever one round leads back to it. -/
def LoopQ (step : (St → Prop) → St → Prop) (st : St) : Prop := ∀ I : St → Prop, (∀ s, step I s → I s) → I st
inductive LoopW (step : (St → Prop) → St → Prop) (st : St) : Prop
  | mk (h : LoopQ step st)
def keepRK : List Nat → List (Nat × D) → (List (Nat × D) → Prop) → Prop
  | [], _, K => K []
  | t :: l, ρ, K => match look ρ t with
    | some d => keepRK l ρ fun r => K ((t, d) :: r)
    | none => keepRK l ρ K
def keepOK (ρ : List (Nat × D)) : List (Nat × List V) → (List (Nat × List V) → Prop) → Prop
  | [], K => K []
  | (s, cs) :: l, K => match ρ.any fun y => y.2.ment s with
    | true => keepOK ρ l fun r => K ((s, cs) :: r)
    | false => keepOK ρ l K
/-- As keep, but reckoned before one goes on. -/
def keepK (live : List Nat) (st : St) (K : St → Prop) : Prop := keepRK live st.ρ fun ρ => keepOK ρ st.objs fun o => K ⟨ρ, o⟩
theorem keepRK_iff : ∀ {l : List Nat} {ρ : List (Nat × D)} {K : List (Nat × D) → Prop}, keepRK l ρ K ↔ K (keepR l ρ)
  | [], _, _ => Iff.rfl
  | t :: l, ρ, K => by
    simp only [keepRK, keepR, List.filterMap_cons]
    cases look ρ t with
    | none => exact keepRK_iff
    | some d => exact keepRK_iff (K := fun r => K ((t, d) :: r))
theorem keepOK_iff {ρ : List (Nat × D)} : ∀ {o : List (Nat × List V)} {K : List (Nat × List V) → Prop}, keepOK ρ o K ↔ K (keepO ρ o)
  | [], _ => Iff.rfl
  | (s, cs) :: l, K => by
    simp only [keepOK, keepO, List.filter_cons]
    cases ρ.any fun y => y.2.ment s with
    | false => exact keepOK_iff
    | true => exact keepOK_iff (K := fun r => K ((s, cs) :: r))
theorem keepK_iff {live : List Nat} {st : St} {K : St → Prop} : keepK live st K ↔ K (st.keep live) := keepRK_iff.trans keepOK_iff
/-- Behind a piece of code that wrote to none of the objects: what was there before, and what is flat in the slots ds that it set. -/
def mergeR : List Nat → List (Nat × D) → List (Nat × D) → List (Nat × D)
  | [], ρ, _ => ρ
  | t :: ds, ρ, ρ2 => match look ρ2 t with
    | some (.v v) => match v.flat1 with
      | true => mergeR ds ((t, .v v) :: ρ) ρ2
      | false => mergeR ds (rid ρ t) ρ2
    | _ => mergeR ds (rid ρ t) ρ2
def mergeK : List Nat → List (Nat × D) → List (Nat × D) → (List (Nat × D) → Prop) → Prop
  | [], ρ, _, K => K ρ
  | t :: ds, ρ, ρ2, K => match look ρ2 t with
    | some (.v v) => match v.flat1 with
      | true => mergeK ds ((t, .v v) :: ρ) ρ2 K
      | false => mergeK ds (rid ρ t) ρ2 K
    | _ => mergeK ds (rid ρ t) ρ2 K
theorem mergeK_iff : ∀ {ds : List Nat} {ρ ρ2 : List (Nat × D)} {K : List (Nat × D) → Prop}, mergeK ds ρ ρ2 K ↔ K (mergeR ds ρ ρ2)
  | [], _, _, _ => Iff.rfl
  | t :: ds, ρ, ρ2, K => by
    unfold mergeK mergeR
    split
    · split
      · exact mergeK_iff
      · exact mergeK_iff
    · exact mergeK_iff
theorem look_mergeR {ρ2 : List (Nat × D)} {t : Nat} {d : D} : ∀ {ds : List Nat} {ρ : List (Nat × D)}, look (mergeR ds ρ ρ2) t = some d → (∃ v, v.flat1 = true ∧ look ρ2 t = some (.v v) ∧ d = .v v) ∨ (look ρ t = some d ∧ t ∉ ds)
  | [], ρ, h => .inr ⟨h, by simp⟩
  | k :: ds, ρ, h => by
    have ridc : look (mergeR ds (rid ρ k) ρ2) t = some d → (∃ v, v.flat1 = true ∧ look ρ2 t = some (.v v) ∧ d = .v v) ∨ (look ρ t = some d ∧ t ∉ k :: ds) := fun h => by
      rcases look_mergeR h with h | ⟨h1, h2⟩
      · exact .inl h
      · rw [look_rid] at h1
        split at h1
        · cases h1
        · rename_i e; exact .inr ⟨h1, by simp [e, h2]⟩
    unfold mergeR at h
    split at h
    · rename_i v hv
      split at h
      · rename_i hf
        rcases look_mergeR h with h | ⟨h1, h2⟩
        · exact .inl h
        · simp only [look] at h1
          split at h1
          · rename_i e; subst e; cases h1; exact .inl ⟨v, hf, hv, rfl⟩
          · rename_i e; exact .inr ⟨h1, by simp [e, h2]⟩
      · exact ridc h
    · exact ridc h
def thawQ (ds : List Nat) (st : St) (Q : Exit → St → Prop) : Exit → St → Prop
  | .normal, st2 => mergeK ds st.ρ st2.ρ fun ρ => Q .normal ⟨ρ, st.objs⟩
  | _, _ => False
theorem thawQ_mono {ds : List Nat} {st : St} {Q Q' : Exit → St → Prop} (hq : ∀ e st, Q e st → Q' e st) (e : Exit) (st2 : St) (h : thawQ ds st Q e st2) : thawQ ds st Q' e st2 := by
  cases e with
  | normal => exact mergeK_iff.2 (hq _ _ (mergeK_iff.1 h))
  | _ => exact h
def SC.wp (P : Program) : SC → (Exit → St → Prop) → St → Prop
  | .skip, Q, st => Q .normal st
  | .ret, Q, st => Q .ret st
  | .exit id, Q, st => Q (.exit id) st
  | .reg ops live, Q, st => opsWP P false [] ops (fun st' => keepK live st' (Q .normal)) st
  | .dreg ops prs live, Q, st => drawW prs (drawChk (st.clean (ops.flatMap dsite)) ops prs) (opsWP P true [] ops (fun st' => keepK live st' (Q .normal)) (st.clean (ops.flatMap dsite)))
  | .seq x y, Q, st => x.wp P (thenQ (fun st' => y.wp P Q st') Q) st
  | .cond c x y, Q, st => match c.ev st with
    | some (.v (.b p)) => DecK p fun b => if b then x.wp P Q st else y.wp P Q st
    | _ => False
  | .block id x, Q, st => x.wp P (inBlockQ id Q) st
  | .loop live x, Q, st => keepK live st fun st => LoopW (fun I s => x.wp P (thenQ (fun st' => keepK live st' I) Q) s) st
  | .thaw ds x, Q, st => forceR (st.freezeL (st.objs.map (·.1))).ρ fun ρ => x.wp P (thawQ ds st Q) ⟨ρ, []⟩
  | .iter live g ps x y, Q, st => match g.ev st with
    | some (.v (.clo (.func f) [] cap)) => keepK live st fun st => match plainR st.ρ with
      | true => IterK P f cap ps.length fun xs => iterW (fun Q s => x.wp P (thenQ (fun st' => y.wp P Q st') (fun _ _ => False)) s) ps Q st.ρ xs st.objs
      | false => False
    | _ => False
  | .bad, _, _ => False
section
variable {P : Program} {w w0 w' : World} {U E : Nat → Prop} {nt : Nat} {st st' : St} {a : Act} {η : Eta} {ok : Nat → Prop}
theorem thenQ_mono {K K' : St → Prop} {Q Q' : Exit → St → Prop} (hk : ∀ st, K st → K' st) (hq : ∀ e st, Q e st → Q' e st) (e : Exit) (st : St) (h : thenQ K Q e st) : thenQ K' Q' e st := by
  cases e <;> first | exact hk _ h | exact hq _ _ h
theorem inBlockQ_mono {id : Nat} {Q Q' : Exit → St → Prop} (hq : ∀ e st, Q e st → Q' e st) (e : Exit) (st : St) (h : inBlockQ id Q e st) : inBlockQ id Q' e st := by
  cases e with
  | exit id' =>
    unfold inBlockQ at h ⊢
    by_cases hi : id' = id
    · simp only [hi, if_true] at h ⊢; exact hq _ _ h
    · simp only [hi, if_false] at h ⊢; exact hq _ _ h
  | _ => exact hq _ _ h
theorem SC.wp_mono : ∀ (c : SC) {Q Q' : Exit → St → Prop} {st : St}, (∀ e st, Q e st → Q' e st) → c.wp P Q st → c.wp P Q' st
  | .skip, _, _, _, hq, h => hq _ _ h
  | .ret, _, _, _, hq, h => hq _ _ h
  | .exit id, _, _, _, hq, h => hq _ _ h
  | .reg ops live, _, _, _, hq, h => opsWP_mono (fun _ h => keepK_iff.2 (hq _ _ (keepK_iff.1 h))) h
  | .dreg ops prs live, _, _, _, hq, h => by
    unfold SC.wp at h ⊢
    obtain ⟨h1, h⟩ := drawW_iff.1 h
    exact drawW_iff.2 ⟨h1, opsWP_mono (fun _ h => keepK_iff.2 (hq _ _ (keepK_iff.1 h))) h⟩
  | .seq x y, _, _, _, hq, h => SC.wp_mono x (thenQ_mono (fun _ h => SC.wp_mono y hq h) hq) h
  | .cond c x y, _, _, st, hq, h => by
    unfold SC.wp at h ⊢
    split at h
    · refine h.mono fun b h => ?_
      cases b
      · exact SC.wp_mono y hq h
      · exact SC.wp_mono x hq h
    · exact h
  | .block id x, _, _, _, hq, h => SC.wp_mono x (inBlockQ_mono hq) h
  | .loop live x, _, _, _, hq, h => by
    obtain ⟨h⟩ := keepK_iff.1 h
    exact keepK_iff.2 ⟨fun I hI => h I fun s hs => hI s (SC.wp_mono x (thenQ_mono (fun _ h => h) hq) hs)⟩
  | .thaw ds x, Q, Q', st, hq, h => by
    unfold SC.wp at h ⊢
    exact (forceR_iff (K := fun ρ => x.wp P (thawQ ds st Q') ⟨ρ, []⟩)).2 (SC.wp_mono x (thawQ_mono hq) ((forceR_iff (K := fun ρ => x.wp P (thawQ ds st Q) ⟨ρ, []⟩)).1 h))
  | .iter live g ps x y, _, _, st, hq, h => by
    unfold SC.wp at h ⊢
    split at h
    · refine keepK_iff.2 ?_
      have h := keepK_iff.1 h
      split at h
      · rename_i e
        obtain ⟨xs, h1, h2, h3⟩ := h
        exact ⟨xs, h1, h2, iterW_mono (step := fun Q s => x.wp P (thenQ (fun st' => y.wp P Q st') (fun _ _ => False)) s) (fun _ _ _ hq h => SC.wp_mono x (thenQ_mono (fun _ h => SC.wp_mono y hq h) (fun _ _ h => h)) h) hq h3⟩
      · exact h.elim
    · exact h
  | .bad, _, _, _, _, h => h
/-- A loop's rounds from a state on. -/
abbrev loopW (P : Program) (live : List Nat) (x : SC) (Q : Exit → St → Prop) (st : St) : Prop := LoopW (fun I s => x.wp P (thenQ (fun st' => keepK live st' I) Q) s) st
/-- A loop, one round unrolled. -/
theorem loop_unroll {live : List Nat} {x : SC} {Q : Exit → St → Prop} (h : x.wp P (thenQ (fun st' => keepK live st' fun st => loopW P live x Q st) Q) st) : loopW P live x Q st := by
  refine ⟨fun I hI => hI _ (SC.wp_mono x (thenQ_mono (fun st' h' => ?_) (fun _ _ h => h)) h)⟩
  exact keepK_iff.2 ((keepK_iff.1 h').1 I hI)
theorem look_filter {l : List (Nat × List V)} {p : Nat → Bool} {s : Nat} {cs : List V} (h : look (l.filter fun x => p x.1) s = some cs) : look l s = some cs := by
  induction l with
  | nil => cases h
  | cons x l ih =>
    obtain ⟨k, c⟩ := x
    simp only [List.filter_cons] at h
    split at h
    · simp only [look] at h ⊢
      split at h
      · rename_i hk; rw [if_pos hk]; exact h
      · rename_i hk; rw [if_neg hk]; exact ih h
    · rename_i hp
      have := ih h
      simp only [look]
      split
      · rename_i hk
        subst hk
        -- a key that is left out is left out everywhere
        exact absurd h (by
          intro h
          have : ∀ (l : List (Nat × List V)), look (l.filter fun x => p x.1) s = some cs → p s = true := fun l => by
            induction l with
            | nil => intro h; cases h
            | cons y l ih =>
              obtain ⟨k', c'⟩ := y
              intro h
              simp only [List.filter_cons] at h
              split at h
              · rename_i hp'
                simp only [look] at h
                split at h
                · rename_i hk'; subst hk'; exact hp'
                · exact ih h
              · exact ih h
          exact hp (this l h))
      · exact this
theorem look_keepR {live : List Nat} {ρ : List (Nat × D)} {t : Nat} {d : D} (h : look (keepR live ρ) t = some d) : look ρ t = some d := by
  induction live with
  | nil => cases h
  | cons k live ih =>
    unfold keepR at h ih
    simp only [List.filterMap_cons] at h
    cases hk : look ρ k with
    | none => rw [hk] at h; exact ih h
    | some e =>
      rw [hk] at h
      simp only [Option.map_some, look] at h
      split at h
      · rename_i ht; subst ht; cases h; exact hk
      · exact ih h
theorem RelX.keep (live : List Nat) (h : RelX w0 U E nt st a w) : RelX w0 U E nt (st.keep live) a w := by
  obtain ⟨η, h⟩ := h
  exact ⟨η, h.sub (fun t d ht => .inl (look_keepR ht)) (fun s cs hs => look_filter (p := fun s => (keepR live st.ρ).any fun y => y.2.ment s) hs)⟩
theorem RelX.kill (s : Nat) (h : RelX w0 U E nt st a w) : RelX w0 U E nt ⟨killR s st.ρ, rid st.objs s⟩ a w := let ⟨η, h⟩ := h; ⟨η, h.drop s⟩
theorem RelX.clean (ss : List Nat) (h : RelX w0 U E nt st a w) : RelX w0 U E nt (st.clean ss) a w := by
  induction ss generalizing st with
  | nil => exact h
  | cons s ss ih => exact ih (st := ⟨killR s st.ρ, rid st.objs s⟩) (h.kill s)
/-- What the model is asked behind a piece of code. -/
def lift (w0 : World) (U E : Nat → Prop) (nt : Nat) (Q : Exit → St → Prop) : Exit → Act → World → Prop := fun e a w => ∃ st, RelX w0 U E nt st a w ∧ Q e st
/-- From a round's beginning on. -/
def LoopSem (P : Program) (c : Code) (Q : Exit → Act → World → Prop) (a : Act) (w : World) : Prop :=
  ∀ (b : Frame) (k : List Item) (cs : List Frame), ∃ e a' w', Q e a' w' ∧ Arrives P (lone (b.at a (.code c :: .inLoop c :: k)) cs w) b k cs e a' w'
theorem LoopSem.wp {c : Code} {Q : Exit → Act → World → Prop} (h : LoopSem P c Q a w) : (Code.loop c).wp P Q a w := fun b k cs =>
  let ⟨e, a', w', hq, harr⟩ := h b k cs
  ⟨e, a', w', hq, .of_steps (.one step_loop) harr⟩
theorem LoopSem.unroll {c : Code} {Q : Exit → Act → World → Prop} (h : c.wp P (Exit.then (LoopSem P c Q) Q) a w) : LoopSem P c Q a w := by
  intro b k cs
  obtain ⟨e, a₁, w₁, hq, harr⟩ := h b (.inLoop c :: k) cs
  cases e with
  | normal =>
    obtain ⟨e₂, a₂, w₂, hq₂, harr₂⟩ := hq b k cs
    exact ⟨e₂, a₂, w₂, hq₂, .of_steps (Steps.trans harr (.one step_inLoop)) harr₂⟩
  | exit id => exact ⟨_, a₁, w₁, hq, .pass (x := .inLoop c) rfl (fun _ _ => .inl (by simp)) harr⟩
  | goto l => exact ⟨_, a₁, w₁, hq, .pass (x := .inLoop c) rfl (fun _ _ => .inl (by simp)) harr⟩
  | ret => exact ⟨_, a₁, w₁, hq, .pass (x := .inLoop c) rfl (fun _ _ => .inl (by simp)) harr⟩
  | panic ch => exact ⟨_, a₁, w₁, hq, .pass (x := .inLoop c) rfl (fun _ _ => .inl (by simp)) harr⟩
  | outgrown => exact ⟨_, a₁, w₁, hq, .pass (x := .inLoop c) rfl (fun _ _ => .inl (by simp)) harr⟩
end
end Go.Proofs.YtljcbmnkjiogmaaDoor.Sv
