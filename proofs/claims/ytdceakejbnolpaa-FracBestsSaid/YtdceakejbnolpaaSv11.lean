/- The operations that make and write objects do in the model what is said of them. No condition. -/
import Derived.Test.YtdceakejbnolpaaSv10
namespace Go.Proofs.Ytdceakejbnolpaa.Sv
open Go Go.RowKit
set_option linter.unusedVariables false
set_option linter.unusedSimpArgs false

def setA : Array Value → Nat → List Value → Array Value
  | c, _, [] => c
  | c, o, v :: vs => setA (c.setIfInBounds o v) (o + 1) vs
theorem setA_size : ∀ (vs : List Value) (c : Array Value) (o : Nat), (setA c o vs).size = c.size
  | [], c, o => rfl
  | v :: vs, c, o => by simp [setA, setA_size vs]
theorem setA_get : ∀ (vs : List Value) (c : Array Value) (o j : Nat), o + vs.length ≤ c.size → (setA c o vs)[j]? = if o ≤ j ∧ j < o + vs.length then vs[j - o]? else c[j]?
  | [], c, o, j, h => by
    simp only [setA, List.length_nil, Nat.add_zero]
    rw [if_neg (by omega)]
  | v :: vs, c, o, j, h => by
    simp only [List.length_cons] at h
    rw [setA, setA_get vs _ _ _ (by simp; omega)]
    by_cases h1 : o + 1 ≤ j ∧ j < o + 1 + vs.length
    · rw [if_pos h1, if_pos (by simp; omega), show j - o = (j - (o + 1)) + 1 by omega]
      rfl
    · rw [if_neg h1]
      by_cases h2 : o = j
      · subst h2
        rw [if_pos (by simp)]
        have : o < c.size := by omega
        simp [this]
      · rw [Array.getElem?_setIfInBounds_ne h2, if_neg (by simp; omega)]
theorem setL_get : ∀ (vs cs : List V) (o j : Nat), o + vs.length ≤ cs.length → (setL cs o vs)[j]? = if o ≤ j ∧ j < o + vs.length then vs[j - o]? else cs[j]?
  | [], cs, o, j, h => by
    simp only [setL, List.length_nil, Nat.add_zero]
    rw [if_neg (by omega)]
  | v :: vs, cs, o, j, h => by
    simp only [List.length_cons] at h
    rw [setL, setL_get vs _ _ _ (by simp; omega)]
    by_cases h1 : o + 1 ≤ j ∧ j < o + 1 + vs.length
    · rw [if_pos h1, if_pos (by simp; omega), show j - o = (j - (o + 1)) + 1 by omega]
      rfl
    · rw [if_neg h1]
      by_cases h2 : o = j
      · subst h2
        rw [if_pos (by simp), List.getElem?_set_self (by omega)]
        simp
      · rw [List.getElem?_set_ne h2, if_neg (by simp; omega)]
section
variable {P : Program} {w w0 w' : World} {U E : Nat → Prop} {nt : Nat} {st : St} {a : Act} {η : Eta} {ok : Nat → Prop}
theorem one_rep {v : V} {u : Value} (h : RepV w ok v u) (hv : v.one = true) : u.oneCell' = true := by
  cases h <;> first | rfl | (simp [V.one] at hv)
theorem run_storeCells (b : Nat) : ∀ (vs : List Value) (o i : Nat) (c : Array Value) (e : TypeId) (fr : Nat × Nat) (w : World), w.heap[b]? = some (.cells c e fr) → o + i + vs.length ≤ c.size →
    (∀ j, o + i ≤ j → j < c.size → ¬ (fr.1 ≤ j ∧ j < fr.2)) → (∀ v ∈ vs, v.oneCell' = true) →
    ∃ w', (storeCells ⟨b, o, none⟩ vs i).run P w = .ok () w' ∧ Turn w w' b ∧ w'.heap[b]? = some (.cells (setA c (o + i) vs) e fr)
  | [], o, i, c, e, fr, w, hb, hl, hf, ho => ⟨w, rfl, ⟨rfl, rfl, rfl, rfl, fun _ _ => rfl, rfl⟩, hb⟩
  | v :: vs, o, i, c, e, fr, w, hb, hl, hf, ho => by
    simp only [List.length_cons] at hl
    have hlt : o + i < c.size := by omega
    have hcell : w.cell? ⟨b, o + i, none⟩ = some c[o + i] := by simp [World.cell?, hb, hlt]
    have hfr : w.frozen? ⟨b, o + i, none⟩ = false := by
      simp only [World.frozen?, hb]
      have := hf (o + i) (Nat.le_refl _) hlt
      simp only [Bool.and_eq_false_iff, decide_eq_false_iff_not]
      omega
    have hset : (w.setCell ⟨b, o + i, none⟩ v).heap[b]? = some (.cells (c.setIfInBounds (o + i) v) e fr) := by simp [World.setCell, Array.getElem?_modify, hb]
    obtain ⟨w', h1, h2, h3⟩ := run_storeCells b vs o (i + 1) (c.setIfInBounds (o + i) v) e fr (w.setCell ⟨b, o + i, none⟩ v) hset (by simp; omega) (fun j hj hj' => hf j (by omega) (by simpa using hj')) (fun x hx => ho x (by simp [hx]))
    refine ⟨w', ?_, ⟨h2.os, h2.tape, h2.output, by rw [h2.size]; simp, fun k hk => by rw [h2.block k hk, Below.heap_setCell _ _ _ _ hk], by rw [h2.row]; simp [rowSize, hset, hb]⟩, by rw [h3]; rfl⟩
    have hs := run_store P w ⟨b, o + i, none⟩ v .plain (ho v (by simp))
    rw [hcell] at hs
    simp only [hfr, Bool.false_eq_true, if_false] at hs
    simp only [storeCells, add_plain, Sem.run_bind, hs, Result.andThen_ok]
    exact h1
theorem store_lies {b o off : Nat} {cs vs : List V} {us : List Value} {c : Array Value} {e : TypeId} {fr : Nat × Nat} (hb : w'.heap[b]? = some (.cells (setA c (o + off) us) e fr)) (hl : o + cs.length ≤ c.size) (hlv : off + vs.length ≤ cs.length)
    (hf : ∀ i, o ≤ i → i < c.size → ¬ (fr.1 ≤ i ∧ i < fr.2)) (hr : ∀ (i : Nat) v, cs[i]? = some v → RepV w ok v (c.getD (o + i) undef)) (hu : RepL w ok vs us) (hk : ∀ v u, RepV w ok v u → RepV w' ok v u) : Lies w' ok b o (setL cs off vs) := by
  refine ⟨_, e, fr, hb, by rw [setA_size, setL_length]; exact hl, fun i h1 h2 => hf i h1 (by rwa [setA_size] at h2), fun i v hi => ?_⟩
  rw [setL_get _ _ _ _ hlv] at hi
  have hg := setA_get us c (o + off) (o + i) (by rw [hu.1]; omega)
  rw [Array.getD_eq_getD_getElem?, hg]
  rw [hu.1]
  split at hi
  · rename_i h1
    rw [if_pos (by omega), show o + i - (o + off) = i - off by omega]
    obtain ⟨u, h2, h3⟩ := hu.2 _ _ hi
    rw [h2]
    exact hk _ _ h3
  · rename_i h1
    rw [if_neg (by omega), ← Array.getD_eq_getD_getElem?]
    exact hk _ _ (hr i v hi)
theorem grow_lies {b o : Nat} {cs vs : List V} {us : List Value} {c : Array Value} {e : TypeId} {fr : Nat × Nat} (hb : w'.heap[b]? = some (.cells (setA c (o + cs.length) us) e fr)) (hl : o + cs.length + vs.length ≤ c.size)
    (hf : ∀ i, o ≤ i → i < c.size → ¬ (fr.1 ≤ i ∧ i < fr.2)) (hr : ∀ (i : Nat) v, cs[i]? = some v → RepV w ok v (c.getD (o + i) undef)) (hu : RepL w ok vs us) (hk : ∀ v u, RepV w ok v u → RepV w' ok v u) : Lies w' ok b o (cs ++ vs) := by
  refine ⟨_, e, fr, hb, by rw [setA_size, List.length_append]; omega, fun i h1 h2 => hf i h1 (by rwa [setA_size] at h2), fun i v hi => ?_⟩
  have hlt := (List.getElem?_eq_some_iff.1 hi).1
  rw [List.length_append] at hlt
  have hg := setA_get us c (o + cs.length) (o + i) (by rw [hu.1]; omega)
  rw [Array.getD_eq_getD_getElem?, hg]
  rw [hu.1]
  rw [List.getElem?_append] at hi
  split at hi
  · rename_i h1
    rw [if_neg (by omega), ← Array.getD_eq_getD_getElem?]
    exact hk _ _ (hr i v hi)
  · rename_i h1
    rw [if_pos (by omega), show o + i - (o + cs.length) = i - cs.length by omega]
    obtain ⟨u, h2, h3⟩ := hu.2 _ _ hi
    rw [h2]
    exact hk _ _ h3
theorem Lies.mono {ok' : Nat → Prop} {b o : Nat} {cs : List V} (hk : ∀ b', ok b' → ok' b') (h : Lies w ok b o cs) : Lies w ok' b o cs :=
  let ⟨c, e, fr, h1, h2, h3, h4⟩ := h
  ⟨c, e, fr, h1, h2, h3, fun i v hi => (h4 i v hi).mono fun b hb => ⟨hk b hb, rfl⟩⟩
theorem new_lies {cs : List V} {cu : Array Value} {e : TypeId} (hr : ∀ (i : Nat) v, cs[i]? = some v → RepV w ok v (cu.getD i undef)) (hl : cs.length ≤ cu.size) (hlt : ∀ b, ok b → b < w.heap.size) {ok' : Nat → Prop} (hk : ∀ b, ok b → ok' b) :
    Lies (w.alloc (.cells cu e)) ok' w.heap.size 0 cs :=
  ⟨cu, e, (0, 0), (by show (w.heap.push _)[w.heap.size]? = _; simp), by omega, fun i _ _ => by simp, fun i v hi => by
    rw [Nat.zero_add]
    exact (hr i v hi).mono fun b hb => ⟨hk b hb, Below.heap_alloc _ _ _ (hlt b hb)⟩⟩
theorem getD_of_toList {cu : Array Value} {i : Nat} {u : Value} (h : cu.toList[i]? = some u) : cu.getD i undef = u := by
  have : cu[i]? = some u := by simpa using h
  simp [Array.getD_eq_getD_getElem?, this]
theorem RepL.getD {cs : List V} {cu : Array Value} (h : RepL w ok cs cu.toList) (i : Nat) (v : V) (hi : cs[i]? = some v) : RepV w ok v (cu.getD i undef) := by
  obtain ⟨u, hu, hr⟩ := h.2 i v hi
  rw [getD_of_toList hu]; exact hr

/-! ### What an operation makes or writes -/
/-- The cells that an append is handed. -/
def appArg (objs : List (Nat × List V)) (z : Nat) : D → Option (Nat × List V)
  | .v (.sl m ys _) => if ys.length = m * z then some (m, ys) else none
  | .own s z' off m => (look objs s).bind fun cs => if z' = z ∧ off + m * z ≤ cs.length then some (m, (cs.drop off).take (m * z)) else none
  | _ => none
def SO.ef (st : St) (dst : Option Nat) : SO → List D → Option St
  | .alloc zero, [] => dst.map fun s => (st.fresh s zero).put dst (.ref s 0)
  | .box, [.v x] => dst.map fun s => (st.fresh s x.cells).put dst (.ref s 0)
  | .st z, [.ref s off, .v x] => (look st.objs s).bind fun cs => if x.cells.length = z ∧ off + z ≤ cs.length ∧ x.cells.all V.one ∧ dst = none then some ⟨st.ρ, upd st.objs s (setL cs off x.cells)⟩ else none
  | .mk z bytes zero, [.v (.n _ l), .v (.n _ c)] => if 0 ≤ l ∧ l ≤ c ∧ c * bytes ≤ 2 ^ 48 ∧ c < 2 ^ 63 then dst.map fun s => (st.fresh s (zerosL zero l.toNat)).put dst (.own s z 0 l.toNat) else none
  | .app z bytes, [.own s0 z' off ln, x] => (look st.objs s0).bind fun cs => (appArg st.objs z x).bind fun (m, ys) =>
      if z' = z ∧ off + ln * z = cs.length ∧ (ln + m) * bytes ≤ 2 ^ 47 ∧ ys.all V.one then dst.map fun _ => (st.move s0 s0 (cs.drop off ++ ys)).put dst (.own s0 z 0 (ln + m)) else none
  | .app z bytes, [.v (.sl 0 [] true), x] => (appArg st.objs z x).bind fun (m, ys) =>
      dst.bind fun s => if x.ment s = false ∧ m * bytes ≤ 2 ^ 47 ∧ ys.all V.one then some (((st.fresh s []).move s s ys).put dst (.own s z 0 m)) else none
  | .adopt z, [] => dst.map fun s => (st.fresh s []).put dst (.own s z 0 0)
  | .clr z zero, [.own s z' off ln] => (look st.objs s).bind fun cs => if z' = z ∧ off + ln * z ≤ cs.length ∧ zero.all V.one ∧ dst = none then some ⟨st.ρ, upd st.objs s (setL cs off (zerosL zero ln))⟩ else none
  | _, _ => none
theorem newRow_run (e : TypeId) (cu : Array Value) : (newRow e cu).run P w = .ok ⟨w.heap.size, 0, none⟩ (w.alloc (.cells cu e)) := by simp [newRow]
theorem zeroOf_run {t : TypeId} {zs : List V} (h : zeroOf P t = some zs) : ∃ z, (zeroValue t).run P w = .ok z w ∧ RepL w ok zs z.cells.toList := by
  unfold zeroOf at h
  simp only [Option.bind_eq_some_iff] at h
  obtain ⟨i, hi, z, hz, hc⟩ := h
  exact ⟨z, by simp [zeroValue, run_info hi, hz], cVals_rep hc⟩
theorem alloc_sound (hrel : Rel w0 U E nt st a w η) {t : TypeId} {zs : List V} {s : Nat} (h : zeroOf P t = some zs) (hn : s < nt) :
    ∃ u w' η', (Instr.alloc t true (.tuple #[])).run P w = .ok u w' ∧ Rel w0 U E nt ((st.fresh s zs).put (some s) (.ref s 0)) (a.put (some s) u) w' η' := by
  obtain ⟨z, h1, h2⟩ := zeroOf_run (w := w) (ok := Ok U st.objs η w) h
  have hb : Below w.heap.size w (w.alloc (.cells z.cells t)) := (Below.refl _ _).alloc (Nat.le_refl _) _
  have hl : zs.length ≤ z.cells.size := by have := h2.1; simp at this; omega
  have hr := hrel.fresh hb (s := s) (cs := zs) (x := some (w.heap.size, 0)) ⟨Nat.le_refl _, by simp, fun ok' hk => new_lies (fun i v hi => h2.getD i v hi) hl (fun b hb => hb.1) hk⟩
  refine ⟨.pointer (some ⟨w.heap.size, 0, none⟩), _, η.set s (some (w.heap.size, 0)), by simp [Instr.alloc, h1, newVar, newRow_run], hr.put (dst := some s) (.ref s 0 _ 0 Eta.set_same) (fun t ht => by cases ht; exact hn)⟩
theorem box_sound (hrel : Rel w0 U E nt st a w η) {t : TypeId} {x : V} {u : Value} {s : Nat} (hx : RepV w (Ok U st.objs η w) x u) (hn : s < nt) :
    ∃ u' w' η', (Instr.box t u).run P w = .ok u' w' ∧ Rel w0 U E nt ((st.fresh s x.cells).put (some s) (.ref s 0)) (a.put (some s) u') w' η' := by
  have h2 := cells_rep hx
  have hb : Below w.heap.size w (w.alloc (.cells u.cells t)) := (Below.refl _ _).alloc (Nat.le_refl _) _
  have hl : x.cells.length ≤ u.cells.size := by have := h2.1; simp at this; omega
  have hr := hrel.fresh hb (s := s) (cs := x.cells) (x := some (w.heap.size, 0)) ⟨Nat.le_refl _, by simp, fun ok' hk => new_lies (fun i v hi => h2.getD i v hi) hl (fun b hb => hb.1) hk⟩
  exact ⟨.pointer (some ⟨w.heap.size, 0, none⟩), _, η.set s (some (w.heap.size, 0)), by simp [Instr.box, newVar, newRow_run], hr.put (dst := some s) (.ref s 0 _ 0 Eta.set_same) (fun t ht => by cases ht; exact hn)⟩
theorem ok_row (hrel : Rel w0 U E nt st a w η) {s b o : Nat} {cs : List V} (hs : look st.objs s = some cs) (hη : η s = some (b, o)) (ht : Turn w w' b) (v : V) (u : Value) (h : RepV w (Ok U st.objs η w) v u) : RepV w' (Ok U st.objs η w) v u :=
  h.mono fun b' hb' => ⟨hb', ht.block b' fun e => hb'.2.2 s cs o hs (by rw [e]; exact hη)⟩
theorem st_sound (hrel : Rel w0 U E nt st a w η) {t : TypeId} {z s off : Nat} {cs : List V} {x : V} {ua u : Value} (hz : szOf P t = some z) (ha : RepD w (Ok U st.objs η w) η (.ref s off) ua) (hx : RepV w (Ok U st.objs η w) x u)
    (hs : look st.objs s = some cs) (hl : x.cells.length = z) (hle : off + z ≤ cs.length) (hz0 : z ≠ 0) (h1 : x.cells.all V.one = true) :
    ∃ w', (Instr.storeAt t ua u).run P w = .ok () w' ∧ Rel w0 U E nt ⟨st.ρ, upd st.objs s (setL cs off x.cells)⟩ a w' η := by
  cases ha with | ref _ _ b o hη =>
  have ho := hrel.objs s cs hs
  unfold RepO at ho
  rw [hη] at ho
  obtain ⟨c, e, fr, g1, g2, g3, g4⟩ := ho
  have hxr := cells_rep hx
  have hul : u.cells.toList.length = z := by rw [hxr.1]; exact hl
  obtain ⟨w', k1, k2, k3⟩ := run_storeCells (P := P) b u.cells.toList (o + off) 0 c e fr w g1 (by omega) (fun j hj hj' => g3 j (by omega) hj') (fun v hv => by
    obtain ⟨i, hi⟩ := List.mem_iff_getElem?.1 hv
    have hlt : i < x.cells.length := by rw [← hxr.1]; exact (List.getElem?_eq_some_iff.1 hi).1
    obtain ⟨u', hu', hr⟩ := hxr.2 i _ (List.getElem?_eq_getElem hlt)
    rw [hi] at hu'
    cases hu'
    exact one_rep hr (List.all_eq_true.1 h1 _ (List.getElem_mem hlt)))
  rw [Nat.add_zero] at k3
  refine ⟨w', ?_, hrel.store hs hη k2 fun ok' hk => ?_⟩
  · have : u.cells.size = z := by simpa using hul
    simp [Instr.storeAt, Instr.sureAddr, storeVar, run_size hz, this, k1]
  · exact (store_lies k3 g2 (by omega) (fun i hi hi' => g3 i hi hi') g4 hxr (fun v u h => ok_row hrel hs hη k2 v u h)).mono hk
theorem clr_sound (hrel : Rel w0 U E nt st a w η) {t e : TypeId} {z z' s off ln : Nat} {zero cs : List V} {ts : Array TypeId} {ty : TypeId} {ua : Value} (hu : P.underlying t = some (.slice e)) (hz : szOf P e = some z) (h0 : zeroOf P e = some zero) (hzl : zero.length = z)
    (hts : ts[0]? = some t) (ha : RepD w (Ok U st.objs η w) η (.own s z' off ln) ua) (hs : look st.objs s = some cs) (he : z' = z) (hle : off + ln * z ≤ cs.length) (h1 : zero.all V.one = true) :
    ∃ w', (Builtin.clear_ ts ty #[ua]).run P w = .ok (.tuple #[]) w' ∧ Rel w0 U E nt ⟨st.ρ, upd st.objs s (setL cs off (zerosL zero ln))⟩ a w' η := by
  have same : ln = 0 → Rel w0 U E nt ⟨st.ρ, upd st.objs s (setL cs off (zerosL zero ln))⟩ a w η := fun hl => by
    subst hl
    have e : setL cs off (zerosL zero 0) = cs := rfl
    rw [e]
    have hlk : ∀ s', look (upd st.objs s cs) s' = look st.objs s' := fun s' => by
      rw [look_upd]
      split
      · rename_i e; subst e; rw [hs]; rfl
      · rfl
    have hok : ∀ b', Ok U st.objs η w b' → Ok U (upd st.objs s cs) η w b' := fun b' hb' => ⟨hb'.1, hb'.2.1, fun s' cs' o' h1 h2 => hb'.2.2 s' cs' o' (by rw [← hlk]; exact h1) h2⟩
    have hv : ∀ v u, RepV w (Ok U st.objs η w) v u → RepV w (Ok U (upd st.objs s cs) η w) v u := fun v u hr => hr.mono fun b' hb' => ⟨hok b' hb', rfl⟩
    refine ⟨hrel.size, hrel.defers, hrel.keeps, hrel.uold, fun t d ht => ⟨(hrel.slots t d ht).1, (hrel.slots t d ht).2.change hv (fun _ => Nat.le_refl _)⟩, fun s' cs' hs' => (hrel.objs s' cs' (by rw [← hlk]; exact hs')).change rfl hv (fun _ _ _ => rfl), fun s' cs' b o g1 g2 => hrel.lies s' cs' b o (by rw [← hlk]; exact g1) g2, fun s1 s2 c1 c2 b o o' g1 g2 g3 g4 => hrel.inj s1 s2 c1 c2 b o o' (by rw [← hlk]; exact g1) (by rw [← hlk]; exact g2) g3 g4⟩
  cases ha with
  | own0 _ _ _ p =>
    refine ⟨w, ?_, same rfl⟩
    cases p <;> simp [Builtin.clear_, hts, run_underlying hu]
  | own _ _ _ _ b o cap hη hl hc =>
    by_cases hln : ln = 0
    · refine ⟨w, ?_, same hln⟩
      subst hln
      simp [Builtin.clear_, hts, run_underlying hu]
    obtain ⟨m, rfl⟩ : ∃ m, ln = m + 1 := ⟨ln - 1, by omega⟩
    have ho := hrel.objs s cs hs
    unfold RepO at ho
    rw [hη] at ho
    obtain ⟨c, e', fr, g1, g2, g3, g4⟩ := ho
    obtain ⟨zv, k1, k2⟩ := zeroOf_run (w := w) (ok := Ok U st.objs η w) h0
    have hzv : zv.cells.size = z := by have := k2.1; simp at this; omega
    have hzr := zeros_rep k2 (m + 1)
    rw [hzv] at hzr
    have hzc : (Builtin.zeroCells zv.cells (m + 1)).toList = ((Array.range ((m + 1) * z)).map (zv.cells[· % z]!)).toList := by simp [Builtin.zeroCells, hzv]
    have hul : (Builtin.zeroCells zv.cells (m + 1)).toList.length = (m + 1) * z := by rw [hzc]; simp
    obtain ⟨w', j1, j2, j3⟩ := run_storeCells (P := P) b (Builtin.zeroCells zv.cells (m + 1)).toList (o + off) 0 c e' fr w g1 (by rw [hul]; omega) (fun j hj hj' => g3 j (by omega) hj') (fun v hv => by
      rw [hzc] at hv
      obtain ⟨i, hi⟩ := List.mem_iff_getElem?.1 hv
      have hlt : i < (zerosL zero (m + 1)).length := by rw [← hzr.1]; exact (List.getElem?_eq_some_iff.1 hi).1
      obtain ⟨u', hu', hr⟩ := hzr.2 i _ (List.getElem?_eq_getElem hlt)
      rw [hi] at hu'
      cases hu'
      refine one_rep hr (List.all_eq_true.1 h1 _ ?_)
      exact List.mem_of_getElem? (zerosL_get zero _ _ _ (List.getElem?_eq_getElem hlt)))
    rw [Nat.add_zero] at j3
    refine ⟨w', ?_, hrel.store hs hη j2 fun ok' hk => ?_⟩
    · simp [Builtin.clear_, hts, run_underlying hu, k1, j1]
    · rw [hzc] at j3
      exact (store_lies j3 g2 (by rw [zerosL_length, hzl]; exact hle) (fun i hi hi' => g3 i hi hi') g4 hzr (fun v u h => ok_row hrel hs hη j2 v u h)).mono hk
theorem mk_sound (hrel : Rel w0 U E nt st a w η) {t e : TypeId} {z bytes s : Nat} {zero : List V} {kl kc : IntKind} {l c : Int} (hu : P.underlying t = some (.slice e)) (hz : szOf P e = some z) (hb : bytesOf' P e = some bytes) (h0 : zeroOf P e = some zero)
    (hzl : zero.length = z) (hz0 : z ≠ 0) (b0 : 0 ≤ l) (b1 : l ≤ c) (b2 : c * bytes ≤ 2 ^ 48) (b3 : c < 2 ^ 63) (hn : s < nt) :
    ∃ u' w' η', (Instr.makeSlice t (.int kl l) (.int kc c)).run P w = .ok u' w' ∧ Rel w0 U E nt ((st.fresh s (zerosL zero l.toNat)).put (some s) (.own s z 0 l.toNat)) (a.put (some s) u') w' η' := by
  obtain ⟨zv, h1, h2⟩ := zeroOf_run (w := w) (ok := Ok U st.objs η w) h0
  simp only [bytesOf', Option.map_eq_some_iff] at hb
  obtain ⟨i, hi, rfl⟩ := hb
  have hzv : zv.cells.size = z := by have := h2.1; simp at this; omega
  have wr : ∀ n : Int, 0 ≤ n → n < 2 ^ 63 → IntKind.i64.wrap n = n := fun n h1 h2 => IntWalk.i64_in n (by omega)
  have hb2 : (i.bytes : Int) * c ≤ 2 ^ 48 := by rw [Int.mul_comm]; exact b2
  have hrun : (Instr.makeSlice t (.int kl l) (.int kc c)).run P w = .ok (.slice (some ⟨w.heap.size, 0, none⟩) l.toNat c.toNat) (w.alloc (.cells ((Array.range (c.toNat * z)).map (zv.cells[· % zv.cells.size]!)) e)) := by
    have e1 : ¬ (c < 0) := by omega
    have e2 : ¬ (l < 0) := by omega
    have e3 : ¬ (l > c) := by omega
    have e4 : ¬ (281474976710656 < (i.bytes : Int) * c) := by omega
    have e5 : ∀ f : Nat → Value, (Array.range 0).map f = #[] := fun f => by simp [Array.range]
    by_cases hcz : c.toNat * z = 0
    · have hc0 : c.toNat = 0 := by
        rcases Nat.mul_eq_zero.1 hcz with h | h
        · exact h
        · exact absurd h hz0
      simp [Instr.makeSlice, run_underlying hu, asInt, asIntOf, run_info hi, wr l b0 (by omega), wr c (by omega) b3, e1, e2, e3, e4, e5, run_size hz, hc0, newRow_run]
    · have hcz' : ¬ (c.toNat = 0 ∨ z = 0) := by rw [← Nat.mul_eq_zero]; exact hcz
      have hcz1 : ¬ (c.toNat = 0) := fun h => hcz' (.inl h)
      simp [Instr.makeSlice, run_underlying hu, asInt, asIntOf, run_info hi, wr l b0 (by omega), wr c (by omega) b3, e1, e2, e3, e4, run_size hz, hcz, hz0, hcz1, h1, newRow_run]
  have hzr := zeros_rep h2 c.toNat
  rw [hzv] at hzr
  have hb' : Below w.heap.size w (w.alloc (.cells ((Array.range (c.toNat * z)).map (zv.cells[· % zv.cells.size]!)) e)) := (Below.refl _ _).alloc (Nat.le_refl _) _
  have hpre : ∀ (i : Nat) v, (zerosL zero l.toNat)[i]? = some v → (zerosL zero c.toNat)[i]? = some v := fun i v hi => by
    have hlt := (List.getElem?_eq_some_iff.1 hi).1
    rw [zerosL_length] at hlt
    have hle : l.toNat * zero.length ≤ c.toNat * zero.length := Nat.mul_le_mul_right _ (by omega)
    have h3 := zerosL_get zero _ _ _ hi
    have hlt' : i < (zerosL zero c.toNat).length := by rw [zerosL_length]; omega
    have h4 := List.getElem?_eq_getElem hlt'
    have h5 := zerosL_get zero _ _ _ h4
    rw [h4, ← h3, h5]
  rw [hzv] at hb' hrun
  have hsz : ((Array.range (c.toNat * z)).map (zv.cells[· % z]!)).size = c.toNat * z := by simp
  have hr := hrel.fresh hb' (s := s) (cs := zerosL zero l.toNat) (x := some (w.heap.size, 0)) ⟨Nat.le_refl _, by simp, fun ok' hk => new_lies (fun i v hi => by
    exact hzr.getD i v (hpre i v hi)) (by rw [zerosL_length, hsz, hzl]; exact Nat.mul_le_mul_right _ (by omega)) (fun b hb => hb.1) hk⟩
  refine ⟨_, _, η.set s (some (w.heap.size, 0)), hrun, hr.put (dst := some s) (.own s z 0 l.toNat _ 0 c.toNat Eta.set_same (by omega) ?_) (fun t ht => by cases ht; exact hn)⟩
  have hh : ∀ o : Obj, (w.alloc o).heap[w.heap.size]? = some o := fun o => by show (w.heap.push _)[w.heap.size]? = _; simp
  simp only [rowSize, hh]
  omega
end
end Go.Proofs.Ytdceakejbnolpaa.Sv
