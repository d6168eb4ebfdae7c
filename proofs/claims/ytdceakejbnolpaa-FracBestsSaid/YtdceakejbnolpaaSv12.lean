/- append does in the model what is said of it. No condition. -/
import Derived.Test.YtdceakejbnolpaaSv11
namespace Go.Proofs.Ytdceakejbnolpaa.Sv
open Go Go.RowKit
set_option linter.unusedVariables false
set_option linter.unusedSimpArgs false
theorem growBy_le (n : Nat) : ∀ (r c : Nat), Builtin.growBy n r c ≤ max c (n + (n + 768) / 4)
  | 0, c => by simp [Builtin.growBy]; omega
  | r + 1, c => by
    unfold Builtin.growBy
    split
    · omega
    · have := growBy_le n r (c + (c + 768) / 4)
      omega
theorem nextcap_le {need old : Nat} (h : old < need) : Builtin.nextslicecap need old ≤ 2 * need := by
  unfold Builtin.nextslicecap
  split
  · omega
  · split
    · omega
    · have := growBy_le need 4 old
      omega
section
variable {P : Program} {w w0 w' : World} {U E : Nat → Prop} {nt : Nat} {st : St} {a : Act} {η : Eta} {ok : Nat → Prop}
/-- What lies there, as the model's append reads it, in any world with this memory. -/
def Reads (P : Program) (w : World) (z m : Nat) (u : Value) (us : List Value) : Prop := ∀ w1 : World, w1.heap = w.heap → (Builtin.firstCells z m u).run P w1 = .ok us.toArray w1
theorem reads_nil {z : Nat} {x : Option Addr} {c : Nat} : Reads P w z 0 (.slice x 0 c) [] := fun w1 _ => by
  cases x <;> simp [Builtin.firstCells, loadCells, loadCellsFrom]
theorem reads_lies {z m n c : Nat} {b o : Nat} {ys : List V} (hl : ys.length = m * z) (h : ∀ (i : Nat) v, ys[i]? = some v → ∃ x, w.cell? ⟨b, o + i, none⟩ = some x ∧ RepV w ok v x) :
    ∃ us, Reads P w z m (.slice (some ⟨b, o, none⟩) n c) us ∧ RepL w ok ys us := by
  obtain ⟨us, h1, h2⟩ := lies_list (w := w) (ok := ok) b ys o h
  refine ⟨us, fun w1 hw => ?_, h1⟩
  have := run_loadCells_list (P := P) w1 ⟨b, o, none⟩ us (fun j v hj => by
    have := h2 j v hj
    rw [add_plain] at this ⊢
    simpa [World.cell?, hw] using this)
  rw [h1.1, hl] at this
  simpa [Builtin.firstCells] using this
theorem appArg_reads (hrel : Rel w0 U E nt st a w η) {x : D} {u : Value} {z m : Nat} {ys : List V} (hx : RepD w (Ok U st.objs η w) η x u) (h : appArg st.objs z x = some (m, ys)) :
    ∃ us, Reads P w z m u us ∧ RepL w (Ok U st.objs η w) ys us ∧ (∃ p c, u = .slice p m c) ∧ ys.length = m * z := by
  unfold appArg at h
  split at h
  · split at h <;> cases h
    rename_i hl
    cases hx with | v _ _ hx =>
    cases hx with
    | sl0 t p => exact ⟨[], reads_nil, .nil, ⟨_, _, rfl⟩, hl⟩
    | sl _ _ _ us bl off cap hok hlc ht hc hr =>
      obtain ⟨us', h1, h2⟩ := reads_lies (P := P) (n := m) (c := cap) hl (fun i v hi => ⟨us i, hc i v hi, hr i v hi⟩)
      exact ⟨us', h1, h2, ⟨_, _, rfl⟩, hl⟩
  · rename_i s z' off m'
    simp only [Option.bind_eq_some_iff] at h
    obtain ⟨cs, hcs, h⟩ := h
    split at h <;> cases h
    rename_i hb
    obtain ⟨rfl, hb⟩ := hb
    have hl : ((cs.drop off).take (m * z')).length = m * z' := by simp; omega
    cases hx with
    | own0 => exact ⟨[], reads_nil, by simpa using RepL.nil, ⟨_, _, rfl⟩, hl⟩
    | own _ _ _ _ b o cap hη hlc hc =>
      obtain ⟨us', h1, h2⟩ := reads_lies (P := P) (w := w) (ok := Ok U st.objs η w) (b := b) (o := o + off) (n := m) (c := cap) hl (fun i v hi => by
        rw [List.getElem?_take] at hi
        split at hi
        · exact (hrel.objs s cs hcs).lies hη i v hi
        · cases hi)
      exact ⟨us', h1, h2, ⟨_, _, rfl⟩, hl⟩
  · cases h
theorem run_append_in {t t2 e : TypeId} {ts : Array TypeId} {ty : TypeId} {z m n c : Nat} {b o : Nat} {u : Value} {us : List Value} (h0 : ts[0]? = some t) (h1 : ts[1]? = some t2) (hu : P.underlying t = some (.slice e)) (hu2 : ∃ e2, P.underlying t2 = some (.slice e2)) (hz : szOf P e = some z)
    (hm : ∃ p c', u = .slice p m c') (hr : Reads P w z m u us) (hf : n + m ≤ c) (hs : ∃ w', (storeCells ⟨b, o + n * z, none⟩ us).run P w = .ok () w') :
    ∃ w', (storeCells ⟨b, o + n * z, none⟩ us).run P w = .ok () w' ∧ (Builtin.append_ ts ty #[.slice (some ⟨b, o, none⟩) n c, u]).run P w = .ok (.slice (some ⟨b, o, none⟩) (n + m) c) w' := by
  obtain ⟨w', hs⟩ := hs
  obtain ⟨e2, hu2⟩ := hu2
  obtain ⟨p, c', rfl⟩ := hm
  refine ⟨w', hs, ?_⟩
  simp [Builtin.append_, h0, h1, run_underlying hu, run_underlying hu2, run_size hz, Builtin.lenOf, hf, hr w rfl, add_plain, hs]
theorem run_append_new {t t2 e : TypeId} {ts : Array TypeId} {ty : TypeId} {z m n c by_ : Nat} {x : Option Addr} {u : Value} {us os : List Value} {zero : List V} (h0 : ts[0]? = some t) (h1 : ts[1]? = some t2) (hu : P.underlying t = some (.slice e)) (hu2 : ∃ e2, P.underlying t2 = some (.slice e2)) (hz : szOf P e = some z)
    (hb : bytesOf' P e = some by_) (hzero : zeroOf P e = some zero) (hm : ∃ p c', u = .slice p m c') (hr : Reads P w z m u us) (ho : Reads P w z n (.slice x n c) os) (hf : ¬ n + m ≤ c) (hroom : (n + m) * by_ ≤ 2 ^ 47) (hby : by_ ≠ 0) (hzl : zero.length = z) :
    ∃ (cap : Nat) (rest : Array Value), n + m ≤ cap ∧ rest.size = (cap - (n + m)) * z ∧ (Builtin.append_ ts ty #[.slice x n c, u]).run P w = .ok (.slice (some ⟨w.heap.size, 0, none⟩) (n + m) cap) (w.drew.alloc (.cells (os.toArray ++ us.toArray ++ rest) e)) := by
  obtain ⟨e2, hu2⟩ := hu2
  obtain ⟨p, c', rfl⟩ := hm
  obtain ⟨zv, hz1, hz2⟩ := zeroOf_run (w := w.drew) (ok := fun _ => True) hzero
  have hzs : zv.cells.size = z := by have := hz2.1; simp at this; omega
  simp only [bytesOf', Option.map_eq_some_iff] at hb
  obtain ⟨i, hi, rfl⟩ := hb
  have hnc := nextcap_le (need := n + m) (old := c) (by omega)
  have hcap : ¬ (281474976710656 < Builtin.nextslicecap (n + m) c * i.bytes) := by
    have h2 : Builtin.nextslicecap (n + m) c * i.bytes ≤ (2 * (n + m)) * i.bytes := Nat.mul_le_mul_right _ hnc
    have h3 : (2 * (n + m)) * i.bytes = 2 * ((n + m) * i.bytes) := Nat.mul_assoc _ _ _
    omega
  have hq : (Question.appendCap (n + m) c e).forced = false := rfl
  have hcut : n + m ≤ (Question.appendCap (n + m) c e).cut (w.tape w.drawn (.appendCap (n + m) c e)) := by simp [Question.cut]
  refine ⟨(Question.appendCap (n + m) c e).cut (w.tape w.drawn (.appendCap (n + m) c e)), Builtin.zeroCells zv.cells ((Question.appendCap (n + m) c e).cut (w.tape w.drawn (.appendCap (n + m) c e)) - (n + m)), hcut, ?_, ?_⟩
  · simp [Builtin.zeroCells, hzs]
  · have hzr : (Builtin.firstCells z n (.slice x n c)).run P w.drew = .ok os.toArray w.drew := ho w.drew rfl
    have hzr2 : (Builtin.firstCells z m (.slice p m c')).run P w.drew = .ok us.toArray w.drew := hr w.drew rfl
    have hi2 : (typeInfo e).run P w = .ok i w := run_info hi w
    have hsz : ∀ w1 : World, (sizeOf e).run P w1 = .ok z w1 := fun w1 => run_size hz w1
    have hask : ∀ k, (askRoom k).run P w.drew = .ok () w.drew := fun k => run_askRoom P w.drew k
    have hi3 : (typeInfo e).run P w.drew = .ok i w.drew := run_info hi w.drew
    simp [Builtin.append_, h0, h1, run_underlying hu, run_underlying hu2, hsz, Builtin.lenOf, hf, hi2, hby, hcap, hq, hzr, hzr2, hask, hi3, hz1, newRow_run]
    congr 2
    apply Array.ext'
    simp
theorem below_drew_alloc (w : World) (o : Obj) : Below w.heap.size w (w.drew.alloc o) := ((Below.refl _ _).drew).alloc (by simp) _
theorem app_own_sound (hrel : Rel w0 U E nt st a w η) {t t2 : TypeId} {ts : Array TypeId} {ty : TypeId} {z by_ s0 off n m s tt : Nat} {x : D} {u1 u2 : Value} {cs ys : List V} (hc : cApp P t t2 = some (.app z by_)) (h0 : ts[0]? = some t) (h1 : ts[1]? = some t2)
    (hx1 : RepD w (Ok U st.objs η w) η (.own s0 z off n) u1) (hx2 : RepD w (Ok U st.objs η w) η x u2) (hcs : look st.objs s0 = some cs) (hys : appArg st.objs z x = some (m, ys)) (hend : off + n * z = cs.length)
    (hroom : (n + m) * by_ ≤ 2 ^ 47) (hone : ys.all V.one = true) (hn : tt < nt) (hby : by_ ≠ 0) :
    ∃ u' w' η', (Builtin.append_ ts ty #[u1, u2]).run P w = .ok u' w' ∧ Rel w0 U E nt ((st.move s0 s (cs.drop off ++ ys)).put (some tt) (.own s z 0 (n + m))) (a.put (some tt) u') w' η' := by
  unfold cApp at hc
  split at hc
  case h_2 => cases hc
  rename_i e e2 hu hu2
  split at hc
  case h_2 => cases hc
  rename_i z' b' zero hz hb hzero
  split at hc <;> cases hc
  rename_i hzl
  obtain ⟨hzl, hz0⟩ := hzl
  obtain ⟨us, hr, hyr, hm, hyl⟩ := appArg_reads hrel hx2 hys
  have hdl : (cs.drop off).length = n * z := by simp; omega
  have hones : ∀ v ∈ us, v.oneCell' = true := fun v hv => by
    obtain ⟨i, hi⟩ := List.mem_iff_getElem?.1 hv
    have hlt : i < ys.length := by rw [← hyr.1]; exact (List.getElem?_eq_some_iff.1 hi).1
    obtain ⟨u', hu', hr'⟩ := hyr.2 i _ (List.getElem?_eq_getElem hlt)
    rw [hi] at hu'
    cases hu'
    exact one_rep hr' (List.all_eq_true.1 hone _ (List.getElem_mem hlt))
  -- a new block: what it holds
  have grown : ∀ (os : List Value) (c : Nat) (p : Option Addr), u1 = .slice p n c → Reads P w z n (.slice p n c) os → RepL w (Ok U st.objs η w) (cs.drop off) os → ¬ n + m ≤ c →
      ∃ u' w' η', (Builtin.append_ ts ty #[u1, u2]).run P w = .ok u' w' ∧ Rel w0 U E nt ((st.move s0 s (cs.drop off ++ ys)).put (some tt) (.own s z 0 (n + m))) (a.put (some tt) u') w' η' := fun os c p hu1 ho hor hf => by
    subst hu1
    obtain ⟨cap, rest, k1, k2, k3⟩ := run_append_new (P := P) (ty := ty) h0 h1 hu ⟨e2, hu2⟩ hz hb hzero hm hr ho hf hroom hby hzl
    have hbel := below_drew_alloc w (.cells (os.toArray ++ us.toArray ++ rest) e)
    have hall := hor.append hyr
    have hlen : (cs.drop off ++ ys).length = (n + m) * z := by rw [List.length_append, hdl, hyl, Nat.add_mul]
    have hsz : (os.toArray ++ us.toArray ++ rest).size = (n + m) * z + (cap - (n + m)) * z := by
      have := hall.1
      rw [hlen] at this
      simp only [List.length_append] at this
      simp [k2]; omega
    have hsz' : (os.toArray ++ us.toArray ++ rest).size = cap * z := by
      rw [hsz, ← Nat.add_mul]; congr 1; omega
    have hd := hrel.drop s0
    have hok0 : ∀ b', Ok U st.objs η w b' → Ok U (rid st.objs s0) η w b' := fun b' hb' => ⟨hb'.1, hb'.2.1, fun s' cs' o' h1 h2 => by
      rw [look_rid] at h1
      split at h1
      · cases h1
      · exact hb'.2.2 _ _ _ h1 h2⟩
    have hr2 := hd.fresh hbel (s := s) (cs := cs.drop off ++ ys) (x := some (w.heap.size, 0)) ⟨Nat.le_refl _, by simp, fun ok' hk => by
      have hll := new_lies (w := w.drew) (e := e) (cs := cs.drop off ++ ys) (cu := os.toArray ++ us.toArray ++ rest) (ok := Ok U st.objs η w) (fun i v hi => by
        obtain ⟨u, hu, hv⟩ := hall.2 i v hi
        have hlt : i < (os ++ us).length := (List.getElem?_eq_some_iff.1 hu).1
        have : (os.toArray ++ us.toArray ++ rest).getD i undef = u := by
          have e1 : os.toArray ++ us.toArray ++ rest = (os ++ us ++ rest.toList).toArray := by apply Array.ext'; simp
          rw [e1, Array.getD_eq_getD_getElem?, List.getElem?_toArray, List.getElem?_append_left hlt, hu]
          rfl
        rw [this]
        exact RepV.mono (w := w) (w' := w.drew) (ok := Ok U st.objs η w) (ok' := Ok U st.objs η w) (fun b hb => ⟨hb, rfl⟩) hv) (by rw [hsz, hlen]; omega) (fun b hb => hb.1) (ok' := ok') (fun b hb => hk b (hok0 b hb))
      exact hll⟩
    refine ⟨_, _, η.set s (some (w.heap.size, 0)), k3, hr2.put (dst := some tt) (.own s z 0 (n + m) _ 0 cap Eta.set_same k1 ?_) (fun t ht => by cases ht; exact hn)⟩
    have hh : (w.drew.alloc (.cells (os.toArray ++ us.toArray ++ rest) e)).heap[w.heap.size]? = some (.cells (os.toArray ++ us.toArray ++ rest) e) := by show (w.heap.push _)[w.heap.size]? = _; simp
    simp only [rowSize, hh]
    omega
  cases hx1 with
  | own0 _ _ _ p =>
    by_cases hm0 : m = 0
    · subst hm0
      have hys0 : ys = [] := by have : ys.length = 0 := by omega
                                exact List.eq_nil_of_length_eq_zero this
      subst hys0
      have hd0 : cs.drop off = [] := List.eq_nil_of_length_eq_zero (by omega)
      obtain rfl : us = [] := by have := hyr.1; simpa using this
      have hd := hrel.drop s0
      have hr2 := hd.fresh (Below.refl _ w) (s := s) (cs := []) (x := none) rfl
      obtain ⟨p2, c2, rfl⟩ := hm
      have hrun : (Builtin.append_ ts ty #[.slice p 0 0, .slice p2 0 c2]).run P w = .ok (.slice p 0 0) w := by
        cases p <;> simp [Builtin.append_, h0, h1, run_underlying hu, run_underlying hu2, run_size hz, Builtin.lenOf, hr w rfl, storeCells]
      refine ⟨_, _, η.set s none, hrun, ?_⟩
      rw [hd0]
      exact hr2.put (dst := some tt) (.own0 s z 0 p) (fun t ht => by cases ht; exact hn)
    · refine grown [] 0 p rfl reads_nil ?_ (by omega)
      rw [List.eq_nil_of_length_eq_zero (show (cs.drop off).length = 0 by omega)]
      exact .nil
  | own _ _ _ _ b o cap hη hl hcap =>
    have hob := hrel.objs s0 cs hcs
    have hlies0 := fun i v hi => hob.lies (off := off) hη i v hi
    by_cases hf : n + m ≤ cap
    · unfold RepO at hob
      rw [hη] at hob
      obtain ⟨c, e', fr, g1, g2, g3, g4⟩ := hob
      have hrow : rowSize w b = c.size := by simp [rowSize, g1]
      have hfit : o + off + n * z + us.length ≤ c.size := by
        rw [hyr.1, hyl]
        have : n * z + m * z ≤ cap * z := by rw [← Nat.add_mul]; exact Nat.mul_le_mul_right _ hf
        omega
      obtain ⟨w', k1, k2, k3⟩ := run_storeCells (P := P) b us (o + off + n * z) 0 c e' fr w g1 (by omega) (fun j hj hj' => g3 j (by omega) hj') hones
      obtain ⟨w'', k1', k4⟩ := run_append_in (P := P) (ty := ty) h0 h1 hu ⟨e2, hu2⟩ hz hm hr hf ⟨w', k1⟩
      rw [k1] at k1'
      cases k1'
      rw [Nat.add_zero] at k3
      have hr2 := hrel.move (s := s) (o := o + off) (cs := cs.drop off ++ ys) hcs hη k2 fun ok' hk => by
        refine (grow_lies (w := w) (c := c) (us := us) (e := e') (fr := fr) (ok := Ok U st.objs η w) (by rw [hdl]; exact k3) (by rw [hdl, ← hyr.1]; exact hfit) (fun i hi hi' => g3 i (by omega) hi') (fun i v hi => ?_) hyr (fun v u h => ok_row hrel hcs hη k2 v u h)).mono hk
        rw [List.getElem?_drop] at hi
        have := g4 _ v hi
        rwa [show o + (off + i) = o + off + i by omega] at this
      refine ⟨_, _, η.set s (some (b, o + off)), k4, hr2.put (dst := some tt) ?_ (fun t ht => by cases ht; exact hn)⟩
      have := RepD.own (w := w') (ok := Ok U (st.move s0 s (cs.drop off ++ ys)).objs (η.set s (some (b, o + off))) w') (η := η.set s (some (b, o + off))) s z 0 (n + m) b (o + off) cap Eta.set_same hf (by rw [k2.row]; omega)
      simpa using this
    · obtain ⟨os, h2, h3⟩ := reads_lies (P := P) (w := w) (ok := Ok U st.objs η w) (b := b) (o := o + off) (n := n) (c := cap) hdl hlies0
      exact grown os cap _ rfl h2 h3 hf
end
end Go.Proofs.Ytdceakejbnolpaa.Sv
