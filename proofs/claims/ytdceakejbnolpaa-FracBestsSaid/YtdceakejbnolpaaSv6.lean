/- Values that are put together of parts, and their parts. No condition. -/
import Derived.Test.YtdceakejbnolpaaSv5
import Derived.Great.BuildSlice
namespace Go.Proofs.Ytdceakejbnolpaa.Sv
open Go Go.RowKit
set_option linter.unusedVariables false
set_option linter.unusedSimpArgs false

def setL : List V → Nat → List V → List V
  | cs, _, [] => cs
  | cs, o, v :: vs => setL (cs.set o v) (o + 1) vs
theorem setL_length : ∀ (vs cs : List V) (o : Nat), (setL cs o vs).length = cs.length
  | [], cs, o => rfl
  | v :: vs, cs, o => by simp [setL, setL_length vs]
/-- Parts laid over cells: where, how many, what. -/
def fillV : List ((Nat × Nat) × V) → List V → Option (List V)
  | [], cells => some cells
  | ((off, z), v) :: r, cells => if v.cells.length = z ∧ off + z ≤ cells.length then fillV r (setL cells off v.cells) else none
section
variable {P : Program} {w : World} {ok : Nat → Prop}
theorem cells_rep {v : V} {u : Value} (h : RepV w ok v u) : RepL w ok v.cells u.cells.toList := by
  have one : ∀ {v : V} {u : Value}, v.cells = [v] → u.cells = #[u] → RepV w ok v u → RepL w ok v.cells u.cells.toList := fun h1 h2 h => by
    rw [h1, h2]; exact .cons h .nil
  cases h with
  | agg xs us hl hr => exact RepL.of_array hl hr
  | b x => exact one rfl rfl (.b x)
  | n k x => exact one rfl rfl (.n k x)
  | s x => exact one rfl rfl (.s x)
  | nilp => exact one rfl rfl .nilp
  | ip cells us bl off hok hc hr => exact one rfl rfl (.ip cells us bl off hok hc hr)
  | sl0 t a => exact one rfl rfl (.sl0 t a)
  | sl len cells t us bl off cap hok hl ht hc hr => exact one rfl rfl (.sl len cells t us bl off cap hok hl ht hc hr)
  | tup xs us hl hr => exact one rfl rfl (.tup xs us hl hr)
  | clo fn first cap fs cs hl hl' hr hr' => exact one rfl rfl (.clo fn first cap fs cs hl hl' hr hr')
  | nilf => exact one rfl rfl .nilf
  | ifc t v u h => exact one rfl rfl (.ifc t v u h)
  | nili => exact one rfl rfl .nili
theorem RepL.set {xs : List V} {us : List Value} (h : RepL w ok xs us) {i : Nat} {v : V} {u : Value} (hv : RepV w ok v u) : RepL w ok (xs.set i v) (us.set i u) := by
  refine ⟨by simp [h.1], fun j x hj => ?_⟩
  rw [List.getElem?_set] at hj ⊢
  split at hj
  · rename_i hij
    split at hj <;> cases hj
    rename_i hlt
    exact ⟨u, by subst hij; simp [h.1, hlt], hv⟩
  · rename_i hij
    rw [if_neg hij]
    exact h.2 j x hj
theorem foldl_setL (off : Nat) : ∀ (vs : List V) (us : List Value) (cs : List V) (cu : Array Value) (j : Nat), RepL w ok vs us → RepL w ok cs cu.toList →
    RepL w ok (setL cs (off + j) vs) ((us.zipIdx j).foldl (fun cs (c, j) => cs.setIfInBounds (off + j) c) cu).toList
  | [], us, cs, cu, j, hv, hc => by
    obtain rfl : us = [] := by have := hv.1; simpa using this
    exact hc
  | v :: vs, us, cs, cu, j, hv, hc => by
    obtain ⟨u, us', rfl, h1, h2⟩ := hv.head
    simp only [List.zipIdx_cons, List.foldl_cons, setL]
    have := foldl_setL off vs us' (cs.set (off + j) v) (cu.setIfInBounds (off + j) u) (j + 1) h2 (by simpa using hc.set h1)
    rwa [show off + j + 1 = off + (j + 1) by omega]
/-- Parts one by one: where each goes. -/
def RepP (w : World) (ok : Nat → Prop) (place : Nat → Option (Nat × Nat)) : List ((Nat × Nat) × V) → List (Nat × Value) → Prop
  | [], [] => True
  | (p, v) :: r, (i, u) :: r' => place i = some p ∧ RepV w ok v u ∧ RepP w ok place r r'
  | _, _ => False
theorem fill_rep {place : Nat → Option (Nat × Nat)} : ∀ (ps : List ((Nat × Nat) × V)) (qs : List (Nat × Value)) (cs cs' : List V) (cu : Array Value), RepP w ok place ps qs → RepL w ok cs cu.toList → fillV ps cs = some cs' →
    ∃ cu', Instr.fill place cu qs = some cu' ∧ RepL w ok cs' cu'.toList
  | [], [], cs, cs', cu, _, hc, h => by cases h; exact ⟨cu, rfl, hc⟩
  | ((off, z), v) :: r, (i, u) :: r', cs, cs', cu, hp, hc, h => by
    obtain ⟨h1, h2, h3⟩ := hp
    unfold fillV at h
    split at h
    · rename_i hb
      have hcr := cells_rep h2
      have hs : u.cells.size = z := by have := hcr.1; simp at this; omega
      have hcs : cu.size = cs.length := by have := hc.1; simpa using this
      unfold Instr.fill
      simp only [h1]
      rw [if_neg (by simp only [ne_eq, hs, not_true_eq_false, decide_false, Bool.false_or, decide_eq_true_eq]; simp; omega)]
      refine fill_rep r r' _ cs' _ h3 ?_ h
      have := foldl_setL off v.cells u.cells.toList cs cu 0 hcr hc
      rw [← Array.foldl_toList, Array.toList_zipIdx]
      simpa using this
    · cases h
theorem RepL.of_cells {c : Array Value} {cs : List V} (h : cVals c.toList = some cs) : RepL w ok cs c.toList := cVals_rep h
/-- The zero value's cells. -/
def zeroOf (P : Program) (t : TypeId) : Option (List V) := (P.info? t).bind fun i => i.zero.bind fun z => cVals z.cells.toList
def pairUp : List (Nat × Nat) → List V → Option (List ((Nat × Nat) × V))
  | [], [] => some []
  | p :: ps, v :: vs => (pairUp ps vs).map ((p, v) :: ·)
  | _, _ => none
def buildV (zero : List V) (ps : List (Nat × Nat)) (vs : List V) : Option V := (pairUp ps vs).bind fun q => (fillV q zero).map .agg
/-- Where the parts of a literal go. -/
def placeOf (P : Program) (t : TypeId) (i : Nat) : Option (Nat × Nat) :=
  match P.underlying t with
  | some (.array _ e) => (szOf P e).map fun z => (i * z, z)
  | some (.struct fs) => (fs.toList.mapM (fun f => (P.info? f.type).map fun i => (f.offset, i.size))).bind fun ps => ps[i]?
  | _ => none
def allSome {α : Type} : List (Option α) → Option (List α)
  | [] => some []
  | some x :: l => (allSome l).map (x :: ·)
  | none :: _ => none
theorem pairUp_rep {place : Nat → Option (Nat × Nat)} : ∀ (is : List Nat) (ps : List (Nat × Nat)) (vs : List V) (us : List Value) (q : List ((Nat × Nat) × V)),
    allSome (is.map place) = some ps → RepL w ok vs us → pairUp ps vs = some q → RepP w ok place q (is.zip us)
  | [], ps, vs, us, q, h1, h2, h3 => by
    cases h1
    cases vs with
    | nil => cases h3; simp [RepP]
    | cons v vs => cases h3
  | i :: is, ps, vs, us, q, h1, h2, h3 => by
    simp only [List.map_cons] at h1
    cases hp : place i with
    | none => simp [hp, allSome] at h1
    | some p =>
      simp only [hp, allSome, Option.map_eq_some_iff] at h1
      obtain ⟨ps', h1, rfl⟩ := h1
      cases vs with
      | nil => cases h3
      | cons v vs =>
        obtain ⟨u, us', rfl, hu, hus⟩ := h2.head
        simp only [pairUp, Option.map_eq_some_iff] at h3
        obtain ⟨q', h3, rfl⟩ := h3
        exact ⟨hp, hu, pairUp_rep is ps' vs us' q' h1 hus h3⟩
theorem buildV_sound {t : TypeId} {is : List Nat} {ps : List (Nat × Nat)} {zero : List V} {vs : List V} {us : List Value} {r : V} (hz : zeroOf P t = some zero)
    (hp : allSome (is.map (placeOf P t)) = some ps) (hv : RepL w ok vs us) (h : buildV zero ps vs = some r) (hne : ∃ d, P.underlying t = some d ∧ ((∃ n e z, d = .array n e ∧ szOf P e = some z) ∨ ∃ fs x, d = .struct fs ∧ fs.toList.mapM (fun f => (P.info? f.type).map fun i => (f.offset, i.size)) = some x)) :
    ∃ z, (Instr.build t (is.zip us).toArray).run P w = .ok z w ∧ RepV w ok r z := by
  unfold buildV at h
  simp only [Option.bind_eq_some_iff, Option.map_eq_some_iff] at h
  obtain ⟨q, hq, cs', hf, rfl⟩ := h
  unfold zeroOf at hz
  simp only [Option.bind_eq_some_iff] at hz
  obtain ⟨it, hit, z, hzz, hcz⟩ := hz
  have hrp := pairUp_rep (w := w) (ok := ok) is ps vs us q hp hv hq
  obtain ⟨cu', h1, h2⟩ := fill_rep q _ zero cs' z.cells hrp (RepL.of_cells hcz) hf
  obtain ⟨d, hu, hd⟩ := hne
  refine ⟨.agg cu', run_build w t _ cu' ?_, ?_⟩
  · unfold Program.built
    rcases hd with ⟨n, e, ze, rfl, hze⟩ | ⟨fs, x, rfl, hx⟩
    · simp only [szOf, Option.map_eq_some_iff] at hze
      obtain ⟨ie, hie, rfl⟩ := hze
      simp only [hit, hu, hzz, hie]
      rw [← h1]
      congr 1
      funext i
      simp [placeOf, hu, szOf, hie]
    · simp only [hit, hu, hzz, hx]
      rw [← h1]
      congr 1
      funext i
      simp [placeOf, hu, hx]
  · have := h2.agg
    simpa using this

/-! ### A slice literal, by itself -/
def zerosL (zero : List V) : Nat → List V
  | 0 => []
  | n + 1 => zero ++ zerosL zero n
def bslV (n : Nat) (zero : List V) (ps : List (Nat × Nat)) (vs : List V) : Option V :=
  (pairUp ps vs).bind fun q => (fillV q (zerosL zero n)).map fun cs => .sl n cs true
def elemPlace (z i : Nat) : Option (Nat × Nat) := some (i * z, z)
theorem zerosL_length (zero : List V) (n : Nat) : (zerosL zero n).length = n * zero.length := by
  induction n with
  | zero => simp [zerosL]
  | succ n ih => simp [zerosL, ih, Nat.succ_mul, Nat.add_comm]
theorem zerosL_get (zero : List V) : ∀ (n i : Nat) (v : V), (zerosL zero n)[i]? = some v → zero[i % zero.length]? = some v
  | 0, i, v, h => by simp [zerosL] at h
  | n + 1, i, v, h => by
    simp only [zerosL] at h
    rw [List.getElem?_append] at h
    split at h
    · rename_i hi; rwa [Nat.mod_eq_of_lt hi]
    · rename_i hi
      have := zerosL_get zero n _ v h
      rwa [← Nat.mod_eq_sub_mod (by omega)] at this
theorem zeros_rep {zero : List V} {zu : Array Value} (h : RepL w ok zero zu.toList) (n : Nat) : RepL w ok (zerosL zero n) ((Array.range (n * zu.size)).map (zu[· % zu.size]!)).toList := by
  have hs : zu.size = zero.length := by have := h.1; simpa using this
  refine ⟨by simp [zerosL_length, hs], fun i v hv => ?_⟩
  have hlt := (List.getElem?_eq_some_iff.1 hv).1
  rw [zerosL_length] at hlt
  obtain ⟨u, hu, hr⟩ := h.2 _ _ (zerosL_get zero n i v hv)
  have hz : 0 < zero.length := by
    rcases Nat.eq_zero_or_pos zero.length with h0 | h0
    · rw [h0] at hlt; omega
    · exact h0
  have hm : i % zu.size < zu.size := Nat.mod_lt _ (by omega)
  refine ⟨u, ?_, hr⟩
  rw [← hs] at hu
  have hu' : zu[i % zu.size]? = some u := by simpa using hu
  have e1 : i < n * zu.size := by rw [hs]; exact hlt
  simp only [Array.toList_map, List.getElem?_map]
  have : (Array.range (n * zu.size)).toList[i]? = some i := by simp [e1]
  rw [this]
  simp [getElem!_def, hu']
theorem newRow_rep {cs : List V} {cu : Array Value} {e : TypeId} {n : Nat} {t : Bool} (h : RepL w ok cs cu.toList) {ok' : Nat → Prop} (hk : ∀ b, ok b → ok' b) (hlt : ∀ b, ok b → b < w.heap.size) (hn : ok' w.heap.size) :
    RepV (w.alloc (.cells cu e)) ok' (.sl n cs t) (.slice (some ⟨w.heap.size, 0, none⟩) n n) := by
  have hm := RepL.mono (w' := w.alloc (.cells cu e)) (ok' := ok') (fun b hb => ⟨hk b hb, Below.heap_alloc _ _ _ (hlt b hb)⟩) h
  have hs : cu.size = cs.length := by have := h.1; simpa using this
  refine .sl _ _ _ (fun i => cu.getD i undef) _ 0 n hn (Nat.le_refl _) (fun _ => rfl) (fun i v hi => ?_) (fun i v hi => ?_)
  · have := (List.getElem?_eq_some_iff.1 hi).1
    have hlt : i < cu.size := by omega
    simp [Array.getElem?_eq_getElem hlt, Array.getD, hlt]
  · obtain ⟨u, hu, hr⟩ := hm.2 i v hi
    have : cu.getD i undef = u := by simp at hu; simp [hu]
    rw [this]; exact hr
theorem bslV_sound {t e : TypeId} {n z : Nat} {is : List Nat} {ps : List (Nat × Nat)} {zero vs : List V} {us : List Value} {r : V} (hu : P.underlying t = some (.slice e)) (hz : zeroOf P e = some zero) (hsz : szOf P e = some z) (hzl : zero.length = z)
    (hp : allSome (is.map (elemPlace z)) = some ps) (hsm : n * z ≤ 2 ^ 24) (hpos : n * z ≠ 0) (hv : RepL w ok vs us) (h : bslV n zero ps vs = some r) :
    ∃ u w', (Instr.buildSlice t n (is.zip us).toArray).run P w = .ok u w' ∧ Below w.heap.size w w' ∧ ∀ ok' : Nat → Prop, (∀ b, ok b → ok' b) → (∀ b, ok b → b < w.heap.size) → (∀ b, w.heap.size ≤ b → b < w'.heap.size → ok' b) → RepV w' ok' r u := by
  unfold bslV at h
  simp only [Option.bind_eq_some_iff, Option.map_eq_some_iff] at h
  obtain ⟨q, hq, cs', hf, rfl⟩ := h
  unfold zeroOf at hz
  simp only [Option.bind_eq_some_iff] at hz
  obtain ⟨it, hit, zv, hzz, hcz⟩ := hz
  simp only [szOf, hit, Option.map_some, Option.some.injEq] at hsz
  have hcl : zv.cells.size = z := by have := (RepL.of_cells (w := w) (ok := ok) hcz).1; simp at this; omega
  have hrp := pairUp_rep (w := w) (ok := ok) is ps vs us q hp hv hq
  have hzr := zeros_rep (RepL.of_cells (w := w) (ok := ok) hcz) n
  rw [hcl] at hzr
  obtain ⟨cu', h1, h2⟩ := fill_rep q _ _ cs' _ hrp hzr hf
  have hrun := run_buildSlice (P := P) w t e n (is.zip us).toArray cu' it zv hu hit hzz (by rw [hsz]; omega) (by rw [hsz]; exact hpos) (by rw [hsz, hcl]; exact h1)
  refine ⟨_, _, hrun, (Below.refl _ _).alloc (Nat.le_refl _) _, fun ok' hk hlt hn => newRow_rep h2 hk hlt (hn _ (Nat.le_refl _) (by simp))⟩
end
end Go.Proofs.Ytdceakejbnolpaa.Sv
