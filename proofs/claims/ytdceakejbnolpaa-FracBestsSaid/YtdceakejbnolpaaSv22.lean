/- The shapes of arguments, and that what a reading of the arguments meets is held by values of these shapes. No condition. -/
import Derived.Test.YtdceakejbnolpaaSv21
import Derived.DataReads
import Derived.ChangeShapes
import Derived.ChangeOld
namespace Go.Proofs.Ytdceakejbnolpaa.Sv
open Go Go.RowKit
set_option linter.unusedVariables false
set_option linter.unusedSimpArgs false

inductive Ty where
  | b
  | n (k : IntKind)
  | s
  | sl (bytes : Nat) (e : Ty)
  | nil
  | pair (a c : Ty)
  | ar (n : Nat) (e : Ty)
@[reducible] def Ty.T : Ty → Type
  | .b => Bool
  | .n _ => Int
  | .s => ByteArray
  | .sl _ e => List e.T
  | .nil => Unit
  | .pair a c => a.T × c.T
  | .ar _ e => List e.T
def Ty.size : Ty → Nat
  | .b | .n _ | .s | .sl _ _ => 1
  | .nil => 0
  | .pair a c => a.size + c.size
  | .ar m e => m * e.size
def Ty.cells : (t : Ty) → t.T → List V
  | .b, x => [.b x]
  | .n k, x => [.n k x]
  | .s, x => [.s x]
  | .sl _ e, l => [.sl (List.length (α := e.T) l) (List.flatMap (α := e.T) e.cells l) false]
  | .nil, _ => []
  | .pair a c, x => a.cells x.1 ++ c.cells x.2
  | .ar _ e, l => List.flatMap (α := e.T) e.cells l
def Ty.inn : (t : Ty) → t.T → Prop
  | .b, _ => True
  | .n k, (x : Int) => k.min ≤ x ∧ x ≤ k.max
  | .s, x => ByteArray.size x ≤ reachBytes
  | .sl bytes e, (l : List e.T) => l.length * bytes ≤ reachBytes ∧ ∀ x : e.T, x ∈ l → e.inn x
  | .nil, _ => True
  | .pair a c, x => a.inn x.1 ∧ c.inn x.2
  | .ar m e, (l : List e.T) => l.length = m ∧ ∀ x : e.T, x ∈ l → e.inn x
/-- The value by itself: more than one cell, or a struct of any number, as an aggregate. -/
def Ty.val : (t : Ty) → t.T → V
  | .b, x => .b x
  | .n k, x => .n k x
  | .s, x => .s x
  | .sl _ e, l => .sl (List.length (α := e.T) l) (List.flatMap (α := e.T) e.cells l) false
  | .nil, _ => .agg []
  | .pair a c, x => .agg (a.cells x.1 ++ c.cells x.2)
  | .ar _ e, l => .agg (List.flatMap (α := e.T) e.cells l)
def Ty.ofFields (P : Program) (of : TypeId → Option Ty) : Nat → List Field → Option Ty
  | _, [] => some .nil
  | off, f :: r => match of f.type with
    | some A => if f.offset = off ∧ P.cellsOf f.type = A.size then (Ty.ofFields P of (off + A.size) r).map fun C => .pair A C else none
    | none => none
def Ty.of (P : Program) : Nat → TypeId → Option Ty
  | 0, _ => none
  | m + 1, t => match P.underlying t with
    | some .bool => some .b
    | some (.int k) => some (.n k)
    | some .string => some .s
    | some (.slice e) => match Ty.of P m e with
      | some E => if P.cellsOf e = E.size ∧ E.size ≠ 0 then some (.sl (P.bytesOf e) E) else none
      | none => none
    | some (.struct fs) => match Ty.ofFields P (Ty.of P m) 0 fs.toList with
      | some A => if P.cellsOf t = A.size then some A else none
      | none => none
    | some (.array q e) => match Ty.of P m e with
      | some E => if P.cellsOf t = q * E.size ∧ P.cellsOf e = E.size then some (.ar q E) else none
      | none => none
    | _ => none
theorem flatMap_len {α β : Type} {f : α → List β} {z : Nat} : ∀ {l : List α}, (∀ x ∈ l, (f x).length = z) → (l.flatMap f).length = l.length * z
  | [], _ => by simp
  | x :: l, h => by
    rw [List.flatMap_cons, List.length_append, h x (by simp), flatMap_len fun y hy => h y (by simp [hy]), List.length_cons, Nat.succ_mul, Nat.add_comm]
theorem Ty.cells_len : ∀ (t : Ty) (x : t.T), t.inn x → (t.cells x).length = t.size
  | .b, _, _ => rfl
  | .n _, _, _ => rfl
  | .s, _, _ => rfl
  | .sl _ _, _, _ => rfl
  | .nil, _, _ => rfl
  | .pair a c, x, h => by
    simp only [Ty.cells, List.length_append, Ty.size, a.cells_len x.1 h.1, c.cells_len x.2 h.2]
  | .ar m e, l, h => by
    simp only [Ty.cells, Ty.size]
    rw [flatMap_len (α := e.T) fun x hx => e.cells_len x (h.2 x hx), h.1]
section
variable {H : Type} {enc : TypeId × Value → H} {P : Program} {W : World} {sp : Nat → Bool} {held : Bool} {ok : Nat → Prop}
theorem RepL.single {v : V} {u : Value} (h : RepV W ok v u) : RepL W ok [v] [u] := .cons h .nil
/-- What the elements' cells hold, one by one. -/
theorem row_cells {α : Type} {f : α → List V} {z bl : Nat} : ∀ {l : List α} {o : Nat}, (∀ x ∈ l, (f x).length = z) →
    (∀ (i : Nat) x, l[i]? = some x → ∃ ci : List Value, (∀ j, j < z → W.cell? ⟨bl, o + i * z + j, none⟩ = ci[j]?) ∧ RepL W ok (f x) ci) →
    ∀ (i : Nat) v, (l.flatMap f)[i]? = some v → ∃ u, W.cell? ⟨bl, o + i, none⟩ = some u ∧ RepV W ok v u
  | [], o, _, _, i, v, h => by simp at h
  | x :: l, o, hz, hl, i, v, h => by
    rw [List.flatMap_cons] at h
    have hx := hz x (by simp)
    by_cases hi : i < z
    · rw [List.getElem?_append_left (by omega)] at h
      obtain ⟨ci, h1, h2⟩ := hl 0 x rfl
      obtain ⟨u, h3, h4⟩ := h2.2 i v h
      refine ⟨u, ?_, h4⟩
      have := h1 i hi
      rw [Nat.zero_mul, Nat.add_zero] at this
      rw [this, h3]
    · rw [List.getElem?_append_right (by omega), hx] at h
      have := row_cells (o := o + z) (fun y hy => hz y (by simp [hy])) (fun k y hk => by
        obtain ⟨ci, h1, h2⟩ := hl (k + 1) y (by simpa using hk)
        refine ⟨ci, fun j hj => ?_, h2⟩
        rw [← h1 j hj, show o + z + k * z + j = o + (k + 1) * z + j by rw [Nat.succ_mul]; omega]) (i - z) v h
      rwa [show o + z + (i - z) = o + i by omega] at this
theorem mapM_range {β : Type} {f : Nat → Option β} : ∀ {n : Nat} {r : List β}, (List.range n).mapM f = some r → r.length = n ∧ ∀ i, i < n → ∃ y, f i = some y ∧ r[i]? = some y := by
  have main : ∀ {l : List Nat} {r : List β}, l.mapM f = some r → r.length = l.length ∧ ∀ (i : Nat) k, l[i]? = some k → ∃ y, f k = some y ∧ r[i]? = some y := by
    intro l
    induction l with
    | nil => intro r h; simp at h; subst h; simp
    | cons k l ih =>
      intro r h
      rw [List.mapM_cons] at h
      simp only [bind, Option.bind_eq_some_iff, pure, Option.some.injEq] at h
      obtain ⟨y, hy, ys, hys, rfl⟩ := h
      obtain ⟨h1, h2⟩ := ih hys
      refine ⟨by simp [h1], fun i k' hk => ?_⟩
      cases i with
      | zero => simp at hk; subst hk; exact ⟨y, hy, rfl⟩
      | succ i => simpa using h2 i k' (by simpa using hk)
  intro n r h
  obtain ⟨h1, h2⟩ := main h
  refine ⟨by simpa using h1, fun i hi => h2 i i (by simp [hi])⟩
/-- Elements one by one, each with a value of its shape. -/
theorem choose_list {α : Type} {n : Nat} {R : Nat → α → Prop} (h : ∀ i, i < n → ∃ x, R i x) : ∃ l : List α, l.length = n ∧ ∀ (i : Nat) x, l[i]? = some x → R i x := by
  induction n with
  | zero => exact ⟨[], rfl, fun i x h => by simp at h⟩
  | succ n ih =>
    obtain ⟨l, h1, h2⟩ := ih fun i hi => h i (by omega)
    obtain ⟨x, hx⟩ := h n (by omega)
    refine ⟨l ++ [x], by simp [h1], fun i y hy => ?_⟩
    by_cases hi : i < n
    · rw [List.getElem?_append_left (by omega)] at hy; exact h2 i y hy
    · have hlt := (List.getElem?_eq_some_iff.1 hy).1
      simp at hlt
      have : i = n := by omega
      subst this
      rw [List.getElem?_append_right (by omega), h1] at hy
      simp at hy
      subst hy; exact hx
theorem weightsAll_get {e : TypeId} : ∀ {l : List (DataW H)}, (DataW.weightsAll P e l).all (· ≤ reachBytes) = true → ∀ d ∈ l, (d.weights P e).all (· ≤ reachBytes) = true
  | [], _, d, hd => by cases hd
  | x :: l, h, d, hd => by
    simp only [DataW.weightsAll, List.all_append, Bool.and_eq_true] at h
    rcases List.mem_cons.1 hd with rfl | hd
    · exact h.1
    · exact weightsAll_get h.2 d hd
/-- What holds of a type's reading. -/
def Reads1 (enc : TypeId × Value → H) (P : Program) (W : World) (sp : Nat → Bool) (held : Bool) (t : TypeId) (T : Ty) : Prop :=
  ∀ (fuel : Nat) (cs : List Value) (x : DataW H × List MemPlace), DataW.trod enc P W 0 sp held fuel t cs = some x → (x.1.weights P t).all (· ≤ reachBytes) = true → ∃ a : T.T, T.inn a ∧ RepL W (fun b => b < W.heap.size) (T.cells a) cs
theorem fields_ty {of : TypeId → Option Ty} (hof : ∀ t T, of t = some T → Reads1 enc P W sp held t T) {cs : List Value} {fuel : Nat} : ∀ {fs : List Field} {off : Nat} {T : Ty} {xs : List (DataW H × List MemPlace)},
    Ty.ofFields P of off fs = some T → (fs.mapM fun f => DataW.trod enc P W 0 sp held fuel f.type ((cs.drop f.offset).take (P.cellsOf f.type))) = some xs → (DataW.weightsEach P (fs.map (·.type)) (xs.map (·.1))).all (· ≤ reachBytes) = true →
    ∃ a : T.T, T.inn a ∧ RepL W (fun b => b < W.heap.size) (T.cells a) ((cs.drop off).take T.size)
  | [], off, T, xs, hT, h, hw => by
    cases hT
    exact ⟨(), trivial, by simp [Ty.size, Ty.cells, RepL.nil]⟩
  | f :: fs, off, T, xs, hT, h, hw => by
    unfold Ty.ofFields at hT
    split at hT
    · rename_i A hA
      split at hT
      · rename_i hb
        obtain ⟨rfl, hsz⟩ := hb
        simp only [Option.map_eq_some_iff] at hT
        obtain ⟨C, hC, rfl⟩ := hT
        rw [List.mapM_cons] at h
        simp only [bind, Option.bind_eq_some_iff, pure, Option.some.injEq] at h
        obtain ⟨y, hy, ys, hys, rfl⟩ := h
        simp only [List.map_cons, DataW.weightsEach, List.all_append, Bool.and_eq_true] at hw
        obtain ⟨a, ha, hra⟩ := hof _ _ hA _ _ _ hy hw.1
        obtain ⟨c, hc, hrc⟩ := fields_ty hof hC hys hw.2
        refine ⟨(a, c), ⟨ha, hc⟩, ?_⟩
        simp only [Ty.cells, Ty.size]
        rw [hsz] at hra
        have := hra.append hrc
        rw [List.take_add, List.drop_drop]
        rwa [Nat.add_comm] at this ⊢
      · cases hT
    · cases hT
theorem trod_ty (hsp : ∀ b, sp b = true) : ∀ (m : Nat) (t : TypeId) (T : Ty), Ty.of P m t = some T → Reads1 enc P W sp held t T
  | 0, t, T, hT => by cases hT
  | m + 1, t, T, hT => by
    intro fuel cs x h hw
    cases fuel with
    | zero => cases h
    | succ fuel =>
    unfold Ty.of at hT
    unfold DataW.trod at h
    split at hT <;> rename_i ht
    · cases hT
      rw [ht] at h
      split at h <;> first | (rename_i h1 _; cases h1; done) | (rename_i h1; cases h1; done) | skip
      all_goals first | (cases h; exact ⟨_, trivial, .single (.b _)⟩) | cases h
    · cases hT
      rw [ht] at h
      split at h <;> first | (rename_i h1 _; cases h1; done) | (rename_i h1; cases h1; done) | skip
      · rename_i h1
        cases h1
        split at h <;> cases h
        rename_i hb
        obtain ⟨rfl, hb⟩ := hb
        simp only [Lit.wf, Bool.and_eq_true, decide_eq_true_eq] at hb
        exact ⟨_, hb, .single (.n _ _)⟩
      all_goals cases h
    · cases hT
      rw [ht] at h
      split at h <;> first | (rename_i h1 _; cases h1; done) | (rename_i h1; cases h1; done) | skip
      · split at h <;> cases h
        rename_i sb _ _
        simp [DataW.weights] at hw
        exact ⟨sb, by simpa [Ty.inn] using hw, .single (.s _)⟩
      all_goals cases h
    · rename_i e
      split at hT
      case h_2 => cases hT
      rename_i E hE
      split at hT <;> cases hT
      rename_i hsz
      obtain ⟨hsz, hne⟩ := hsz
      rw [ht] at h
      split at h <;> first | (rename_i h1 _; cases h1; done) | (rename_i h1; cases h1; done) | skip
      · rename_i h1
        exact ⟨([] : List E.T), ⟨by simp, fun x hx => by cases hx⟩, .single (.sl0 _ _)⟩
      · rename_i a len cap h1
        cases h1
        simp only at h
        split at h
        case isFalse => cases h
        rename_i hb
        simp only [Option.bind_eq_some_iff, Option.map_eq_some_iff] at h
        obtain ⟨elems, hel, rest, hrest, rfl⟩ := h
        obtain ⟨hlen, hget⟩ := mapM_range hel
        simp only [DataW.weights, ht, List.all_cons, List.all_append, Bool.and_eq_true, decide_eq_true_eq] at hw
        have each : ∀ i, i < len → ∃ x : E.T, E.inn x ∧ ∃ ci, W.cells? 0 (a.add (i * P.cellsOf e)) (P.cellsOf e) = some ci ∧ RepL W (fun b => b < W.heap.size) (E.cells x) ci := fun i hi => by
          obtain ⟨y, hy, hy'⟩ := hget i hi
          simp only [Option.bind_eq_some_iff] at hy
          obtain ⟨ci, hci, hy⟩ := hy
          obtain ⟨x, hx, hr⟩ := trod_ty hsp m e E hE fuel ci y hy (weightsAll_get hw.2.1 _ (List.mem_map.2 ⟨y, List.mem_of_getElem? hy', rfl⟩))
          exact ⟨x, hx, ci, hci, hr⟩
        obtain ⟨l, hl, hR⟩ := choose_list each
        have hin : ∀ x : E.T, x ∈ l → E.inn x := fun x hx => by obtain ⟨i, hi⟩ := List.getElem?_of_mem hx; exact (hR i x hi).1
        refine ⟨(l : List E.T), ⟨?_, hin⟩, ?_⟩
        · have h1 := hw.1
          simp only [List.length_map] at h1
          rw [hl]
          refine Nat.le_trans (Nat.mul_le_mul_right _ ?_) h1
          omega
        · by_cases h0 : cap = 0
          · have : l = [] := List.length_eq_zero_iff.1 (by omega)
            subst this
            obtain rfl : len = 0 := by omega
            subst h0
            exact .single (.sl0 _ _)
          · obtain ⟨c0, hc0⟩ : ∃ c0, W.cells? 0 (a.add (0 * P.cellsOf e)) (P.cellsOf e) = some c0 := by
              by_cases h1 : len = 0
              · rw [if_pos (hsp _)] at hrest
                obtain ⟨y, hy, _⟩ := (mapM_range hrest).2 0 (by omega)
                simp only [Option.bind_eq_some_iff] at hy
                obtain ⟨ci, hci, _⟩ := hy
                rw [h1] at hci
                exact ⟨ci, hci⟩
              · obtain ⟨x, _, ci, hci, _⟩ := each 0 (by omega)
                exact ⟨ci, hci⟩
            have hblk : a.block < W.heap.size := by have := World.cells?_block hc0 (by omega); simpa [Addr.add] using this
            obtain ⟨_, _, hcell⟩ := World.cells?_some hc0
            have hspot : a.spot = none := by
              have h3 := hcell 0 (by omega)
              have hl0 := (World.cells?_some hc0).2.1
              have : c0[0]? = some (c0[0]'(by omega)) := by simp
              rw [this] at h3
              unfold World.cell? at h3
              split at h3
              · split at h3
                · cases h3
                · rename_i hs
                  cases hsp : a.spot with
                  | none => rfl
                  | some q => simp [Addr.add, hsp] at hs
              · cases h3
            obtain ⟨bl, off, spot⟩ := a
            simp only at hspot hblk
            subst hspot
            have hall := row_cells (W := W) (ok := fun b => b < W.heap.size) (f := E.cells) (z := E.size) (bl := bl) (l := l) (o := off) (fun x hx => E.cells_len x (hin x hx)) (fun i x hx => by
              obtain ⟨_, ci, hci, hr⟩ := hR i x hx
              refine ⟨ci, fun j hj => ?_, hr⟩
              have := (World.cells?_some hci).2.2 j (by omega)
              rw [← this, hsz]
              congr 1
              unfold Addr.add
              split <;> split <;> simp_all <;> omega)
            refine .single ?_
            have hll : List.length (α := E.T) l = len := hl
            rw [hll]
            refine .sl len _ false (fun i => (W.cell? ⟨bl, off + i, none⟩).getD undef) bl off cap hblk (by omega) (fun h => by cases h) (fun i v hi => ?_) (fun i v hi => ?_)
            · obtain ⟨u, h3, _⟩ := hall i v hi
              rw [h3]; rfl
            · obtain ⟨u, h3, h4⟩ := hall i v hi
              rw [h3]; exact h4
      all_goals cases h
    · rename_i fs
      split at hT
      case h_2 => cases hT
      rename_i A hA
      split at hT <;> cases hT
      rename_i hsz
      rw [ht] at h
      simp only at h
      split at h
      case isFalse => cases h
      rename_i hl
      simp only [Option.map_eq_some_iff] at h
      obtain ⟨xs, hxs, rfl⟩ := h
      simp only [DataW.weights, ht] at hw
      obtain ⟨a, ha, hr⟩ := fields_ty (fun t T h => trod_ty hsp m t T h) hA hxs hw
      refine ⟨a, ha, ?_⟩
      rwa [List.drop_zero, List.take_of_length_le (by omega)] at hr
    · rename_i q e
      split at hT
      case h_2 => cases hT
      rename_i E hE
      split at hT <;> cases hT
      rename_i hsz
      rw [ht] at h
      simp only at h
      split at h
      case isFalse => cases h
      rename_i hl
      simp only [Option.map_eq_some_iff] at h
      obtain ⟨xs, hxs, rfl⟩ := h
      simp only [DataW.weights, ht] at hw
      obtain ⟨hlen, hget⟩ := mapM_range hxs
      have each : ∀ i, i < q → ∃ x : E.T, E.inn x ∧ RepL W (fun b => b < W.heap.size) (E.cells x) ((cs.drop (i * E.size)).take E.size) := fun i hi => by
        obtain ⟨y, hy, hy'⟩ := hget i hi
        rw [hsz.2] at hy
        exact trod_ty hsp m e E hE fuel _ y hy (weightsAll_get hw _ (List.mem_map.2 ⟨y, List.mem_of_getElem? hy', rfl⟩))
      obtain ⟨l, hl', hR⟩ := choose_list each
      refine ⟨(l : List E.T), ⟨hl', fun x hx => by obtain ⟨i, hi⟩ := List.getElem?_of_mem hx; exact (hR i x hi).1⟩, ?_⟩
      have main : ∀ (l : List E.T) (k : Nat), (∀ (i : Nat) x, l[i]? = some x → RepL W (fun b => b < W.heap.size) (E.cells x) ((cs.drop ((k + i) * E.size)).take E.size)) →
          RepL W (fun b => b < W.heap.size) (l.flatMap E.cells) ((cs.drop (k * E.size)).take (l.length * E.size)) := by
        intro l
        induction l with
        | nil => intro k _; simp [RepL.nil]
        | cons x l ih =>
          intro k h
          have h1 := h 0 x rfl
          have h2 := ih (k + 1) fun i y hi => by
            have := h (i + 1) y (by simpa using hi)
            rwa [show k + (i + 1) = k + 1 + i by omega] at this
          have := h1.append h2
          rw [List.flatMap_cons, List.length_cons, Nat.succ_mul, Nat.add_comm (l.length * E.size), List.take_add, List.drop_drop]
          rwa [Nat.add_zero, Nat.succ_mul] at this
      have := main l 0 fun i x hi => by rw [Nat.zero_add]; exact (hR i x hi).2
      rw [Nat.zero_mul, List.drop_zero, hl', List.take_of_length_le (by omega)] at this
      exact this
    · cases hT
end
end Go.Proofs.Ytdceakejbnolpaa.Sv
