/- A region that draws its order: the order of the text serves for every order. No condition. -/
import Derived.Test.YtdceakejbnolpaaSv17
namespace Go.Proofs.Ytdceakejbnolpaa.Sv
open Go Go.RowKit
set_option linter.unusedVariables false
set_option linter.unusedSimpArgs false

/-- A new object's cells, and what names it. -/
def newOf (t : Nat) : SO → List D → Option (List V × D)
  | .alloc zero, [] => some (zero, .ref t 0)
  | .box, [.v x] => some (x.cells, .ref t 0)
  | .mk z bytes zero, [.v (.n _ l), .v (.n _ c)] => if 0 ≤ l ∧ l ≤ c ∧ c * bytes ≤ 2 ^ 48 ∧ c < 2 ^ 63 then some (zerosL zero l.toNat, .own t z 0 l.toNat) else none
  | _, _ => none
inductive Out where
  | val (d : D)
  | new (t : Nat) (cs : List V) (d : D)
  | wr (k off : Nat) (xs : List V)
def wrO (objs : List (Nat × List V)) (k off : Nat) (xs : List V) : List (Nat × List V) := match look objs k with
  | some cs => upd objs k (setL cs off xs)
  | none => objs
def Out.app (dst : Option Nat) (st : St) : Out → St
  | .val d => st.put dst d
  | .new t cs d => (st.fresh t cs).put (some t) d
  | .wr k off xs => ⟨st.ρ, wrO st.objs k off xs⟩
def WantedG (s : SOp) (st : St) : Prop := s.guard = none ∨ ∃ g want, s.guard = some (g, want) ∧ look st.ρ g = some (.v (.b want))
inductive GOut (P : Program) (s : SOp) (st : St) : Out → Prop
  | skip (g : Nat) (want : Bool) (hg : s.guard = some (g, want)) (h : isOff want (look st.ρ g) = true) : GOut P s st (.val (.v (.tup [])))
  | rd (ds : List D) (d : D) (hw : WantedG s st) (h1 : evs st s.args = some ds) (h2 : s.so.rdx st.objs ds = some d) : GOut P s st (.val d)
  | call (f : FuncId) (ds : List D) (vs : List V) (r : V) (hw : WantedG s st) (hf : s.so = .call f) (h1 : evs st s.args = some ds) (h2 : snapL st.objs ds = some vs) (h3 : Pure P f vs r)
      (h4 : ds.all D.isV = true ∨ r.flat = true) : GOut P s st (.val (.v r))
  | callD (f : FuncId) (first cap : List V) (ds : List D) (vs : List V) (r : V) (hw : WantedG s st) (hf : s.so = .callD) (h1 : evs st s.args = some (.v (.clo (.func f) first cap) :: ds)) (h2 : snapL st.objs ds = some vs) (h3 : Pure P f (first ++ vs ++ cap) r)
      (h4 : ds.all D.isV = true ∨ r.flat = true) : GOut P s st (.val (.v r))
  | new (t : Nat) (ds : List D) (cs : List V) (d : D) (hw : WantedG s st) (hd : s.dst = some t) (h1 : evs st s.args = some ds) (h2 : newOf t s.so ds = some (cs, d)) : GOut P s st (.new t cs d)
  | wr (z k off : Nat) (x : V) (cs : List V) (hw : WantedG s st) (hs : s.so = .st z) (hd : s.dst = none) (h1 : evs st s.args = some [.ref k off, .v x]) (h2 : look st.objs k = some cs)
      (h3 : x.cells.length = z ∧ off + z ≤ cs.length ∧ x.cells.all V.one = true) : GOut P s st (.wr k off x.cells)
def NStep (P : Program) (s : SOp) (st st' : St) : Prop := ∃ o, GOut P s st o ∧ st' = o.app s.dst st
section
variable {P : Program} {w w0 w' : World} {U E : Nat → Prop} {nt : Nat} {st st' : St} {a : Act} {η : Eta} {ok : Nat → Prop}
theorem new_ef {so : SO} {dst : Option Nat} {ds : List D} (hn : isNew so = true) (h : so.ef st dst ds = some st') : ∃ t cs d, dst = some t ∧ newOf t so ds = some (cs, d) ∧ st' = (st.fresh t cs).put (some t) d := by
  unfold SO.ef at h
  split at h <;> try (simp [isNew] at hn; done)
  · simp only [Option.map_eq_some_iff] at h
    obtain ⟨s, rfl, rfl⟩ := h
    exact ⟨s, _, _, rfl, rfl, rfl⟩
  · simp only [Option.map_eq_some_iff] at h
    obtain ⟨s, rfl, rfl⟩ := h
    exact ⟨s, _, _, rfl, rfl, rfl⟩
  · split at h
    · rename_i hb
      simp only [Option.map_eq_some_iff] at h
      obtain ⟨s, rfl, rfl⟩ := h
      exact ⟨s, _, _, rfl, by simp only [newOf]; rw [if_pos hb], rfl⟩
    · cases h
  · cases h
theorem ef_new {so : SO} {t : Nat} {ds : List D} {cs : List V} {d : D} (h : newOf t so ds = some (cs, d)) : so.ef st (some t) ds = some ((st.fresh t cs).put (some t) d) := by
  unfold newOf at h
  split at h
  · cases h; rfl
  · cases h; rfl
  · split at h <;> cases h
    rename_i hb
    simp only [SO.ef]
    rw [if_pos hb]
    rfl
  · cases h
theorem gstep_n {s : SOp} (ha : isApp s.so = false) (h : GStep P s st st') : NStep P s st st' := by
  cases h with
  | no g want hg h => exact ⟨_, .skip g want hg h, rfl⟩
  | yes _ h hg =>
    cases h with
    | rd ds d h1 h2 => exact ⟨_, .rd ds d hg h1 h2, rfl⟩
    | call f ds vs r hf h1 h2 h3 h4 => exact ⟨_, .call f ds vs r hg hf h1 h2 h3 h4, rfl⟩
    | callD f first cap ds vs r hf h1 h2 h3 h4 => exact ⟨_, .callD f first cap ds vs r hg hf h1 h2 h3 h4, rfl⟩
    | callM f pre post d s0 cs cs' r hf => rw [hf] at ha; cases ha
    | ef ds _ h1 h2 =>
      by_cases hn : isNew s.so = true
      · obtain ⟨t, cs, d, hd, h3, rfl⟩ := new_ef hn h2
        exact ⟨_, .new t ds cs d hg hd h1 h3, rfl⟩
      · cases hso : s.so <;> rw [hso] at hn ha h2 <;> simp [isNew] at hn <;> simp [isApp] at ha
        case st z =>
          match ds, h2 with
          | [.ref k off, .v x], h2 =>
            simp only [SO.ef, Option.bind_eq_some_iff] at h2
            obtain ⟨cs, hcs, h2⟩ := h2
            split at h2 <;> cases h2
            rename_i hb
            refine ⟨_, .wr z k off x cs hg hso hb.2.2.2 h1 hcs ⟨hb.1, hb.2.1, hb.2.2.1⟩, ?_⟩
            simp only [Out.app, wrO, hcs]
        all_goals (simp [SO.ef] at h2; done)
theorem n_gstep {s : SOp} (h : NStep P s st st') : GStep P s st st' := by
  obtain ⟨o, h, rfl⟩ := h
  cases h with
  | skip g want hg h => exact .no g want hg h
  | rd ds d hw h1 h2 => exact .yes _ (.rd ds d h1 h2) hw
  | call f ds vs r hw hf h1 h2 h3 h4 => exact .yes _ (.call f ds vs r hf h1 h2 h3 h4) hw
  | callD f first cap ds vs r hw hf h1 h2 h3 h4 => exact .yes _ (.callD f first cap ds vs r hf h1 h2 h3 h4) hw
  | new t ds cs d hw hd h1 h2 => exact .yes _ (.ef ds _ h1 (by rw [hd]; exact ef_new h2)) hw
  | wr z k off x cs hw hs hd h1 h2 h3 =>
    refine .yes _ (.ef _ _ h1 ?_) hw
    rw [hs, hd]
    simp only [SO.ef, h2, Option.bind_some, Out.app, wrO]
    rw [if_pos ⟨h3.1, h3.2.1, h3.2.2, trivial⟩]
/-! ### What a step looks at -/
theorem evs_congr : ∀ {xs : List Opd}, (∀ t ∈ xs.flatMap Opd.slot, look st'.ρ t = look st.ρ t) → evs st' xs = evs st xs
  | [], _ => rfl
  | x :: xs, h => by
    have h1 : x.ev st' = x.ev st := by
      cases x with
      | tm t => exact h t (by simp [Opd.slot])
      | cn v => rfl
    have h2 := evs_congr (xs := xs) fun t ht => h t (by simp only [List.flatMap_cons, List.mem_append]; exact .inr ht)
    simp only [evs, h1, h2]
/-- What is named among the operands. -/
theorem evs_mem : ∀ {xs : List Opd} {ds : List D}, evs st xs = some ds → ∀ d ∈ ds, (∃ v, d = .v v) ∨ ∃ t ∈ xs.flatMap Opd.slot, look st.ρ t = some d
  | [], ds, h, d, hd => by cases h; cases hd
  | x :: xs, ds, h, d, hd => by
    unfold evs at h
    split at h <;> cases h
    rename_i e es h1 h2
    rcases List.mem_cons.1 hd with rfl | hd
    · cases x with
      | tm t => exact .inr ⟨t, by simp [Opd.slot], h1⟩
      | cn v => cases h1; exact .inl ⟨v, rfl⟩
    · rcases evs_mem h2 d hd with h3 | ⟨t, h3, h4⟩
      · exact .inl h3
      · exact .inr ⟨t, by simp only [List.flatMap_cons, List.mem_append]; exact .inr h3, h4⟩
theorem snapL_congr {o o' : List (Nat × List V)} : ∀ {ds : List D}, (∀ d ∈ ds, ∀ s, d.ment s = true → look o' s = look o s) → snapL o' ds = snapL o ds
  | [], _ => rfl
  | d :: ds, h => by
    have h1 : snapV o' d = snapV o d := by
      cases d with
      | v x => rfl
      | ref s off => simp only [snapV, h (.ref s off) (by simp) s (by simp [D.ment])]
      | own s z off ln => simp only [snapV, h (.own s z off ln) (by simp) s (by simp [D.ment])]
      | dead => rfl
    simp only [snapL, h1, snapL_congr (ds := ds) fun d hd => h d (by simp [hd])]
theorem appArg_congr {o o' : List (Nat × List V)} {z : Nat} {d : D} (h : ∀ s, d.ment s = true → look o' s = look o s) : appArg o' z d = appArg o z d := by
  cases d with
  | v x => unfold appArg; split <;> first | rfl | (rename_i he; cases he) | skip
  | ref s off => rfl
  | own s z' off ln => simp only [appArg, h s (by simp [D.ment])]
  | dead => rfl
theorem appV_congr {o o' : List (Nat × List V)} {z by_ : Nat} {ds : List D} (h : ∀ d ∈ ds, ∀ s, d.ment s = true → look o' s = look o s) : appV o' z by_ ds = appV o z by_ ds := by
  unfold appV
  split
  · rw [appArg_congr fun s hs => h _ (by simp) s hs]
  · rfl
theorem rdx_congr {o o' : List (Nat × List V)} {so : SO} {ds : List D} (h : ∀ d ∈ ds, ∀ s, d.ment s = true → look o' s = look o s) : so.rdx o' ds = so.rdx o ds := by
  cases so <;> simp only [SO.rdx]
  case app => exact appV_congr h
  case appv => exact appV_congr h
  case ld g z hd =>
    match ds, h with
    | [d], h =>
      have : deref o' d = deref o d := by
        cases d with
        | v x => cases x <;> rfl
        | ref s off => simp only [deref, h (.ref s off) (by simp) s (by simp [D.ment])]
        | own => rfl
        | dead => rfl
      simp only [SO.rd, this]
    | [], _ => rfl
    | _ :: _ :: _, _ => rfl
  all_goals first | rfl | (unfold SO.rd; rfl) | (unfold SO.rd; split <;> first | rfl | (simp_all; done))
theorem rdx_free {o o' : List (Nat × List V)} {so : SO} {ds : List D} (h : readsMem so = false) : so.rdx o' ds = so.rdx o ds := by
  cases so <;> simp [readsMem] at h <;> first | rfl | (simp only [SO.rdx]; unfold SO.rd; rfl) | (simp only [SO.rdx]; unfold SO.rd; split <;> first | rfl | (simp_all; done))
theorem faD_clean {off : Nat} {d d' : D} {s : Nat} (h : faD off d = some d') (hd : d.ment s = false) : d'.ment s = false := by
  unfold faD at h
  split at h <;> cases h
  · rfl
  · exact hd
theorem rdx_clean {o : List (Nat × List V)} {so : SO} {ds : List D} {d : D} {s : Nat} (h : so.rdx o ds = some d) (hd : ∀ e ∈ ds, e.ment s = false) : d.ment s = false := by
  have app : ∀ (z by_ : Nat), appV o z by_ ds = some d → d.ment s = false := fun z by_ h => by
    unfold appV at h
    split at h
    · simp only [Option.bind_eq_some_iff] at h
      obtain ⟨⟨m, ys⟩, _, h⟩ := h
      split at h <;> cases h
      rfl
    · cases h
  unfold SO.rdx at h
  split at h
  · exact app _ _ h
  · exact app _ _ h
  · unfold SO.rd at h
    split at h
    · obtain ⟨vs, r, h1, h2, rfl⟩ := po_split (objs := o) (by simpa [SO.rd] using h)
      rfl
    · cases h; exact hd _ (by simp)
    · cases h
      split
      · exact hd _ (by simp)
      · exact hd _ (by simp)
    · simp only [Option.bind_eq_some_iff] at h
      obtain ⟨cs, _, h⟩ := h
      unfold ldD at h
      split at h
      · split at h <;> cases h; rfl
      · simp only [Option.map_eq_some_iff] at h
        obtain ⟨v, _, rfl⟩ := h; rfl
    · exact faD_clean h (hd _ (by simp))
    · rename_i arr z x i
      unfold iaD at h
      split at h
      · split at h
        · split at h
          · exact faD_clean h (hd _ (by simp))
          · cases h
        · split at h
          · split at h <;> cases h; rfl
          · split at h <;> cases h
            have := hd _ (List.mem_cons_self ..)
            simpa [D.ment] using this
          · cases h
      · cases h
    · unfold lenD at h
      split at h
      · split at h <;> cases h; rfl
      · split at h <;> cases h <;> rfl
    · unfold nckD at h
      split at h <;> cases h
      · rfl
      · exact hd _ (by simp)
      · rfl
    · unfold slArgs at h
      split at h
      · rename_i x ds'
        simp only [Option.bind_eq_some_iff] at h
        obtain ⟨⟨lo, d1⟩, _, ⟨hi, d2⟩, _, ⟨mx, d3⟩, _, h⟩ := h
        split at h
        · cases h
        · unfold slD at h
          split at h
          · split at h
            · simp only [Option.bind_eq_some_iff] at h
              obtain ⟨_, _, _, _, h⟩ := h
              split at h <;> cases h; rfl
            · cases h
          · split at h
            · simp only [Option.bind_eq_some_iff] at h
              obtain ⟨_, _, _, _, h⟩ := h
              split at h
              · split at h <;> cases h; rfl
              · simp only [Option.bind_eq_some_iff] at h
                obtain ⟨_, _, h⟩ := h
                split at h <;> cases h; rfl
            · simp only [Option.bind_eq_some_iff] at h
              obtain ⟨_, _, _, _, h⟩ := h
              split at h <;> cases h
              have := hd _ (List.mem_cons_self ..)
              simpa [D.ment] using this
            · cases h
      · cases h
    · cases h
end
end Go.Proofs.Ytdceakejbnolpaa.Sv
