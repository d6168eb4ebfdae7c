/- A region that draws its order: the order of the text serves for every order. No condition. -/
import Derived.Test.YtljcbmnkjiogmaaDoorWb
import Derived.DataReads
import Derived.ChangeShapes
import Derived.ChangeOld
import Derived.Carry
import Derived.OpenShut
import Derived.SizedLaws
import Derived.IntWalk
import Derived.Laws.Externs
/-! A region that draws its order: the order of the text serves for every order. -/
namespace Go.Proofs.YtljcbmnkjiogmaaDoor.Sv
open Go Go.RowKit
set_option linter.unusedVariables false
set_option linter.unusedSimpArgs false

/-- A new object's cells, and what names it. -/
def newOf (t : Nat) : SO → List D → Option (List V × D)
  | .alloc zero, [] => some (zero, .ref t 0)
  | .box, [.v x] => some (x.cells, .ref t 0)
  | .mk z bytes zero, [.v (.n _ l), .v (.n _ c)] => if 0 ≤ l ∧ l ≤ c ∧ c * bytes ≤ 2 ^ 48 ∧ c < 2 ^ 63 then some (zerosL zero l.toNat, .own t z 0 l.toNat) else none
  | .bslO n zero ps, ds => (allV ds).bind fun vs => (bslC n zero ps vs).map fun cs => (cs, .own t 1 0 n)
  | _, _ => none
inductive Out where
  | val (d : D)
  | new (t : Nat) (cs : List V) (d : D)
  | wr (k off : Nat) (xs : List V)
def wrO (objs : List (Nat × List V)) (k off : Nat) (xs : List V) : List (Nat × List V) := match look objs k with
  | some cs => upd objs k (setL cs off xs)
  | none => objs
def Out.app (dst : Option Nat) (st : St) : Out → St
  | .val d => st.put dst d
  | .new t cs d => (st.fresh t cs).put dst d
  | .wr k off xs => ⟨st.ρ, wrO st.objs k off xs⟩
def WantedG (s : SOp) (st : St) : Prop := s.guard = none ∨ ∃ g want, s.guard = some (g, want) ∧ look st.ρ g = some (.v (.b want))
inductive GOut (P : Program) (s : SOp) (st : St) : Out → Prop
  | skip (g : Nat) (want : Bool) (hg : s.guard = some (g, want)) (h : isOff want (look st.ρ g) = true) : GOut P s st (.val (.v (.tup [])))
  | rd (ds : List D) (d : D) (hw : WantedG s st) (h1 : evs st s.args = some ds) (h2 : s.so.rdx st.objs ds = some d) : GOut P s st (.val d)
  | call (f : FuncId) (ds : List D) (vs : List V) (r : V) (hw : WantedG s st) (hf : s.so = .call f) (h1 : evs st s.args = some ds) (h2 : snapL st.objs ds = some vs) (h3 : Pure P f vs r)
      (h4 : ds.all D.isV = true ∨ r.flat = true) : GOut P s st (.val (.v r))
  | callD (f : FuncId) (first cap : List V) (ds : List D) (vs : List V) (r : V) (hw : WantedG s st) (hf : s.so = .callD) (h1 : evs st s.args = some (.v (.clo (.func f) first cap) :: ds)) (h2 : snapL st.objs ds = some vs) (h3 : Pure P f (first ++ vs ++ cap) r)
      (h4 : ds.all D.isV = true ∨ r.flat = true) : GOut P s st (.val (.v r))
  | new (t : Nat) (ds : List D) (cs : List V) (d : D) (hw : WantedG s st) (hd : s.dst = some t) (h1 : evs st s.args = some ds) (h2 : newOf t s.so ds = some (cs, d)) : GOut P s st (.new t cs d)
  | wr (z k off : Nat) (x : V) (cs : List V) (hw : WantedG s st) (hs : s.so = .st z) (hd : s.dst = none) (h1 : evs st s.args = some [.ref k off, .v x]) (h2 : look st.objs k = some cs)
      (h3 : x.cells.length = z ∧ off + z ≤ cs.length ∧ x.cells.all V.one = true) : GOut P s st (.wr k off x.cells)
  | mvA (z bytes k off ln m t : Nat) (x : D) (cs ys : List V) (hw : WantedG s st) (hs : s.so = .appo z bytes) (hd : s.dst = some t) (h1 : evs st s.args = some [.own k z off ln, x]) (h2 : look st.objs k = some cs) (h3 : appArg st.objs z x = some (m, ys))
      (h4 : off + ln * z = cs.length ∧ (ln + m) * bytes ≤ 2 ^ 47 ∧ ys.all V.one = true) : GOut P s st (.new k (cs.drop off ++ ys) (.own k z 0 (ln + m)))
  | mvV (f : FuncId) (pre post : List V) (k z n m : Nat) (cs cs' : List V) (hw : WantedG s st) (hs : s.so = .callV f) (h1 : evs st s.args = some (pre.map .v ++ .own k z 0 n :: post.map .v)) (h2 : look st.objs k = some cs) (h3 : Mov P f pre z n cs post m cs') :
      GOut P s st (.new k cs' (.own k z 0 m))
  | newN (f : FuncId) (ds : List D) (vs : List V) (t z n : Nat) (cs : List V) (hw : WantedG s st) (hf : s.so = .callN f) (hd : s.dst = some t) (h1 : evs st s.args = some ds) (h2 : snapL st.objs ds = some vs) (h3 : New P f vs z n cs)
      (h4 : ds.all D.isV = true ∨ cs.all V.flat1 = true) : GOut P s st (.new t cs (.own t z 0 n))
def NStep (P : Program) (s : SOp) (st st' : St) : Prop := ∃ o, GOut P s st o ∧ st' = o.app s.dst st
section
variable {P : Program} {w w0 w' : World} {U E : Nat → Prop} {nt : Nat} {st st' : St} {a : Act} {η : Eta} {ok : Nat → Prop}
theorem new_ef {so : SO} {dst : Option Nat} {ds : List D} (hn : isNew so = true) (h : so.ef st dst ds = some st') : ∃ t cs d, dst = some t ∧ newOf t so ds = some (cs, d) ∧ st' = (st.fresh t cs).put (some t) d := by
  unfold SO.ef at h
  split at h <;> try (simp [isNew] at hn; done)
  · simp only [Option.map_eq_some_iff] at h
    obtain ⟨s, rfl, rfl⟩ := h
    exact ⟨s, _, _, rfl, rfl, rfl⟩
  · simp only [Option.map_eq_some_iff] at h
    obtain ⟨s, rfl, rfl⟩ := h
    exact ⟨s, _, _, rfl, rfl, rfl⟩
  · split at h
    · rename_i hb
      simp only [Option.map_eq_some_iff] at h
      obtain ⟨s, rfl, rfl⟩ := h
      exact ⟨s, _, _, rfl, by simp only [newOf]; rw [if_pos hb], rfl⟩
    · cases h
  · simp only [Option.bind_eq_some_iff, Option.map_eq_some_iff] at h
    obtain ⟨vs, h1, cs, h2, s, rfl, rfl⟩ := h
    exact ⟨s, cs, _, rfl, by simp only [newOf, h1, h2, Option.bind_some, Option.map_some], rfl⟩
  · cases h
theorem ef_new {so : SO} {t : Nat} {ds : List D} {cs : List V} {d : D} (h : newOf t so ds = some (cs, d)) : so.ef st (some t) ds = some ((st.fresh t cs).put (some t) d) := by
  unfold newOf at h
  split at h
  · cases h; rfl
  · cases h; rfl
  · split at h <;> cases h
    rename_i hb
    simp only [SO.ef]
    rw [if_pos hb]
    rfl
  · simp only [Option.bind_eq_some_iff, Option.map_eq_some_iff, Prod.mk.injEq] at h
    obtain ⟨vs, h1, cs, h2, rfl, rfl⟩ := h
    simp only [SO.ef, h1, h2, Option.bind_some, Option.map_some]
  · cases h
theorem gstep_n {s : SOp} (ha : isApp s.so = false) (h : GStep P s st st') : NStep P s st st' := by
  cases h with
  | no g want hg h => exact ⟨_, .skip g want hg h, rfl⟩
  | yes _ h hg =>
    cases h with
    | rd ds d h1 h2 => exact ⟨_, .rd ds d hg h1 h2, rfl⟩
    | call f ds vs r hf h1 h2 h3 h4 => exact ⟨_, .call f ds vs r hg hf h1 h2 h3 h4, rfl⟩
    | callD f first cap ds vs r hf h1 h2 h3 h4 => exact ⟨_, .callD f first cap ds vs r hg hf h1 h2 h3 h4, rfl⟩
    | callM f pre post d s0 cs cs' r hf => rw [hf] at ha; cases ha
    | callN f ds vs t z n cs hf hd h1 h2 h3 h4 => exact ⟨_, .newN f ds vs t z n cs hg hf hd h1 h2 h3 h4, rfl⟩
    | callV f pre post s0 z n m cs cs' hf h1 h2 h3 => exact ⟨_, .mvV f pre post s0 z n m cs cs' hg hf h1 h2 h3, by rw [move_self]; rfl⟩
    | ef ds _ h1 h2 =>
      by_cases hn : isNew s.so = true
      · obtain ⟨t, cs, d, hd, h3, rfl⟩ := new_ef hn h2
        exact ⟨_, .new t ds cs d hg hd h1 h3, by simp only [Out.app, hd]⟩
      · cases hso : s.so <;> rw [hso] at hn ha h2 <;> simp [isNew] at hn <;> simp [isApp] at ha
        case st z =>
          match ds, h2 with
          | [.ref k off, .v x], h2 =>
            simp only [SO.ef, Option.bind_eq_some_iff] at h2
            obtain ⟨cs, hcs, h2⟩ := h2
            split at h2 <;> cases h2
            rename_i hb
            refine ⟨_, .wr z k off x cs hg hso hb.2.2.2 h1 hcs ⟨hb.1, hb.2.1, hb.2.2.1⟩, ?_⟩
            simp only [Out.app, wrO, hcs]
        case appo z b =>
          match ds, h2 with
          | [.own k z' off ln, x], h2 =>
            simp only [SO.ef, Option.bind_eq_some_iff] at h2
            obtain ⟨cs, hcs, ⟨m, ys⟩, hys, h2⟩ := h2
            split at h2
            case isFalse => cases h2
            rename_i hb
            obtain ⟨rfl, hb⟩ := hb
            simp only [Option.map_eq_some_iff] at h2
            obtain ⟨t, hd, rfl⟩ := h2
            exact ⟨_, .mvA z' b k off ln m t x cs ys hg hso hd h1 hcs hys hb, by rw [move_self]; rfl⟩
        all_goals (simp [SO.ef] at h2; done)
theorem n_gstep {s : SOp} (h : NStep P s st st') : GStep P s st st' := by
  obtain ⟨o, h, rfl⟩ := h
  cases h with
  | skip g want hg h => exact .no g want hg h
  | rd ds d hw h1 h2 => exact .yes _ (.rd ds d h1 h2) hw
  | call f ds vs r hw hf h1 h2 h3 h4 => exact .yes _ (.call f ds vs r hf h1 h2 h3 h4) hw
  | callD f first cap ds vs r hw hf h1 h2 h3 h4 => exact .yes _ (.callD f first cap ds vs r hf h1 h2 h3 h4) hw
  | new t ds cs d hw hd h1 h2 => exact .yes _ (.ef ds _ h1 (by simp only [Out.app, hd]; exact ef_new h2)) hw
  | mvA z bytes k off ln m t x cs ys hw hs hd h1 h2 h3 h4 =>
    refine .yes _ (.ef _ _ h1 ?_) hw
    rw [hs, hd]
    simp only [SO.ef, h2, h3, Option.bind_some, Out.app]
    rw [if_pos ⟨trivial, h4⟩, move_self]
    rfl
  | newN f ds vs t z n cs hw hf hd h1 h2 h3 h4 => exact .yes _ (.callN f ds vs t z n cs hf hd h1 h2 h3 h4) hw
  | mvV f pre post k z n m cs cs' hw hs h1 h2 h3 =>
    have := Step.callV (P := P) (o := s) (st := st) f pre post k z n m cs cs' hs h1 h2 h3
    rw [move_self] at this
    exact .yes _ this hw
  | wr z k off x cs hw hs hd h1 h2 h3 =>
    refine .yes _ (.ef _ _ h1 ?_) hw
    rw [hs, hd]
    simp only [SO.ef, h2, Option.bind_some, Out.app, wrO]
    rw [if_pos ⟨h3.1, h3.2.1, h3.2.2, trivial⟩]
/-! ### What a step looks at -/
theorem evs_congr : ∀ {xs : List Opd}, (∀ t ∈ xs.flatMap Opd.slot, look st'.ρ t = look st.ρ t) → evs st' xs = evs st xs
  | [], _ => rfl
  | x :: xs, h => by
    have h1 : x.ev st' = x.ev st := by
      cases x with
      | tm t => exact h t (by simp [Opd.slot])
      | cn v => rfl
    have h2 := evs_congr (xs := xs) fun t ht => h t (by simp only [List.flatMap_cons, List.mem_append]; exact .inr ht)
    simp only [evs, h1, h2]
/-- What is named among the operands. -/
theorem evs_mem : ∀ {xs : List Opd} {ds : List D}, evs st xs = some ds → ∀ d ∈ ds, (∃ v, d = .v v) ∨ ∃ t ∈ xs.flatMap Opd.slot, look st.ρ t = some d
  | [], ds, h, d, hd => by cases h; cases hd
  | x :: xs, ds, h, d, hd => by
    unfold evs at h
    split at h <;> cases h
    rename_i e es h1 h2
    rcases List.mem_cons.1 hd with rfl | hd
    · cases x with
      | tm t => exact .inr ⟨t, by simp [Opd.slot], h1⟩
      | cn v => cases h1; exact .inl ⟨v, rfl⟩
    · rcases evs_mem h2 d hd with h3 | ⟨t, h3, h4⟩
      · exact .inl h3
      · exact .inr ⟨t, by simp only [List.flatMap_cons, List.mem_append]; exact .inr h3, h4⟩
theorem snapL_congr {o o' : List (Nat × List V)} : ∀ {ds : List D}, (∀ d ∈ ds, ∀ s, d.ment s = true → look o' s = look o s) → snapL o' ds = snapL o ds
  | [], _ => rfl
  | d :: ds, h => by
    have h1 : snapV o' d = snapV o d := by
      cases d with
      | v x => rfl
      | ref s off => simp only [snapV, h (.ref s off) (by simp) s (by simp [D.ment])]
      | own s z off ln => simp only [snapV, h (.own s z off ln) (by simp) s (by simp [D.ment])]
      | dead => rfl
    simp only [snapL, h1, snapL_congr (ds := ds) fun d hd => h d (by simp [hd])]
theorem appArg_congr {o o' : List (Nat × List V)} {z : Nat} {d : D} (h : ∀ s, d.ment s = true → look o' s = look o s) : appArg o' z d = appArg o z d := by
  cases d with
  | v x => unfold appArg; split <;> first | rfl | (rename_i he; cases he) | skip
  | ref s off => rfl
  | own s z' off ln => simp only [appArg, h s (by simp [D.ment])]
  | dead => rfl
theorem appV_congr {o o' : List (Nat × List V)} {z by_ : Nat} {ds : List D} (h : ∀ d ∈ ds, ∀ s, d.ment s = true → look o' s = look o s) : appV o' z by_ ds = appV o z by_ ds := by
  unfold appV
  split
  · rw [appArg_congr fun s hs => h _ (by simp) s hs]
  · rfl
theorem cvD_congr {o o' : List (Nat × List V)} {ds : List D} (h : ∀ d ∈ ds, ∀ s, d.ment s = true → look o' s = look o s) : cvD o' ds = cvD o ds := by
  unfold cvD
  split
  · rename_i s z off ln
    rw [h (.own s z off ln) (by simp) s (by simp [D.ment])]
  · rfl
theorem cvD_is {o : List (Nat × List V)} {ds : List D} {d : D} (h : cvD o ds = some d) : d ∈ ds := by
  unfold cvD at h
  split at h
  · split at h
    · cases h
    · simp only [Option.map_eq_some_iff] at h
      obtain ⟨_, _, rfl⟩ := h
      simp
  · cases h
theorem rdx_congr {o o' : List (Nat × List V)} {so : SO} {ds : List D} (h : ∀ d ∈ ds, ∀ s, d.ment s = true → look o' s = look o s) : so.rdx o' ds = so.rdx o ds := by
  cases so <;> simp only [SO.rdx]
  case app => exact appV_congr h
  case appv => exact appV_congr h
  case cv => exact cvD_congr h
  case ld g z hd =>
    match ds, h with
    | [d], h =>
      have : deref o' d = deref o d := by
        cases d with
        | v x => cases x <;> rfl
        | ref s off => simp only [deref, h (.ref s off) (by simp) s (by simp [D.ment])]
        | own => rfl
        | dead => rfl
      simp only [SO.rd, this]
    | [], _ => rfl
    | _ :: _ :: _, _ => rfl
  all_goals first | rfl | (unfold SO.rd; rfl) | (unfold SO.rd; split <;> first | rfl | (simp_all; done))
theorem rdx_free {o o' : List (Nat × List V)} {so : SO} {ds : List D} (h : readsMem so = false) : so.rdx o' ds = so.rdx o ds := by
  cases so <;> simp [readsMem] at h <;> first | rfl | (simp only [SO.rdx]; unfold SO.rd; rfl) | (simp only [SO.rdx]; unfold SO.rd; split <;> first | rfl | (simp_all; done))
theorem faD_clean {off : Nat} {d d' : D} {s : Nat} (h : faD off d = some d') (hd : d.ment s = false) : d'.ment s = false := by
  unfold faD at h
  split at h <;> cases h
  · rfl
  · exact hd
theorem rdx_clean {o : List (Nat × List V)} {so : SO} {ds : List D} {d : D} {s : Nat} (h : so.rdx o ds = some d) (hd : ∀ e ∈ ds, e.ment s = false) : d.ment s = false := by
  have app : ∀ (z by_ : Nat), appV o z by_ ds = some d → d.ment s = false := fun z by_ h => by
    unfold appV at h
    split at h
    · simp only [Option.bind_eq_some_iff] at h
      obtain ⟨⟨m, ys⟩, _, h⟩ := h
      split at h <;> cases h
      rfl
    · cases h
  unfold SO.rdx at h
  split at h
  · exact app _ _ h
  · exact app _ _ h
  · exact hd _ (cvD_is h)
  · unfold SO.rd at h
    split at h
    · obtain ⟨vs, r, h1, h2, rfl⟩ := po_split (objs := o) (by simpa [SO.rd] using h)
      rfl
    · cases h; exact hd _ (by simp)
    · cases h
      split
      · exact hd _ (by simp)
      · exact hd _ (by simp)
    · simp only [Option.bind_eq_some_iff] at h
      obtain ⟨cs, _, h⟩ := h
      unfold ldD at h
      split at h
      · split at h <;> cases h; rfl
      · simp only [Option.map_eq_some_iff] at h
        obtain ⟨v, _, rfl⟩ := h; rfl
    · exact faD_clean h (hd _ (by simp))
    · rename_i arr z x i
      unfold iaD at h
      split at h
      · split at h
        · split at h
          · exact faD_clean h (hd _ (by simp))
          · cases h
        · split at h
          · split at h <;> cases h; rfl
          · split at h <;> cases h
            have := hd _ (List.mem_cons_self ..)
            simpa [D.ment] using this
          · cases h
      · cases h
    · unfold lenD at h
      split at h
      · split at h <;> cases h; rfl
      · split at h <;> cases h <;> rfl
    · unfold nckD at h
      split at h <;> cases h
      · rfl
      · exact hd _ (by simp)
      · rfl
    · unfold slArgs at h
      split at h
      · rename_i x ds'
        simp only [Option.bind_eq_some_iff] at h
        obtain ⟨⟨lo, d1⟩, _, ⟨hi, d2⟩, _, ⟨mx, d3⟩, _, h⟩ := h
        split at h
        · cases h
        · unfold slD at h
          split at h
          · split at h
            · simp only [Option.bind_eq_some_iff] at h
              obtain ⟨_, _, _, _, h⟩ := h
              split at h <;> cases h; rfl
            · cases h
          · split at h
            · simp only [Option.bind_eq_some_iff] at h
              obtain ⟨_, _, _, _, h⟩ := h
              split at h
              · split at h <;> cases h; rfl
              · simp only [Option.bind_eq_some_iff] at h
                obtain ⟨_, _, h⟩ := h
                split at h <;> cases h; rfl
            · simp only [Option.bind_eq_some_iff] at h
              obtain ⟨_, _, _, _, h⟩ := h
              split at h <;> cases h
              have := hd _ (List.mem_cons_self ..)
              simpa [D.ment] using this
            · cases h
      · cases h
    · cases h
end
end Go.Proofs.YtljcbmnkjiogmaaDoor.Sv
/-! A region that draws its order, the theorem. -/
namespace Go.Proofs.YtljcbmnkjiogmaaDoor.Sv
open Go Go.RowKit
set_option linter.unusedVariables false
set_option linter.unusedSimpArgs false
section
variable {P : Program} {w w0 w' : World} {U E : Nat → Prop} {nt : Nat} {st st' st2 : St} {a : Act} {η : Eta} {ok : Nat → Prop} {s : SOp} {o : Out}
/-- A step looks at no more than its slots, and the objects that are named there (if it looks into objects at all). -/
theorem gout_congr (h1 : ∀ t ∈ s.slots, look st'.ρ t = look st.ρ t) (h2 : readsMem s.so = true → ∀ t ∈ s.slots, ∀ d, look st.ρ t = some d → ∀ s0, d.ment s0 = true → look st'.objs s0 = look st.objs s0) (h : GOut P s st o) : GOut P s st' o := by
  have ha : evs st' s.args = evs st s.args := evs_congr fun t ht => h1 t (by unfold SOp.slots; exact List.mem_append_left _ ht)
  have hg : ∀ g want, s.guard = some (g, want) → look st'.ρ g = look st.ρ g := fun g want hg => h1 g (by unfold SOp.slots; rw [hg]; simp)
  have hw : WantedG s st → WantedG s st' := fun h => by
    rcases h with h | ⟨g, want, h3, h4⟩
    · exact .inl h
    · exact .inr ⟨g, want, h3, by rw [hg g want h3]; exact h4⟩
  have hm : readsMem s.so = true → ∀ {ds : List D}, evs st s.args = some ds → ∀ d ∈ ds, ∀ s0, d.ment s0 = true → look st'.objs s0 = look st.objs s0 := fun hr ds he d hd s0 hs => by
    rcases evs_mem he d hd with ⟨v, rfl⟩ | ⟨t, h3, h4⟩
    · simp [D.ment] at hs
    · exact h2 hr t (by unfold SOp.slots; exact List.mem_append_left _ h3) d h4 s0 hs
  cases h with
  | skip g want h3 h4 => exact .skip g want h3 (by rw [hg g want h3]; exact h4)
  | rd ds d h3 h4 h5 =>
    refine .rd ds d (hw h3) (by rw [ha]; exact h4) ?_
    cases hr : readsMem s.so with
    | true => rw [rdx_congr (hm hr h4)]; exact h5
    | false => rw [rdx_free hr]; exact h5
  | call f ds vs r h3 hf h4 h5 h6 h7 => exact .call f ds vs r (hw h3) hf (by rw [ha]; exact h4) (by rw [snapL_congr (hm (by rw [hf]; rfl) h4)]; exact h5) h6 h7
  | callD f first cap ds vs r h3 hf h4 h5 h6 h7 => exact .callD f first cap ds vs r (hw h3) hf (by rw [ha]; exact h4) (by rw [snapL_congr fun d hd => hm (by rw [hf]; rfl) h4 d (by simp [hd])]; exact h5) h6 h7
  | new t ds cs d h3 hd h4 h5 => exact .new t ds cs d (hw h3) hd (by rw [ha]; exact h4) h5
  | wr z k off x cs h3 hs hd h4 h5 h6 => exact .wr z k off x cs (hw h3) hs hd (by rw [ha]; exact h4) (by rw [hm (by rw [hs]; rfl) h4 (.ref k off) (by simp) k (by simp [D.ment])]; exact h5) h6
  | mvA z bytes k off ln m t x cs ys h3 hs hd h4 h5 h6 h7 =>
    have hr : readsMem s.so = true := by rw [hs]; rfl
    exact .mvA z bytes k off ln m t x cs ys (hw h3) hs hd (by rw [ha]; exact h4) (by rw [hm hr h4 (.own k z off ln) (by simp) k (by simp [D.ment])]; exact h5) (by rw [appArg_congr fun s0 hs0 => hm hr h4 x (by simp) s0 hs0]; exact h6) h7
  | newN f ds vs t z n cs h3 hf hd h4 h5 h6 h7 => exact .newN f ds vs t z n cs (hw h3) hf hd (by rw [ha]; exact h4) (by rw [snapL_congr (hm (by rw [hf]; rfl) h4)]; exact h5) h6 h7
  | mvV f pre post k z n m cs cs' h3 hs h4 h5 h6 =>
    have hr : readsMem s.so = true := by rw [hs]; rfl
    exact .mvV f pre post k z n m cs cs' (hw h3) hs (by rw [ha]; exact h4) (by rw [hm hr h4 (.own k z 0 n) (by simp) k (by simp [D.ment])]; exact h5) h6
theorem gout_eqv (he : Eqv st st') (h : GOut P s st o) : GOut P s st' o := gout_congr (fun t _ => (he.1 t).symm) (fun _ _ _ _ _ s0 _ => (he.2 s0).symm) h
/-- What a step yields names no object that its operands don't name. -/
theorem gout_clean {t0 : Nat} (hc : ∀ t ∈ s.slots, ∀ d, look st.ρ t = some d → d.ment t0 = false) {d : D} (h : GOut P s st (.val d)) : d.ment t0 = false := by
  have hm : ∀ {ds : List D}, evs st s.args = some ds → ∀ e ∈ ds, e.ment t0 = false := fun he e hd => by
    rcases evs_mem he e hd with ⟨v, rfl⟩ | ⟨t, h3, h4⟩
    · rfl
    · exact hc t (by unfold SOp.slots; exact List.mem_append_left _ h3) e h4
  cases h with
  | skip => rfl
  | rd ds d h3 h4 h5 => exact rdx_clean h5 (hm h4)
  | call => rfl
  | callD => rfl
theorem new_ment {t t0 : Nat} {so : SO} {ds : List D} {cs : List V} {d : D} (h : newOf t so ds = some (cs, d)) : d.ment t0 = (t == t0) := by
  unfold newOf at h
  split at h
  · cases h; rfl
  · cases h; rfl
  · split at h <;> cases h; rfl
  · simp only [Option.bind_eq_some_iff, Option.map_eq_some_iff, Prod.mk.injEq] at h
    obtain ⟨vs, h1, cs, h2, rfl, rfl⟩ := h
    rfl
  · cases h
theorem look_put (st : St) (dst : Option Nat) (d : D) (t : Nat) : look (st.put dst d).ρ t = if dst = some t then some d else look st.ρ t := by
  cases dst with
  | none => simp [St.put]
  | some k =>
    simp only [St.put, look, Option.some.injEq]
    by_cases h : t = k
    · subst h; simp
    · rw [if_neg h, if_neg (fun e => h e.symm)]
theorem objs_put (st : St) (dst : Option Nat) (d : D) : (st.put dst d).objs = st.objs := by cases dst <;> rfl
theorem look_fresh (st : St) (s : Nat) (cs : List V) (t : Nat) : look (st.fresh s cs).ρ t = (look st.ρ t).map (killD s) := by simp only [St.fresh]; exact look_killR _ _ _
theorem objs_fresh (st : St) (s : Nat) (cs : List V) (t : Nat) : look (st.fresh s cs).objs t = if t = s then some cs else look st.objs t := by
  simp only [St.fresh, look]
  by_cases h : t = s
  · simp [h]
  · rw [if_neg h, if_neg h, look_rid, if_neg h]
theorem look_val {dst : Option Nat} (d : D) (t : Nat) : look ((Out.val d).app dst st).ρ t = if dst = some t then some d else look st.ρ t := look_put _ _ _ _
theorem look_new {dst : Option Nat} (k : Nat) (cs : List V) (d : D) (t : Nat) : look ((Out.new k cs d).app dst st).ρ t = if dst = some t then some d else (look st.ρ t).map (killD k) := by
  simp only [Out.app, look_put, look_fresh]
theorem objs_val {dst : Option Nat} (d : D) (t : Nat) : look ((Out.val d).app dst st).objs t = look st.objs t := by simp only [Out.app, objs_put]
theorem objs_new {dst : Option Nat} (k : Nat) (cs : List V) (d : D) (t : Nat) : look ((Out.new k cs d).app dst st).objs t = if t = k then some cs else look st.objs t := by simp only [Out.app, objs_put, objs_fresh]
theorem look_wr {dst : Option Nat} (k off : Nat) (xs : List V) (t : Nat) : look ((Out.wr k off xs).app dst st).ρ t = look st.ρ t := rfl
theorem objs_wr {dst : Option Nat} (k off : Nat) (xs : List V) (t : Nat) : look ((Out.wr k off xs).app dst st).objs t = if t = k then (look st.objs k).map (fun cs => setL cs off xs) else look st.objs t := by
  simp only [Out.app]
  cases h : look st.objs k with
  | none =>
    have e0 : wrO st.objs k off xs = st.objs := by unfold wrO; rw [h]
    rw [e0]
    by_cases e : t = k
    · subst e; rw [if_pos rfl, h]; rfl
    · rw [if_neg e]
  | some cs =>
    have e0 : wrO st.objs k off xs = upd st.objs k (setL cs off xs) := by unfold wrO; rw [h]
    rw [e0, look_upd, h]
    rfl
theorem app_eqv {dst : Option Nat} (he : Eqv st st') : Eqv (o.app dst st) (o.app dst st') := by
  have e1 := he.1
  have e2 := he.2
  refine ⟨fun t => ?_, fun t => ?_⟩
  · cases o with
    | val d => simp only [Out.app, look_put, e1]
    | new k cs d => simp only [Out.app, look_put, look_fresh, e1]
    | wr k off xs => rw [look_wr, look_wr, e1]
  · cases o with
    | val d => rw [objs_val, objs_val, e2]
    | new k cs d => rw [objs_new, objs_new, e2]
    | wr k off xs => rw [objs_wr, objs_wr, e2, e2]
/-- The slots that an operation touches, apart. -/
def apartS (x y : SOp) : Bool := (match x.dst with | some d => !y.slots.contains d && y.dst != some d | none => true) && (match y.dst with | some d => !x.slots.contains d | none => true)
theorem apartS_spec {x y : SOp} (h : apartS x y = true) : (∀ d, x.dst = some d → d ∉ y.slots) ∧ (∀ d, x.dst = some d → y.dst ≠ some d) ∧ (∀ d, y.dst = some d → d ∉ x.slots) := by
  refine ⟨fun d hd => ?_, fun d hd => ?_, fun d hd => ?_⟩ <;> simp [apartS, hd] at h
  · exact h.1.1
  · exact h.1.2
  · exact h.2
/-- The object that a step makes. -/
def Out.site : Out → Option Nat
  | .val _ => none
  | .new t _ _ => some t
  | .wr _ _ _ => none
/-- The object that a step writes. -/
def Out.wrote : Out → Option Nat
  | .wr k _ _ => some k
  | _ => none
/-- What a step may look into or write. -/
def Touch (s : SOp) (st : St) (k : Nat) : Prop := readsMem s.so = true ∧ ∃ t ∈ s.slots, ∃ d, look st.ρ t = some d ∧ d.ment k = true
theorem gout_wrote {x : SOp} {k : Nat} (h : GOut P x st o) (hs : o.wrote = some k) : Touch x st k := by
  cases h with
  | wr z k' off v cs hw hso hd h1 h2 h3 =>
    cases hs
    refine ⟨by rw [hso]; rfl, ?_⟩
    rcases evs_mem h1 (.ref k off) (by simp) with ⟨v, hv⟩ | ⟨t, h4, h5⟩
    · cases hv
    · exact ⟨t, by unfold SOp.slots; exact List.mem_append_left _ h4, _, h5, by simp [D.ment]⟩
  | _ => cases hs
/-- Slots among which none names an object. -/
def Free (s : SOp) (st : St) (k : Nat) : Prop := ∀ t ∈ s.slots, ∀ d, look st.ρ t = some d → d.ment k = false
theorem own_named {x : SOp} {k z off n : Nat} {ds : List D} (h : evs st x.args = some ds) (hm : D.own k z off n ∈ ds) : ∃ t ∈ x.slots, ∃ d, look st.ρ t = some d ∧ d.ment k = true := by
  rcases evs_mem h _ hm with ⟨v, hv⟩ | ⟨t, h4, h5⟩
  · cases hv
  · exact ⟨t, by unfold SOp.slots; exact List.mem_append_left _ h4, _, h5, by simp [D.ment]⟩
/-- An object that a step makes bears the slot's name, or the step was handed it. -/
theorem gout_site {x : SOp} {k : Nat} (h : GOut P x st o) (hs : o.site = some k) : (isMv x.so = false ∧ x.dst = some k) ∨ (isMv x.so = true ∧ ∃ t ∈ x.slots, ∃ d, look st.ρ t = some d ∧ d.ment k = true) := by
  cases h with
  | new t ds cs d hw hd h1 h2 =>
    cases hs
    refine .inl ⟨?_, hd⟩
    unfold newOf at h2
    split at h2 <;> first | (cases h2; simp_all [isMv]; done) | (simp_all [isMv]; done)
  | newN f ds vs t z n cs hw hf hd => cases hs; exact .inl ⟨by rw [hf]; rfl, hd⟩
  | mvA z bytes k off ln m t x cs ys hw hso hd h1 => cases hs; exact .inr ⟨by rw [hso]; rfl, own_named (z := z) (off := off) (n := ln) h1 List.mem_cons_self⟩
  | mvV f pre post k z n m cs cs' hw hso h1 => cases hs; exact .inr ⟨by rw [hso]; rfl, own_named (z := z) (off := 0) (n := n) h1 (by simp)⟩
  | _ => cases hs
/-- What a new object's name stands for names that object alone. -/
theorem site_ment {x : SOp} {k k' : Nat} {cs : List V} {d : D} (h : GOut P x st (.new k cs d)) (hne : k ≠ k') : d.ment k' = false := by
  cases h with
  | new t ds cs d hw hd h1 h2 => rw [new_ment h2]; simpa using hne
  | mvA => simpa [D.ment] using hne
  | newN => simpa [D.ment] using hne
  | mvV => simpa [D.ment] using hne
theorem site_ne {x y : SOp} {ox oy : Out} {k k' : Nat} (hap : apartS x y = true) (hx : GOut P x st ox) (hy : GOut P y st oy) (hk : ox.site = some k) (hk' : oy.site = some k') (hcx : Free y st k) (hcy : Free x st k') : k ≠ k' := by
  intro e
  subst e
  obtain ⟨h1, h2, h3⟩ := apartS_spec hap
  rcases gout_site hx hk with ⟨_, hx'⟩ | ⟨_, t, ht, d, hd, hm⟩
  · rcases gout_site hy hk' with ⟨_, hy'⟩ | ⟨_, t, ht, d, hd, hm⟩
    · exact h2 k hx' hy'
    · rw [hcx t ht d hd] at hm; cases hm
  · rw [hcy t ht d hd] at hm; cases hm
/-- One step behind another that doesn't touch it might as well come first. -/
theorem gout_back {x y : SOp} {ox oy : Out} (hap : apartS x y = true) (hx : GOut P x st ox) (hcl : ∀ k, ox.site = some k → Free y st k) (hmx : ∀ k, ox.wrote = some k → ¬ Touch y st k) (hy : GOut P y (ox.app x.dst st) oy) : GOut P y st oy := by
  obtain ⟨h1, h2, h3⟩ := apartS_spec hap
  refine gout_congr (st := ox.app x.dst st) (fun t ht => ?_) (fun hr t ht d hd s0 hs => ?_) hy
  · cases ox with
    | val d => rw [look_val, if_neg fun e => h1 t e ht]
    | new k cs d =>
      rw [look_new, if_neg fun e => h1 t e ht]
      cases hl : look st.ρ t with
      | none => rfl
      | some e => simp only [Option.map_some, killD, hcl k rfl t ht e hl, Bool.false_eq_true, if_false]
    | wr k off xs => rw [look_wr]
  · cases ox with
    | val d => rw [objs_val]
    | wr k off xs =>
      rw [look_wr] at hd
      rw [objs_wr, if_neg fun e => hmx k rfl ⟨hr, t, ht, d, hd, by rw [← e]; exact hs⟩]
    | new k cs e =>
      have : s0 ≠ k := by
        intro hsk
        subst hsk
        rw [look_new] at hd
        rw [if_neg fun e => h1 t e ht] at hd
        rw [Option.map_eq_some_iff] at hd
        obtain ⟨e', he', rfl⟩ := hd
        unfold killD at hs
        split at hs
        · simp [D.ment] at hs
        · rename_i hm; exact hm hs
      rw [objs_new, if_neg this]
theorem gout_fore {x y : SOp} {ox oy : Out} (hap : apartS x y = true) (hx : GOut P x st ox) (hy : GOut P y st oy) (hcl : ∀ k, oy.site = some k → Free x st k) (hmy : ∀ k, oy.wrote = some k → ¬ Touch x st k) : GOut P x (oy.app y.dst st) ox := by
  obtain ⟨h1, h2, h3⟩ := apartS_spec hap
  refine gout_congr (st := st) (fun t ht => ?_) (fun hr t ht d hd s0 hs => ?_) hx
  · cases oy with
    | val d => rw [look_val, if_neg fun e => h3 t e ht]
    | new k cs d =>
      rw [look_new, if_neg fun e => h3 t e ht]
      cases hl : look st.ρ t with
      | none => rfl
      | some e => simp only [Option.map_some, killD, hcl k rfl t ht e hl, Bool.false_eq_true, if_false]
    | wr k off xs => rw [look_wr]
  · cases oy with
    | val d => rw [objs_val]
    | wr k off xs => rw [objs_wr, if_neg fun e => hmy k rfl ⟨hr, t, ht, d, hd, by rw [← e]; exact hs⟩]
    | new k cs e =>
      have : s0 ≠ k := by
        intro hsk
        subst hsk
        rw [hcl s0 rfl t ht d hd] at hs
        cases hs
      rw [objs_new, if_neg this]
theorem gout_comm {x y : SOp} {ox oy : Out} (hap : apartS x y = true) (hx : GOut P x st ox) (hy : GOut P y st oy) (hcx : ∀ k, ox.site = some k → Free y st k)
    (hcy : ∀ k, oy.site = some k → Free x st k) (hmx : ∀ k, ox.wrote = some k → ¬ Touch y st k) : Eqv (oy.app y.dst (ox.app x.dst st)) (ox.app x.dst (oy.app y.dst st)) := by
  obtain ⟨h1, h2, h3⟩ := apartS_spec hap
  -- a store's object is no new one
  have ne : ∀ {z : SOp} {oz : Out} {k t : Nat}, GOut P z st oz → oz.wrote = some k → Free z st t → k ≠ t := fun hg hk hc e => by
    obtain ⟨_, q, hq, d, h3, h4⟩ := gout_wrote hg hk
    rw [e, hc q hq d h3] at h4
    cases h4
  cases ox with
  | wr k off xs =>
    cases oy with
    | val dy => exact ⟨fun t => by simp only [look_val, look_wr], fun t => by simp only [objs_val, objs_wr]⟩
    | new k' cs dy =>
      have hne : k ≠ k' := ne hx rfl (hcy k' rfl)
      refine ⟨fun t => by simp only [look_new, look_wr], fun t => ?_⟩
      simp only [objs_new, objs_wr]
      by_cases e : t = k'
      · subst e; rw [if_pos rfl, if_neg (Ne.symm hne), if_pos rfl]
      · rw [if_neg e, if_neg e, if_neg hne]
    | wr k' off' xs' =>
      have hne : k ≠ k' := fun e => hmx k rfl (by rw [e]; exact gout_wrote hy rfl)
      refine ⟨fun t => by simp only [look_wr], fun t => ?_⟩
      simp only [objs_wr]
      by_cases e : t = k'
      · subst e; rw [if_pos rfl, if_neg (Ne.symm hne), if_neg (Ne.symm hne), if_pos rfl]
      · rw [if_neg e, if_neg e, if_neg hne]
  | val dx =>
    cases oy with
    | wr k off xs => exact ⟨fun t => by simp only [look_val, look_wr], fun t => by simp only [objs_val, objs_wr]⟩
    | val dy =>
      refine ⟨fun t => ?_, fun t => by simp only [objs_val]⟩
      simp only [look_val]
      by_cases e1 : y.dst = some t
      · rw [if_pos e1, if_neg (fun e => h2 t e e1), if_pos e1]
      · rw [if_neg e1, if_neg e1]
    | new k cs dy =>
      have hm : dx.ment k = false := gout_clean (hcy k rfl) hx
      refine ⟨fun t => ?_, fun t => by simp only [objs_val, objs_new]⟩
      simp only [look_val, look_new]
      by_cases e1 : y.dst = some t
      · rw [if_pos e1, if_neg (fun e => h2 t e e1), if_pos e1]
      · rw [if_neg e1, if_neg e1]
        split
        · simp [killD, hm]
        · rfl
  | new k cs dx =>
    cases oy with
    | wr k' off xs =>
      have hne : k' ≠ k := ne hy rfl (hcx k rfl)
      refine ⟨fun t => by simp only [look_new, look_wr], fun t => ?_⟩
      simp only [objs_new, objs_wr]
      by_cases e : t = k
      · subst e; rw [if_pos rfl, if_neg (Ne.symm hne), if_pos rfl]
      · rw [if_neg e, if_neg e, if_neg hne]
    | val dy =>
      have hm : dy.ment k = false := gout_clean (hcx k rfl) hy
      refine ⟨fun t => ?_, fun t => by simp only [objs_val, objs_new]⟩
      simp only [look_val, look_new]
      by_cases e1 : y.dst = some t
      · rw [if_pos e1, if_neg (fun e => h2 t e e1), if_pos e1]
        simp [killD, hm]
      · rw [if_neg e1, if_neg e1]
    | new k' cs' dy =>
      have hkk : k ≠ k' := site_ne hap hx hy rfl rfl (hcx k rfl) (hcy k' rfl)
      have m1 : dx.ment k' = false := site_ment hx hkk
      have m2 : dy.ment k = false := site_ment hy (Ne.symm hkk)
      refine ⟨fun t => ?_, fun t => ?_⟩
      · simp only [look_new]
        by_cases e1 : y.dst = some t
        · rw [if_pos e1, if_neg (fun e => h2 t e e1), if_pos e1]
          simp [killD, m2]
        · rw [if_neg e1, if_neg e1]
          by_cases e2 : x.dst = some t
          · rw [if_pos e2, if_pos e2]
            simp [killD, m1]
          · rw [if_neg e2, if_neg e2]
            cases look st.ρ t with
            | none => rfl
            | some e =>
              simp only [Option.map_some, killD]
              cases h4 : e.ment k <;> cases h5 : e.ment k' <;> simp [h4, h5, show ∀ z, D.dead.ment z = false from fun _ => rfl]
      · simp only [objs_new]
        by_cases e1 : t = k'
        · subst e1
          rw [if_pos rfl, if_neg (Ne.symm hkk), if_pos rfl]
        · rw [if_neg e1, if_neg e1]
end
end Go.Proofs.YtljcbmnkjiogmaaDoor.Sv
/-! Which slots may name which objects, and what must come ahead of what, in a region that draws its order. -/
namespace Go.Proofs.YtljcbmnkjiogmaaDoor.Sv
open Go Go.RowKit
set_option linter.unusedVariables false
set_option linter.unusedSimpArgs false

/-- Each slot names no object that the table doesn't let it name. -/
def MInv (m : List (Nat × List Nat)) (st : St) : Prop := ∀ t d k, look st.ρ t = some d → d.ment k = true → k ∈ mOf m t
section
variable {P : Program} {st st' : St} {s : SOp} {o : Out} {m : List (Nat × List Nat)}
theorem rdx_val {objs : List (Nat × List V)} {so : SO} {ds : List D} {d : D} (hp : passes so = false) (h : so.rdx objs ds = some d) : ∃ v, d = .v v := by
  have app : ∀ (z by_ : Nat), appV objs z by_ ds = some d → ∃ v, d = .v v := fun z by_ h => by
    unfold appV at h
    split at h
    · simp only [Option.bind_eq_some_iff] at h
      obtain ⟨⟨m, ys⟩, _, h⟩ := h
      split at h <;> cases h
      exact ⟨_, rfl⟩
    · cases h
  cases so <;> simp [passes] at hp <;> simp only [SO.rdx] at h
  case app => exact app _ _ h
  case appv => exact app _ _ h
  case po p => obtain ⟨vs, r, h1, h2, rfl⟩ := po_split (objs := objs) h; exact ⟨_, rfl⟩
  case ld g z hd =>
    match ds, h with
    | [e], h =>
      simp only [SO.rd, Option.bind_eq_some_iff] at h
      obtain ⟨cs, _, h⟩ := h
      unfold ldD at h
      split at h
      · split at h <;> cases h; exact ⟨_, rfl⟩
      · simp only [Option.map_eq_some_iff] at h
        obtain ⟨v, _, rfl⟩ := h; exact ⟨_, rfl⟩
  all_goals (simp [SO.rd] at h; done)
theorem MInv.put (hm : MInv m st) {dst : Option Nat} {d : D} (h : ∀ t k, dst = some t → d.ment k = true → k ∈ mOf m t) : MInv m (st.put dst d) := by
  intro t e k hl hk
  rw [look_put] at hl
  split at hl
  · rename_i e1; cases hl; exact h t k e1 hk
  · exact hm t e k hl hk
theorem passes_new {so : SO} (hp : passes so = true) : isNew so = false := by cases so <;> simp [passes] at hp <;> rfl
theorem MInv.moved (hm : MInv m st) (hok : okM m s = true) (hp : passes s.so = true) {k : Nat} {cs : List V} {z n : Nat} (hn : ∃ t ∈ s.slots, ∃ d, look st.ρ t = some d ∧ d.ment k = true) : MInv m ((Out.new k cs (.own k z 0 n)).app s.dst st) := by
  intro q e k' hl hk
  rw [look_new] at hl
  split at hl
  · rename_i ht
    cases hl
    obtain rfl : k = k' := by simpa [D.ment] using hk
    obtain ⟨t, hts, d, hd, hm'⟩ := hn
    have h3 := hm t d k hd hm'
    unfold okM at hok
    rw [ht] at hok
    simp only [passes_new hp, hp, Bool.false_eq_true, if_false, if_true, List.all_eq_true] at hok
    have := hok t hts k h3
    simpa using this
  · rw [Option.map_eq_some_iff] at hl
    obtain ⟨e', he', rfl⟩ := hl
    unfold killD at hk
    split at hk
    · cases hk
    · exact hm q e' k' he' hk
theorem MInv.app (hm : MInv m st) (hok : okM m s = true) (h : GOut P s st o) : MInv m (o.app s.dst st) := by
  have hv : ∀ (dst : Option Nat) (v : V), MInv m (st.put dst (.v v)) := fun dst v => hm.put fun t k _ hk => by cases hk
  cases h with
  | skip => exact hv _ _
  | call => exact hv _ _
  | callD => exact hv _ _
  | wr => exact hm
  | rd ds d hw h1 h2 =>
    cases hp : passes s.so with
    | false => obtain ⟨v, rfl⟩ := rdx_val hp h2; exact hv _ _
    | true =>
      refine hm.put fun t k ht hk => ?_
      have : ∃ e ∈ ds, e.ment k = true := by
        apply Classical.byContradiction
        intro hn
        have := rdx_clean (s := k) h2 fun e he => by
          cases hc : e.ment k with
          | false => rfl
          | true => exact absurd ⟨e, he, hc⟩ hn
        rw [this] at hk; cases hk
      obtain ⟨e, he, hek⟩ := this
      rcases evs_mem h1 e he with ⟨v, rfl⟩ | ⟨q, hq, hl⟩
      · cases hek
      · have h3 := hm q e k hl hek
        unfold okM at hok
        rw [ht] at hok
        have hnew : isNew s.so = false := passes_new hp
        simp only [hnew, hp, Bool.false_eq_true, if_false, if_true, List.all_eq_true] at hok
        have := hok q (by unfold SOp.slots; exact List.mem_append_left _ hq) k h3
        simpa using this
  | mvA z bytes k off ln m' t x cs ys hw hs hd h1 => exact hm.moved hok (by rw [hs]; rfl) (own_named (z := z) (off := off) (n := ln) h1 List.mem_cons_self)
  | mvV f pre post k z n m' cs cs' hw hs h1 => exact hm.moved hok (by rw [hs]; rfl) (own_named (z := z) (off := 0) (n := n) h1 (by simp))
  | newN f ds vs t z n cs hw hf hd h1 h2 h3 h4 =>
    intro q e k hl hk
    rw [look_new] at hl
    split at hl
    · rename_i e1
      rw [hd] at e1
      cases e1
      cases hl
      obtain rfl : t = k := by simpa [D.ment] using hk
      unfold okM at hok
      rw [hd] at hok
      simp only [hf, isNew, if_true] at hok
      simpa using hok
    · rw [Option.map_eq_some_iff] at hl
      obtain ⟨e', he', rfl⟩ := hl
      unfold killD at hk
      split at hk
      · cases hk
      · exact hm q e' k he' hk
  | new t ds cs d hw hd h1 h2 =>
    intro q e k hl hk
    rw [look_new] at hl
    split at hl
    · rename_i e1
      rw [hd] at e1
      cases e1
      cases hl
      have hkt : k = t := by rw [new_ment h2] at hk; simpa using Eq.symm (by simpa using hk)
      subst hkt
      unfold okM at hok
      rw [hd] at hok
      have hnew : isNew s.so = true := by
        unfold newOf at h2
        split at h2 <;> first | (cases h2; simp_all [isNew]; done) | (simp_all [isNew]; done)
      simp only [hnew, if_true] at hok
      simpa using hok
    · rw [Option.map_eq_some_iff] at hl
      obtain ⟨e', he', rfl⟩ := hl
      unfold killD at hk
      split at hk
      · cases hk
      · exact hm q e' k he' hk
theorem touch_mem (hm : MInv m st) {k : Nat} (h : Touch s st k) : k ∈ slotsM m s := by
  obtain ⟨_, t, ht, d, h1, h2⟩ := h
  exact List.mem_flatMap.2 ⟨t, ht, hm t d k h1 h2⟩
theorem wrote_wr {k : Nat} (h : GOut P s st o) (hk : o.wrote = some k) : isWr s.so = true := by
  cases h with
  | wr z k' off v cs hw hso => rw [hso]; rfl
  | _ => cases hk
/-- What a step asks of another that may come up ahead of it or behind it. -/
def ApartD (P : Program) (x y : SOp) (st : St) : Prop := ∀ o, GOut P x st o → (∀ k, o.wrote = some k → ¬ Touch y st k) ∧ (isMv x.so = true → ∀ k, o.site = some k → Free y st k)
theorem apartM_spec {x y : SOp} (hm : MInv m st) (ha : apartM m x y = true) : ApartD P x y st := by
  intro ox hx
  simp only [apartM, Bool.and_eq_true] at ha
  have ha := ha.1
  refine ⟨fun k hk ht => ?_, fun hmv k hk t ht d hd => ?_⟩
  · have h1 := touch_mem hm (gout_wrote hx hk)
    have h2 := touch_mem hm ht
    have h3 := wrote_wr hx hk
    have h4 := ht.1
    simp only [isWm, h3, h4, Bool.true_or, Bool.not_true, Bool.false_or, List.all_eq_true] at ha
    have := ha k h1
    simp [h2] at this
  · rcases gout_site hx hk with ⟨h1, _⟩ | ⟨_, q, hq, e, he, hek⟩
    · rw [hmv] at h1; cases h1
    · have h1 : k ∈ slotsM m x := List.mem_flatMap.2 ⟨q, hq, hm q e k he hek⟩
      simp only [isWm, hmv, Bool.or_true, Bool.not_true, Bool.false_or, List.all_eq_true] at ha
      have := ha k h1
      cases hc : d.ment k with
      | false => rfl
      | true =>
        have h2 : k ∈ slotsM m y := List.mem_flatMap.2 ⟨t, ht, hm t d k hd hc⟩
        simp [h2] at this
theorem apartM_symm {x y : SOp} (h : apartM m x y = true) : apartM m y x = true := by
  simp only [apartM, Bool.and_eq_true] at h ⊢
  exact ⟨h.2, h.1⟩
end
end Go.Proofs.YtljcbmnkjiogmaaDoor.Sv
/-! A region that draws its order does in the model what the order of the text does. -/
namespace Go.Proofs.YtljcbmnkjiogmaaDoor.Sv
open Go Go.RowKit
set_option linter.unusedVariables false
set_option linter.unusedSimpArgs false
section
variable {P : Program} {w w0 w' : World} {U E : Nat → Prop} {nt : Nat} {st st' st2 : St} {a : Act} {η : Eta} {ok : Nat → Prop} {ops : Array Oper} {ss : List SOp} {Fin : St → Prop}
theorem nstep_eqv {s : SOp} (h : NStep P s st st') (he : Eqv st st2) : ∃ st2', NStep P s st2 st2' ∧ Eqv st' st2' := by
  obtain ⟨o, h, rfl⟩ := h
  exact ⟨_, ⟨o, gout_eqv he h, rfl⟩, app_eqv he⟩
/-- A step, or one that turns the names of objects. -/
def NStepA (P : Program) (s : SOp) (st st' : St) : Prop := NStep P s st st' ∨ (isApp s.so = true ∧ ∃ st1, Eqv st st1 ∧ GStep P s st1 st')
theorem nstepA_eqv {s : SOp} (h : NStepA P s st st') (he : Eqv st st2) : ∃ st2', NStepA P s st2 st2' ∧ Eqv st' st2' := by
  rcases h with h | ⟨h1, st1, h2, h3⟩
  · obtain ⟨st2', h1, h2⟩ := nstep_eqv h he
    exact ⟨st2', .inl h1, h2⟩
  · exact ⟨st', .inr ⟨h1, st1, he.symm.trans h2, h3⟩, .refl _⟩
/-- Whatever order is picked from here on. -/
def AnyS (P : Program) (ops : Array Oper) (ss : List SOp) (Fin : St → Prop) : Nat → Array Bool → St → Prop
  | 0, listed, st => Region.ready .any ops listed = [] ∧ Fin st
  | fuel + 1, listed, st => (Region.ready .any ops listed = [] → Fin st) ∧
      ∀ i ∈ Region.ready .any ops listed, ∃ s st', ss[i]? = some s ∧ NStepA P s st st' ∧ AnyS P ops ss Fin fuel (listed.setIfInBounds i true) st'
theorem AnyS.eqv (hf : ∀ st st', Eqv st st' → Fin st → Fin st') : ∀ {fuel : Nat} {listed : Array Bool} {st st' : St}, AnyS P ops ss Fin fuel listed st → Eqv st st' → AnyS P ops ss Fin fuel listed st'
  | 0, listed, st, st', h, he => ⟨h.1, hf _ _ he h.2⟩
  | fuel + 1, listed, st, st', h, he => ⟨fun h0 => hf _ _ he (h.1 h0), fun i hi => by
      obtain ⟨s, st1, h1, h2, h3⟩ := h.2 i hi
      obtain ⟨st2, h4, h5⟩ := nstepA_eqv h2 he
      exact ⟨s, st2, h1, h4, AnyS.eqv hf h3 h5⟩⟩
theorem AnyS.sound {ad : Ad} {Q : Exit → Act → World → Prop} {D : Nat → Prop} {a0 : Act} (hss : ∀ (i : Nat) o, ops[i]? = some o → ∃ s s0, ss[i]? = some s ∧ cSOp P nt ad ops o = some s0 ∧ ∀ st st', GStep P s st st' → GStep P s0 st st')
    (hfin : ∀ st a w, Fin st → RelX w0 U E nt st a w → Frm D a0 a → Q .normal a w) (hD : ∀ (i : Nat) o, ops[i]? = some o → ∀ t, o.dst = some t → D t) :
    ∀ (fuel : Nat) (listed : Array Bool) (st : St) (a : Act) (w : World), AnyS P ops ss Fin fuel listed st → RelX w0 U E nt st a w → Frm D a0 a → wpAny P .any ops Q fuel listed a w
  | 0, listed, st, a, w, h, hr, hf => ⟨h.1, hfin _ _ _ h.2 hr hf⟩
  | fuel + 1, listed, st, a, w, h, hr, hf => ⟨fun h0 => hfin _ _ _ (h.1 h0) hr hf, fun i hi => by
      obtain ⟨s, st', h1, h2, h3⟩ := h.2 i hi
      obtain ⟨_, o, ho, _⟩ := mem_ready.1 hi
      obtain ⟨s', s0, h4, h5, h6⟩ := hss i o ho
      rw [h1] at h4
      cases h4
      unfold wpOp
      simp only [ho]
      rcases h2 with h2 | ⟨_, st1, he, h2⟩
      · exact gstep_sound (Q := Q) hr h5 (h6 _ _ (n_gstep h2)) fun u w' hr' => AnyS.sound hss hfin hD fuel _ st' _ w' h3 hr' (hf.put (hD i o ho))
      · exact gstep_sound (Q := Q) (hr.eqv he) h5 (h6 _ _ h2) fun u w' hr' => AnyS.sound hss hfin hD fuel _ st' _ w' h3 hr' (hf.put (hD i o ho))⟩
/-- No slot names an object that an operation yet to come makes. -/
def CleanFor (ss : List SOp) (listed : Array Bool) (st : St) : Prop :=
  ∀ (i : Nat) s t, listed.getD i true = false → ss[i]? = some s → isNew s.so = true → s.dst = some t → ∀ k d, look st.ρ k = some d → d.ment t = false
/-- New objects bear names of their own. -/
def distNew (ss : List SOp) : Prop := ∀ (i j : Nat) s s' t, ss[i]? = some s → ss[j]? = some s' → isNew s.so = true → isNew s'.so = true → s.dst = some t → s'.dst = some t → i = j
theorem gout_new {s : SOp} {o : Out} {t : Nat} (h : GOut P s st o) (hs : o.site = some t) (hm : isMv s.so = false) : isNew s.so = true := by
  cases h with
  | new t ds cs d hw hd h1 h2 =>
    unfold newOf at h2
    split at h2 <;> first | (cases h2; simp_all [isNew]; done) | (simp_all [isNew]; done)
  | newN f ds vs t z n cs hw hf hd => rw [hf]; rfl
  | mvA z bytes k off ln m t x cs ys hw hso => rw [hso] at hm; cases hm
  | mvV f pre post k z n m cs cs' hw hso => rw [hso] at hm; cases hm
  | _ => cases hs
theorem gout_newdst {s : SOp} {o : Out} {t : Nat} (h : GOut P s st o) (hs : o.site = some t) (hm : isMv s.so = false) : s.dst = some t := by
  rcases gout_site h hs with ⟨_, h⟩ | ⟨h, _⟩
  · exact h
  · rw [hm] at h; cases h
theorem CleanFor.app {listed : Array Bool} {i : Nat} {s : SOp} {o : Out} (hc : CleanFor ss listed st) (hd : distNew ss) (hi : ss[i]? = some s) (hg : GOut P s st o) : CleanFor ss (listed.setIfInBounds i true) (o.app s.dst st) := by
  intro j s' t hj hs' hn ht k d hk
  have hji : i ≠ j := fun e => by
    subst e
    rcases Nat.lt_or_ge i listed.size with h | h
    · simp [h] at hj
    · simp [Array.getElem?_eq_none h] at hj
  have hj' : listed.getD j true = false := by rw [getD_set_ne true hji] at hj; exact hj
  have hold := hc j s' t hj' hs' hn ht
  cases o with
  | val e =>
    rw [look_val] at hk
    split at hk
    · cases hk
      exact gout_clean (fun t' _ d' hd' => hold t' d' hd') hg
    · exact hold k d hk
  | new k' cs e =>
    rw [look_new] at hk
    split at hk
    · cases hk
      refine site_ment hg fun e => ?_
      subst e
      rcases gout_site hg rfl with ⟨h1, h2⟩ | ⟨_, q, _, e', he', hm'⟩
      · exact hji (hd i j s s' k' hi hs' (gout_new hg rfl h1) hn h2 ht)
      · rw [hold q e' he'] at hm'; cases hm'
    · rw [Option.map_eq_some_iff] at hk
      obtain ⟨e', he', rfl⟩ := hk
      unfold killD
      split
      · rfl
      · exact hold k e' he'
  | wr k' off xs => rw [look_wr] at hk; exact hold k d hk
/-- j comes up behind i in whatever order. -/
inductive After (ops : Array Oper) : Nat → Nat → Prop
  | one {j : Nat} {o : Oper} (ho : ops[j]? = some o) {e : Edge} (he : e ∈ o.after) (hb : Region.binds .any e = true) : After ops j e.on
  | trans {j k i : Nat} (h : After ops j k) (h' : After ops k i) : After ops j i
def Closed (ops : Array Oper) (listed : Array Bool) : Prop := ∀ (k : Nat) o, listed.getD k false = true → ops[k]? = some o → ∀ e ∈ o.after, Region.binds .any e = true → listed.getD e.on false = true
theorem Closed.after {listed : Array Bool} (hc : Closed ops listed) {j i : Nat} (h : After ops j i) : listed.getD j false = true → listed.getD i false = true := by
  induction h with
  | one ho he hb => intro hj; exact hc _ _ hj ho _ he hb
  | trans h h' ih ih' => intro hj; exact ih' (ih hj)
theorem Closed.ready {listed : Array Bool} (hc : Closed ops listed) {j i : Nat} (hj : j ∈ Region.ready .any ops listed) (h : After ops j i) : listed.getD i false = true := by
  have : ∀ {j i : Nat}, After ops j i → (∃ o, ops[j]? = some o ∧ ∀ e ∈ o.after, Region.binds .any e = true → listed.getD e.on false = true) → listed.getD i false = true := by
    intro j i h
    induction h with
    | one ho he hb => rintro ⟨o', ho', hall⟩; rw [ho] at ho'; cases ho'; exact hall _ he hb
    | trans h h' ih ih' => intro hr; exact hc.after h' (ih hr)
  obtain ⟨_, o, ho, hall⟩ := mem_ready.1 hj
  exact this h ⟨o, ho, fun e he hb => by simpa using hall e he hb⟩
theorem Closed.set {listed : Array Bool} (hc : Closed ops listed) {j : Nat} (hj : j ∈ Region.ready .any ops listed) : Closed ops (listed.setIfInBounds j true) := by
  intro k o hk ho e he hb
  have hmono : ∀ q, listed.getD q false = true → (listed.setIfInBounds j true).getD q false = true := fun q hq => by
    by_cases e : j = q
    · subst e
      rcases Nat.lt_or_ge j listed.size with h | h
      · simp [h]
      · simp [Array.getElem?_eq_none h] at hq
    · rw [getD_set_ne false e]; exact hq
  apply hmono
  by_cases e1 : j = k
  · subst e1
    obtain ⟨_, o', ho', hall⟩ := mem_ready.1 hj
    rw [ho] at ho'
    cases ho'
    simpa using hall e he hb
  · rw [getD_set_ne false e1] at hk
    exact hc k o hk ho e he hb
/-- Others of the region that have not come up wait for number i, or don't touch it. -/
def FreeS (P : Program) (Inv : St → Prop) (ops : Array Oper) (ss : List SOp) (listed : Array Bool) (i : Nat) (s : SOp) : Prop :=
  ∀ (j : Nat) s' o, ops[j]? = some o → ss[j]? = some s' → j ≠ i → listed.getD j true = false → ¬ After ops j i →
    isApp s'.so = false ∧ apartS s s' = true ∧ ∀ st, Inv st → ApartD P s s' st ∧ ApartD P s' s st
theorem AnyS.first {Inv : St → Prop} (hinv : ∀ (i : Nat) s st o, ss[i]? = some s → Inv st → GOut P s st o → Inv (o.app s.dst st)) (hf : ∀ st st', Eqv st st' → Fin st → Fin st') (hss : ∀ (i : Nat) o, ops[i]? = some o → ∃ s, ss[i]? = some s) (hd : distNew ss) {i : Nat} {s : SOp} {o : Out} (hi : ss[i]? = some s) :
    ∀ (fuel : Nat) (listed : Array Bool) (st : St), FreeS P Inv ops ss listed i s → Closed ops listed → Inv st → i ∈ Region.ready .any ops listed → CleanFor ss listed st → GOut P s st o →
      AnyS P ops ss Fin fuel (listed.setIfInBounds i true) (o.app s.dst st) → AnyS P ops ss Fin (fuel + 1) listed st := by
  intro fuel
  induction fuel with
  | zero =>
    intro listed st hfree hcl hmi hr hc hg H
    refine ⟨fun h => (by rw [h] at hr; cases hr), fun j hj => ?_⟩
    by_cases hji : j = i
    · subst hji; exact ⟨s, _, hi, .inl ⟨o, hg, rfl⟩, H⟩
    · have := ready_mono hj hji
      rw [H.1] at this
      cases this
  | succ fuel ih =>
    intro listed st hfree hcl hmi hr hc hg H
    refine ⟨fun h => (by rw [h] at hr; cases hr), fun j hj => ?_⟩
    by_cases hji : j = i
    · subst hji; exact ⟨s, _, hi, .inl ⟨o, hg, rfl⟩, H⟩
    · obtain ⟨sj, st1, h1, h2, h3⟩ := H.2 j (ready_mono hj hji)
      obtain ⟨hjun, oj, hoj, hall⟩ := mem_ready.1 hj
      have hiun := (mem_ready.1 hr).1
      have hnot : ¬ After ops j i := fun ha => by
        have h1 := hcl.ready hj ha
        rcases Nat.lt_or_ge i listed.size with h' | h'
        · simp [h'] at hiun h1; rw [hiun] at h1; cases h1
        · simp [Array.getElem?_eq_none h'] at h1
      obtain ⟨hna, hap, ham⟩ := hfree j sj oj hoj h1 hji hjun hnot
      have h2 : NStep P sj (o.app s.dst st) st1 := by
        rcases h2 with h2 | ⟨h2, _⟩
        · exact h2
        · rw [hna] at h2; cases h2
      obtain ⟨oj', hgj, rfl⟩ := h2
      have hcx : ∀ t, o.site = some t → Free sj st t := fun t ht => by
        cases hmv : isMv s.so with
        | false => exact fun q _ d hd => hc i s t hiun hi (gout_new hg ht hmv) (gout_newdst hg ht hmv) q d hd
        | true => exact ((ham st hmi).1 o hg).2 hmv t ht
      have hmx := ((ham st hmi).1 o hg).1
      have hgj0 := gout_back hap hg hcx hmx hgj
      have hmy := ((ham st hmi).2 oj' hgj0).1
      have hcy : ∀ t, oj'.site = some t → Free s st t := fun t ht => by
        cases hmv : isMv sj.so with
        | false => exact fun q _ d hd => hc j sj t hjun h1 (gout_new hgj0 ht hmv) (gout_newdst hgj0 ht hmv) q d hd
        | true => exact ((ham st hmi).2 oj' hgj0).2 hmv t ht
      have hgi := gout_fore hap hg hgj0 hcy hmy
      have hcomm := gout_comm hap hg hgj0 hcx hcy hmx
      refine ⟨sj, _, h1, .inl ⟨oj', hgj0, rfl⟩, ih _ _ ?_ (hcl.set hj) (hinv j sj st oj' h1 hmi hgj0) (ready_mono hr (Ne.symm hji)) (hc.app hd h1 hgj0) hgi ?_⟩
      · intro k s' o' hk hs' hki hun hno
        refine hfree k s' o' hk hs' hki ?_ hno
        by_cases hjk : j = k
        · subst hjk; exact hjun
        · rw [getD_set_ne true hjk] at hun; exact hun
      · rw [Array.setIfInBounds_comm _ _ hji]
        exact h3.eqv hf hcomm
/-! ### The check, and the theorem -/
/-- For each operation those that must come ahead of it, as bits. -/
def foldM (acc : List Nat) (es : List Edge) (m : Nat) : Nat := es.foldl (fun m e => m ||| (1 <<< e.on) ||| acc.getD e.on 0) m
def closA : List Oper → List Nat → List Nat
  | [], acc => acc
  | o :: r, acc => closA r (acc ++ [foldM acc (o.after.toList.filter fun e => Region.binds .any e) 0])
theorem foldM_spec {acc : List Nat} : ∀ {es : List Edge} {m i : Nat}, (foldM acc es m).testBit i = true → m.testBit i = true ∨ ∃ e ∈ es, i = e.on ∨ (acc.getD e.on 0).testBit i = true
  | [], m, i, h => .inl h
  | e :: es, m, i, h => by
    rcases foldM_spec (es := es) h with h | ⟨e', h1, h2⟩
    · simp only [Nat.testBit_or, Bool.or_eq_true] at h
      rcases h with (h | h) | h
      · exact .inl h
      · refine .inr ⟨e, by simp, .inl ?_⟩
        rw [Nat.one_shiftLeft, Nat.testBit_two_pow] at h
        simpa using (of_decide_eq_true h).symm
      · exact .inr ⟨e, by simp, .inr h⟩
    · exact .inr ⟨e', by simp [h1], h2⟩
theorem closA_spec : ∀ (l : List Oper) (acc : List Nat), ops.toList.drop acc.length = l → (∀ j i, (acc.getD j 0).testBit i = true → After ops j i) → ∀ j i, ((closA l acc).getD j 0).testBit i = true → After ops j i
  | [], acc, _, h => h
  | o :: l, acc, hd, h => by
    have ho : ops[acc.length]? = some o := by
      have := congrArg (·[0]?) hd
      simpa using this
    refine closA_spec l _ (by rw [List.length_append, List.length_singleton, ← List.drop_drop, hd]; rfl) fun j i hi => ?_
    rw [List.getD_eq_getElem?_getD] at hi
    by_cases hj : j < acc.length
    · rw [List.getElem?_append_left hj] at hi
      exact h j i (by rw [List.getD_eq_getElem?_getD]; exact hi)
    · by_cases hj' : j = acc.length
      · subst hj'
        rw [List.getElem?_append_right (Nat.le_refl _), Nat.sub_self] at hi
        simp only [List.getElem?_cons_zero, Option.getD_some] at hi
        rcases foldM_spec hi with hi | ⟨e, he, hi⟩
        · simp at hi
        · simp only [List.mem_filter, Array.mem_toList_iff] at he
          obtain ⟨he, hb⟩ := he
          rcases hi with rfl | hi
          · exact .one ho he hb
          · exact .trans (.one ho he hb) (h _ _ hi)
      · rw [List.getElem?_eq_none (by simp; omega)] at hi
        simp at hi
def clos (ops : Array Oper) : List Nat := closA ops.toList []
theorem clos_spec {j i : Nat} (h : ((clos ops).getD j 0).testBit i = true) : After ops j i := closA_spec ops.toList [] rfl (fun j i h => by simp at h) j i h
/-- Pairs, one of them a store, that may come up in either order. -/
def pairsRow (wy : Bool) (c j : Nat) : Nat → List SOp → List (Nat × Nat)
  | _, [] => []
  | i, x :: xs => if Nat.ble j i then [] else if (isWm x.so || wy) && !c.testBit i then (i, j) :: pairsRow wy c j (i + 1) xs else pairsRow wy c j (i + 1) xs
def pairsAll (ss0 : List SOp) : Nat → List SOp → List Nat → List (Nat × Nat)
  | j, y :: ys, c :: cs => pairsRow (isWm y.so) c j 0 ss0 ++ pairsAll ss0 (j + 1) ys cs
  | _, _, _ => []
def pairsOf (ss : List SOp) (cl : List Nat) : List (Nat × Nat) := pairsAll ss 0 ss cl
def freeB (ops : Array Oper) (ss : List SOp) (cl : List Nat) (prs : List (Nat × Nat)) (listed : Array Bool) (i : Nat) (s : SOp) : Bool :=
  (List.range ops.size).all fun j => j == i || listed.getD j true || (cl.getD j 0).testBit i || match ss[j]? with
    | some s' => !isApp s'.so && apartS s s' && ((!isWm s.so && !isWm s'.so) || prs.contains (i, j))
    | none => true
/-- From number k on each operation waits for the one before. -/
def chainD (ops : Array Oper) : Nat → Nat → Array Bool → Bool
  | 0, _, listed => (Region.ready .any ops listed).isEmpty
  | n + 1, k, listed => (Region.ready .any ops listed == [k]) && chainD ops n (k + 1) (listed.setIfInBounds k true)
def lexD (ops : Array Oper) (ss : List SOp) (cl : List Nat) (prs : List (Nat × Nat)) : Nat → Nat → Array Bool → Bool
  | 0, _, listed => (Region.ready .any ops listed).isEmpty
  | n + 1, k, listed => ((Region.ready .any ops listed).contains k && (match ss[k]? with | some s => freeB ops ss cl prs listed k s && !isApp s.so | none => false) && lexD ops ss cl prs n (k + 1) (listed.setIfInBounds k true)) || chainD ops (n + 1) k listed
/-- The same check where no number waits for one behind it, without a list of what has come up. -/
def freeF (prs : List (Nat × Nat)) (k : Nat) (s : SOp) : Nat → List SOp → List Nat → Bool
  | j, s' :: ss, c :: cl => (c.testBit k || (!isApp s'.so && apartS s s' && ((!isWm s.so && !isWm s'.so) || prs.contains (k, j)))) && freeF prs k s (j + 1) ss cl
  | _, [], _ => true
  | _, _ :: _, [] => false
def lexF (prs : List (Nat × Nat)) : Nat → List Oper → List SOp → List Nat → Bool
  | _, [], [], _ => true
  | k, o :: os, s :: ss, _ :: cl => o.after.toList.all (fun e => !Region.binds .any e || Nat.blt e.on k) && !isApp s.so && freeF prs k s (k + 1) ss cl && lexF prs (k + 1) os ss cl
  | _, _, _, _ => false
theorem freeF_spec {prs : List (Nat × Nat)} {k : Nat} {s : SOp} : ∀ {ss : List SOp} {cl : List Nat} {j : Nat}, freeF prs k s j ss cl = true → ∀ (i : Nat) s', ss[i]? = some s' →
    ∃ c, cl[i]? = some c ∧ (c.testBit k || (!isApp s'.so && apartS s s' && ((!isWm s.so && !isWm s'.so) || prs.contains (k, j + i)))) = true
  | [], _, _, _, i, s', h => by simp at h
  | x :: ss, [], _, h, _, _, _ => by simp [freeF] at h
  | x :: ss, c :: cl, j, h, i, s', hi => by
    simp only [freeF, Bool.and_eq_true] at h
    cases i with
    | zero =>
      simp only [List.getElem?_cons_zero, Option.some.injEq] at hi
      subst hi
      exact ⟨c, rfl, h.1⟩
    | succ i =>
      obtain ⟨c', h1, h2⟩ := freeF_spec h.2 i s' (by simpa using hi)
      exact ⟨c', by simpa using h1, by rw [show j + (i + 1) = j + 1 + i by omega]; exact h2⟩
theorem lexF_D {ops : Array Oper} {ss : List SOp} {cl : List Nat} {prs : List (Nat × Nat)} : ∀ (os : List Oper) (sl : List SOp) (cs : List Nat) (k : Nat) (listed : Array Bool), (∀ j, os[j]? = ops[k + j]?) → (∀ j, sl[j]? = ss[k + j]?) → (∀ j, cs[j]? = cl[k + j]?) →
    (∀ j, listed.getD j true = !(decide (k ≤ j) && decide (j < ops.size))) → (∀ j, listed.getD j false = (decide (j < k) && decide (j < ops.size))) → listed.size = ops.size → lexF prs k os sl cs = true → lexD ops ss cl prs os.length k listed = true
  | [], sl, cs, k, listed, h1, _, _, h4, _, _, _ => by
    have hk : ops.size ≤ k := by
      have := h1 0
      simp only [List.getElem?_nil, Nat.add_zero] at this
      exact Array.getElem?_eq_none_iff.1 this.symm
    simp only [List.length_nil, lexD, List.isEmpty_iff]
    refine List.eq_nil_iff_forall_not_mem.2 fun j hj => ?_
    obtain ⟨hun, _⟩ := mem_ready.1 hj
    rw [h4 j] at hun
    simp only [Bool.not_eq_false', Bool.and_eq_true, decide_eq_true_eq] at hun
    omega
  | o :: os, sl, cs, k, listed, h1, h2, h3, h4, h5, h6, h => by
    have hok : ops[k]? = some o := by simpa using (h1 0).symm
    have hlt := (Array.getElem?_eq_some_iff.1 hok).1
    cases sl with
    | nil => simp [lexF] at h
    | cons s sl =>
    cases cs with
    | nil => simp [lexF] at h
    | cons c cs =>
    have hsk : ss[k]? = some s := by simpa using (h2 0).symm
    simp only [lexF, Bool.and_eq_true, Bool.not_eq_true'] at h
    obtain ⟨⟨⟨g1, g2⟩, g3⟩, g4⟩ := h
    have ih := lexF_D os sl cs (k + 1) (listed.setIfInBounds k true) (fun j => by have := h1 (j + 1); simpa [Nat.add_assoc, Nat.add_comm 1 j] using this) (fun j => by have := h2 (j + 1); simpa [Nat.add_assoc, Nat.add_comm 1 j] using this)
      (fun j => by have := h3 (j + 1); simpa [Nat.add_assoc, Nat.add_comm 1 j] using this) (fun j => by
        by_cases e : k = j
        · subst e
          rw [Array.getD_eq_getD_getElem?, Array.getElem?_setIfInBounds_self]
          simp [h6, hlt]
        · rw [getD_set_ne true e, h4 j]
          congr 2
          exact decide_eq_decide.2 (by omega)) (fun j => by
        by_cases e : k = j
        · subst e
          rw [Array.getD_eq_getD_getElem?, Array.getElem?_setIfInBounds_self]
          simp [h6, hlt]
        · rw [getD_set_ne false e, h5 j]
          congr 1
          exact decide_eq_decide.2 (by omega)) (by simp [h6]) g4
    simp only [List.length_cons, lexD, hsk, Bool.or_eq_true, Bool.and_eq_true]
    refine .inl ⟨⟨?_, ?_, by simp [g2]⟩, ih⟩
    · simp only [List.contains_eq_mem, decide_eq_true_eq]
      refine mem_ready.2 ⟨by rw [h4 k]; simp [hlt], o, hok, fun e he hb => ?_⟩
      have := List.all_eq_true.1 g1 e (Array.mem_toList_iff.2 he)
      rw [hb] at this
      have hlk : e.on < k := by rw [← Nat.blt_eq]; simpa using this
      rw [h5]
      simp; omega
    · unfold freeB
      refine List.all_eq_true.2 fun j hj => ?_
      have hjs := List.mem_range.1 hj
      by_cases e1 : j < k
      · rw [h4 j]
        simp; omega
      · by_cases e2 : j = k
        · simp [e2]
        · obtain ⟨i, rfl⟩ : ∃ i, j = k + 1 + i := ⟨j - (k + 1), by omega⟩
          cases hs' : ss[k + 1 + i]? with
          | none => simp
          | some s' =>
            have hi : sl[i]? = some s' := by have := h2 (i + 1); rw [show k + (i + 1) = k + 1 + i by omega, hs'] at this; simpa using this
            obtain ⟨c', hc1, hc2⟩ := freeF_spec g3 i s' hi
            have hcl : cl.getD (k + 1 + i) 0 = c' := by
              have := h3 (i + 1)
              rw [show k + (i + 1) = k + 1 + i by omega] at this
              rw [List.getD_eq_getElem?_getD, ← this]
              simp [hc1]
            rw [hcl]
            simp only [Bool.or_eq_true] at hc2 ⊢
            rcases hc2 with hc2 | hc2
            · exact .inl (.inr hc2)
            · exact .inr hc2
def lexB (ops : Array Oper) (ss : List SOp) (cl : List Nat) (prs : List (Nat × Nat)) : Bool := lexF prs 0 ops.toList ss cl || lexD ops ss cl prs ops.size 0 (Array.replicate ops.size false)
theorem lexB_D {ops : Array Oper} {ss : List SOp} {cl : List Nat} {prs : List (Nat × Nat)} (hlen : ss.length = ops.size) (h : lexB ops ss cl prs = true) : lexD ops ss cl prs ops.size 0 (Array.replicate ops.size false) = true := by
  simp only [lexB, Bool.or_eq_true] at h
  rcases h with h | h
  · have := lexF_D (ops := ops) (ss := ss) (cl := cl) (prs := prs) ops.toList ss cl 0 (Array.replicate ops.size false) (fun j => by simp) (fun j => by simp) (fun j => by simp) (fun j => by
      rw [Array.getD_eq_getD_getElem?, Array.getElem?_replicate]
      split <;> simp_all) (fun j => by
      rw [Array.getD_eq_getD_getElem?, Array.getElem?_replicate]
      split <;> simp) (by simp) h
    simpa using this
  · exact h
theorem tabM_sub : ∀ (l : List SOp) {m : List (Nat × List Nat)} {t k : Nat}, k ∈ mOf m t → k ∈ mOf (tabM l m) t
  | [], _, _, _, h => h
  | s :: l, m, t, k, h => by
    unfold tabM
    refine tabM_sub l ?_
    have cons : ∀ x, k ∈ mOf (x :: m) t := fun x => by
      unfold mOf at h ⊢
      rw [List.filter_cons]
      split
      · rw [List.flatMap_cons]; exact List.mem_append_right _ h
      · exact h
    split
    · exact h
    · split
      · exact cons _
      · split
        · exact cons _
        · exact h
theorem entryM_inv (st : St) (l : List SOp) : MInv (tabM l (entryM st.ρ)) st := by
  intro t d k hl hk
  refine tabM_sub l ?_
  unfold entryM
  generalize st.ρ = ρ at hl
  induction ρ with
  | nil => cases hl
  | cons x ρ ih =>
    obtain ⟨q, e⟩ := x
    simp only [look] at hl
    unfold mOf
    rw [List.map_cons, List.filter_cons]
    split at hl
    · rename_i hq
      cases hl
      subst hq
      simp only [beq_self_eq_true, if_true, List.flatMap_cons]
      refine List.mem_append_left _ ?_
      cases d <;> simp [D.ment] at hk <;> simp [sitesD, hk]
    · have := ih hl
      unfold mOf at this
      split
      · rw [List.flatMap_cons]; exact List.mem_append_right _ this
      · exact this
theorem freeB_spec {Inv : St → Prop} {cl : List Nat} {prs : List (Nat × Nat)} (hcl : ∀ j i, (cl.getD j 0).testBit i = true → After ops j i)
    (hpr : ∀ i j x y, (i, j) ∈ prs → ss[i]? = some x → ss[j]? = some y → ∀ st, Inv st → ApartD P x y st ∧ ApartD P y x st)
    {listed : Array Bool} {i : Nat} {s : SOp} (hi : ss[i]? = some s) (h : freeB ops ss cl prs listed i s = true) : FreeS P Inv ops ss listed i s := by
  intro j s' o hj hs' hne hun hno
  simp only [freeB, List.all_eq_true, List.mem_range] at h
  have h1 := h j (Array.getElem?_eq_some_iff.1 hj).1
  have hnc : (cl.getD j 0).testBit i = false := by
    cases hc : (cl.getD j 0).testBit i with
    | false => rfl
    | true => exact absurd (hcl j i hc) hno
  simp only [hs', Bool.or_eq_true, beq_iff_eq, hne, false_or, hun, Bool.false_eq_true, hnc, Bool.and_eq_true, Bool.not_eq_true'] at h1
  refine ⟨h1.1.1, h1.1.2, fun st hst => ?_⟩
  rcases h1.2 with h2 | h2
  · simp only [isWm, Bool.or_eq_false_iff] at h2
    exact ⟨fun o hg => ⟨fun k hk => (by have := wrote_wr hg hk; rw [h2.1.1] at this; cases this), fun hm => (by rw [h2.1.2] at hm; cases hm)⟩, fun o hg => ⟨fun k hk => (by have := wrote_wr hg hk; rw [h2.2.1] at this; cases this), fun hm => (by rw [h2.2.2] at hm; cases hm)⟩⟩
  · exact hpr i j s s' (by simpa using h2) hi hs' st hst
def newSites (ss : List SOp) : List (Option Nat) := ss.map fun s => if isNew s.so then s.dst else none
def distB : List (Option Nat) → Bool
  | [] => true
  | some t :: l => !l.contains (some t) && distB l
  | none :: l => distB l
theorem distB_spec : ∀ {l : List (Option Nat)}, distB l = true → ∀ (i j : Nat) t, l[i]? = some (some t) → l[j]? = some (some t) → i = j
  | [], _, i, j, t, h, _ => by simp at h
  | x :: l, h, i, j, t, hi, hj => by
    have hl : distB l = true := by
      cases x with
      | none => exact h
      | some y => simp only [distB, Bool.and_eq_true] at h; exact h.2
    have hx : ∀ k, l[k]? = some (some t) → x ≠ some t := fun k hk e => by
      subst e
      simp only [distB, Bool.and_eq_true, Bool.not_eq_true'] at h
      have := List.mem_of_getElem? hk
      simp [this] at h
    cases i with
    | zero =>
      cases j with
      | zero => rfl
      | succ j => simp at hi hj; exact absurd hi (hx j hj)
    | succ i =>
      cases j with
      | zero => simp at hi hj; exact absurd hj (hx i hi)
      | succ j => simp at hi hj; rw [distB_spec hl i j t hi hj]
theorem distNew_of (h : distB (newSites ss) = true) : distNew ss := by
  intro i j s s' t hi hj hn hn' ht ht'
  refine distB_spec h i j t ?_ ?_
  · simp [newSites, hi, hn, ht]
  · simp [newSites, hj, hn', ht']
theorem AnyS.chain (hf : ∀ st st', Eqv st st' → Fin st → Fin st') : ∀ (l : List SOp) (k : Nat) (listed : Array Bool) (st : St), (∀ (j : Nat), l[j]? = ss[k + j]?) → chainD ops l.length k listed = true → ∀ kn, opsWP P true kn l Fin st → AnyS P ops ss Fin l.length listed st
  | [], k, listed, st, _, hB, kn, h => ⟨by simpa [chainD] using hB, h⟩
  | s :: l, k, listed, st, hl, hB, kn, h => by
    have h0 : ss[k]? = some s := by simpa using (hl 0).symm
    simp only [List.length_cons, chainD, Bool.and_eq_true, beq_iff_eq] at hB
    obtain ⟨hr, hB'⟩ := hB
    have hl' : ∀ (j : Nat), l[j]? = ss[k + 1 + j]? := fun j => by have := hl (j + 1); simpa [Nat.add_assoc, Nat.add_comm 1 j] using this
    refine ⟨fun h => (by rw [hr] at h; cases h), fun i hi => ?_⟩
    rw [hr] at hi
    obtain rfl : i = k := by simpa using hi
    obtain ⟨st1, st', he, h1, h2⟩ := wp_gstep h
    have ih := AnyS.chain hf l (i + 1) _ st' hl' hB' _ h2
    cases ha : isApp s.so with
    | true => exact ⟨s, st', h0, .inr ⟨ha, st1, he, h1⟩, ih⟩
    | false =>
      obtain ⟨st2, h3, h4⟩ := nstep_eqv (gstep_n ha h1) he.symm
      exact ⟨s, st2, h0, .inl h3, ih.eqv hf h4⟩
theorem AnyS.lex {Inv : St → Prop} {cl : List Nat} {prs : List (Nat × Nat)} (hcl : ∀ j i, (cl.getD j 0).testBit i = true → After ops j i)
    (hpr : ∀ i j x y, (i, j) ∈ prs → ss[i]? = some x → ss[j]? = some y → ∀ st, Inv st → ApartD P x y st ∧ ApartD P y x st)
    (hinv : ∀ (i : Nat) s st o, ss[i]? = some s → Inv st → GOut P s st o → Inv (o.app s.dst st)) (hieq : ∀ st st', Eqv st st' → Inv st → Inv st')
    (hf : ∀ st st', Eqv st st' → Fin st → Fin st') (hss : ∀ (i : Nat) o, ops[i]? = some o → ∃ s, ss[i]? = some s) (hd : distNew ss) : ∀ (l : List SOp) (k : Nat) (listed : Array Bool) (st : St), (∀ (j : Nat), l[j]? = ss[k + j]?) →
    lexD ops ss cl prs l.length k listed = true → CleanFor ss listed st → Closed ops listed → Inv st → ∀ kn, opsWP P true kn l Fin st → AnyS P ops ss Fin l.length listed st
  | [], k, listed, st, _, hB, _, _, _, kn, h => ⟨by simpa [lexD] using hB, h⟩
  | s :: l, k, listed, st0, hl, hB, hc0, hcd, hi0, kn, h => by
    have h0 : ss[k]? = some s := by simpa using (hl 0).symm
    simp only [List.length_cons, lexD, h0, Bool.or_eq_true] at hB
    rcases hB with hB | hB
    case inr => exact AnyS.chain hf (s :: l) k listed st0 hl hB kn h
    simp only [Bool.and_eq_true, Bool.not_eq_true'] at hB
    obtain ⟨⟨hr, hfree, happ⟩, hB'⟩ := hB
    obtain ⟨st, st', h0', h1, h2⟩ := wp_gstep h
    refine AnyS.eqv hf ?_ h0'.symm
    have hc : CleanFor ss listed st := fun i s t h1 h2 h3 h4 k d hk => hc0 i s t h1 h2 h3 h4 k d (by rw [h0'.1]; exact hk)
    have hi := hieq _ _ h0' hi0
    obtain ⟨o, hg, rfl⟩ := gstep_n happ h1
    have hr' : k ∈ Region.ready .any ops listed := by simpa using hr
    have hl' : ∀ (j : Nat), l[j]? = ss[k + 1 + j]? := fun j => by have := hl (j + 1); simpa [Nat.add_assoc, Nat.add_comm 1 j] using this
    exact AnyS.first hinv hf hss hd h0 l.length listed st (freeB_spec hcl hpr h0 hfree) hcd hi hr' hc hg
      (AnyS.lex hcl hpr hinv hieq hf hss hd l (k + 1) _ _ hl' hB' (hc.app hd h0 hg) (hcd.set hr') (hinv k s st o h0 hi hg) _ h2)
/-- The invariant that the check gives. -/
theorem AnyS.checked {prs : List (Nat × Nat)} (hf : ∀ st st', Eqv st st' → Fin st → Fin st') (hss : ∀ (i : Nat) o, ops[i]? = some o → ∃ s, ss[i]? = some s) (hd : distNew ss) {st : St} {listed : Array Bool}
    (hB : lexD ops ss (clos ops) prs ss.length 0 listed = true) (hc : CleanFor ss listed st) (hcd : Closed ops listed) (hk : drawChk st ss prs = true) (h : opsWP P true [] ss Fin st) : AnyS P ops ss Fin ss.length listed st := by
  have hcl : ∀ j i, ((clos ops).getD j 0).testBit i = true → After ops j i := fun j i h => clos_spec h
  cases hp : prs with
  | nil =>
    subst hp
    exact AnyS.lex (Inv := fun _ => True) hcl (fun i j x y h => by cases h) (fun _ _ _ _ _ _ _ => trivial) (fun _ _ _ _ => trivial) hf hss hd ss 0 listed st (by simp) hB hc hcd trivial [] h
  | cons p ps =>
    have hk' : chkM (tabM ss (entryM st.ρ)) ss prs = true := by rw [hp] at hk ⊢; exact hk
    simp only [chkM, Bool.and_eq_true, List.all_eq_true] at hk'
    refine AnyS.lex (Inv := MInv (tabM ss (entryM st.ρ))) hcl (fun i j x y hij hx hy st1 hst => ?_) (fun i s st1 o hi hst hg => hst.app (hk'.1 s (List.mem_of_getElem? hi)) hg)
      (fun st1 st2 he hst t d k hl hk => hst t d k (by rw [he.1]; exact hl) hk) hf hss hd ss 0 listed st (by simp) hB hc hcd (entryM_inv st ss) [] h
    have := hk'.2 (i, j) hij
    simp only [hx, hy] at this
    exact ⟨apartM_spec hst this, apartM_spec hst (apartM_symm this)⟩
end
end Go.Proofs.YtljcbmnkjiogmaaDoor.Sv
/-! The program's code, put for what it does; and what a function's body must show so that its calls are known. -/
namespace Go.Proofs.YtljcbmnkjiogmaaDoor.Sv
open Go Go.RowKit
set_option linter.unusedVariables false
set_option linter.unusedSimpArgs false

/-- In a region that draws its order an append is one onto a value by itself. -/
def SOp.toD (s : SOp) : SOp := match s.so with
  | .app z b => ⟨s.dst, s.guard, .appv z b, s.args⟩
  | _ => s
/-- Or onto a row of one's own, wherever it comes up. -/
def SOp.toO (s : SOp) : SOp := match s.so with
  | .app z b => ⟨s.dst, s.guard, .appo z b, s.args⟩
  | _ => s
def drawOk (P : Program) (ops : Array Oper) (ss : List SOp) : Bool :=
  P.follows .mixedOrders && Region.noSelect ops && ss.length == ops.size && lexB ops ss (clos ops) (pairsOf ss (clos ops)) && distB (newSites ss)
/-- One region. -/
def compR (P : Program) (ad : Ad) (nt : Nat) (ops : Array Oper) (draw : Bool) (live : List Nat) : Option SC :=
  (allSome (ops.toList.map (cSOp P nt (ad.at draw) ops))).bind fun ss =>
      if draw then (if ad.d && drawOk P ops ss then some (.dreg ss (pairsOf ss (clos ops)) live) else if ad.d && drawOk P ops (ss.map SOp.toO) then some (.dreg (ss.map SOp.toO) (pairsOf (ss.map SOp.toO) (clos ops)) live) else if drawOk P ops (ss.map SOp.toD) then some (.dreg (ss.map SOp.toD) (pairsOf (ss.map SOp.toD) (clos ops)) live) else some .bad) else some (.reg ss live)
def dstsOf (ops : Array Oper) : List Nat := ops.toList.filterMap (·.dst)
/-- hs: for each region and loop in the order of the text the slots that are wanted later; [0, 0] ahead of two regions: what they make beside flat values is forgotten behind them, and what was there may be written again. -/
def compile (P : Program) (ad : Ad) (nt : Nat) : Code → List (List Nat) → Option (SC × List (List Nat))
  | .skip, hs => some (.skip, hs)
  | .ret, hs => some (.ret, hs)
  | .exit id, hs => some (.exit id, hs)
  | .region _ ops draw, live :: hs => (compR P ad nt ops draw live).map fun x => (x, hs)
  | .region _ _ _, [] => none
  | .loop _, [] => none
  | .seq (.region _ ops1 d1) (.seq (.region _ ops2 d2) z), [0, 0] :: l1 :: l2 :: hs => (compR P ad nt ops1 d1 l1).bind fun x => (compR P ad nt ops2 d2 l2).bind fun y => (compile P ad nt z hs).map fun (z', hs) => (.seq (.thaw (dstsOf ops1 ++ dstsOf ops2) (.seq x y)) z', hs)
  | .seq x y, hs => (compile P ad nt x hs).bind fun (x', hs) => (compile P ad nt y hs).map fun (y', hs) => (.seq x' y', hs)
  | .cond c x y, hs => (cOpd c).bind fun c' => (compile P ad nt x hs).bind fun (x', hs) => (compile P ad nt y hs).map fun (y', hs) => (.cond c' x' y', hs)
  | .block id x, hs => (compile P ad nt x hs).map fun (x', hs) => (.block id x', hs)
  | .loop x, live :: hs => (compile P ad nt x hs).map fun (x', hs) => (.loop live x', hs)
  | _, hs => some (.bad, hs)
section
variable {P : Program} {w w0 w' : World} {U E : Nat → Prop} {nt : Nat} {st st' : St} {a : Act} {η : Eta} {ok : Nat → Prop}
theorem toD_gstep {s : SOp} (h : GStep P s.toD st st') : GStep P s st st' := by
  obtain ⟨dst, guard, so, args⟩ := s
  cases so
  case app z b =>
    cases h with
    | no g want hg h => exact .no g want hg h
    | yes _ h hg =>
      refine .yes _ ?_ hg
      cases h with
      | rd ds d h1 h2 => exact .rd ds d h1 h2
      | ef ds _ h1 h2 => simp [SOp.toD, SO.ef] at h2
      | call f ds vs r hf => simp [SOp.toD] at hf
      | callD f first cap ds vs r hf => simp [SOp.toD] at hf
      | callM f pre post d s0 cs cs' r hf => simp [SOp.toD] at hf
      | callV f pre post s0 z n m cs cs' hf => simp [SOp.toD] at hf
      | callN f ds vs t z n cs hf => simp [SOp.toD] at hf
  all_goals exact h
theorem toO_gstep {s : SOp} (h : GStep P s.toO st st') : GStep P s st st' := by
  obtain ⟨dst, guard, so, args⟩ := s
  cases so
  case app z b =>
    cases h with
    | no g want hg h => exact .no g want hg h
    | yes _ h hg =>
      refine .yes _ ?_ hg
      cases h with
      | rd ds d h1 h2 => simp [SOp.toO, SO.rdx, SO.rd] at h2
      | ef ds _ h1 h2 =>
        refine .ef ds _ h1 ?_
        simp only [SOp.toO] at h2 ⊢
        unfold SO.ef at h2
        split at h2 <;> first | (rename_i e; cases e; exact h2) | (simp at h2; done) | (rename_i e _; cases e; done) | (rename_i e; cases e; done)
      | call f ds vs r hf => simp [SOp.toO] at hf
      | callD f first cap ds vs r hf => simp [SOp.toO] at hf
      | callM f pre post d s0 cs cs' r hf => simp [SOp.toO] at hf
      | callV f pre post s0 z n m cs cs' hf => simp [SOp.toO] at hf
      | callN f ds vs t z n cs hf => simp [SOp.toO] at hf
  all_goals exact h
theorem allSome_get {α : Type} : ∀ {l : List (Option α)} {r : List α}, allSome l = some r → r.length = l.length ∧ ∀ (i : Nat) x, l[i]? = some x → ∃ y, x = some y ∧ r[i]? = some y
  | [], r, h => by cases h; simp
  | none :: l, r, h => by cases h
  | some x :: l, r, h => by
    simp only [allSome, Option.map_eq_some_iff] at h
    obtain ⟨r', h1, rfl⟩ := h
    obtain ⟨h2, h3⟩ := allSome_get h1
    refine ⟨by simp [h2], fun i y hy => ?_⟩
    cases i with
    | zero => simp at hy; subst hy; exact ⟨x, rfl, rfl⟩
    | succ i => simp at hy; simpa using h3 i y (by simpa using hy)
theorem clean_none (ss : List Nat) : ∀ (ρ : List (Nat × D)) (t : Nat), t ∈ ss → ∀ k d, look (ss.foldl (fun ρ s => killR s ρ) ρ) k = some d → d.ment t = false := by
  have keep : ∀ (ss : List Nat) (ρ : List (Nat × D)) (t : Nat), (∀ k d, look ρ k = some d → d.ment t = false) → ∀ k d, look (ss.foldl (fun ρ s => killR s ρ) ρ) k = some d → d.ment t = false := by
    intro ss
    induction ss with
    | nil => intro ρ t h; exact h
    | cons s ss ih =>
      intro ρ t h
      refine ih (killR s ρ) t fun k d hk => ?_
      rw [look_killR, Option.map_eq_some_iff] at hk
      obtain ⟨e, he, rfl⟩ := hk
      unfold killD
      split
      · rfl
      · exact h k e he
  induction ss with
  | nil => intro ρ t ht; cases ht
  | cons s ss ih =>
    intro ρ t ht k d hk
    rcases List.mem_cons.1 ht with rfl | ht
    · refine keep ss (killR t ρ) t (fun k d hk => ?_) k d hk
      rw [look_killR, Option.map_eq_some_iff] at hk
      obtain ⟨e, he, rfl⟩ := hk
      unfold killD
      split
      · rfl
      · rename_i hm; simpa using hm
    · exact ih _ t ht k d hk
/-- What the model is asked behind a piece of code that sets slots of D alone. -/
def liftF (w0 : World) (U E : Nat → Prop) (nt : Nat) (D : Nat → Prop) (a0 : Act) (Q : Exit → St → Prop) : Exit → Act → World → Prop := fun e a w => (∃ st, RelX w0 U E nt st a w ∧ Q e st) ∧ Frm D a0 a
theorem compR_sound {ad : Ad} {id : Nat} {ops : Array Oper} {draw : Bool} {live : List Nat} {sc : SC} {Q : Exit → St → Prop} {D : Nat → Prop} {a0 : Act} (hc : compR P ad nt ops draw live = some sc) (h : sc.wp P Q st) (hr : RelX w0 U E nt st a w)
    (hD : ∀ o ∈ ops.toList, ∀ t, o.dst = some t → D t) (hf : Frm D a0 a) : (Code.region id ops draw).wp P (liftF w0 U E nt D a0 Q) a w := by
      simp only [compR, Option.bind_eq_some_iff] at hc
      obtain ⟨ss, hss, hc⟩ := hc
      split at hc
      · rename_i hd
        subst hd
        obtain ⟨hl, hget⟩ := allSome_get hss
        have hss0 : ∀ (i : Nat) o, ops[i]? = some o → ∃ s0, cSOp P nt (ad.at true) ops o = some s0 ∧ ss[i]? = some s0 := fun i o ho => by
          obtain ⟨y, h1, h2⟩ := hget i (cSOp P nt (ad.at true) ops o) (by simp [ho])
          exact ⟨y, h1, h2⟩
        have main : ∀ ss' : List SOp, (∀ (i : Nat) o, ops[i]? = some o → ∃ s s0, ss'[i]? = some s ∧ cSOp P nt (ad.at true) ops o = some s0 ∧ ∀ st st', GStep P s st st' → GStep P s0 st st') → drawOk P ops ss' = true → (SC.dreg ss' (pairsOf ss' (clos ops)) live).wp P Q st →
            (Code.region id ops true).wp P (liftF w0 U E nt D a0 Q) a w := by
          intro ss' hss1 hok h
          simp only [drawOk, Bool.and_eq_true, beq_iff_eq] at hok
          obtain ⟨⟨⟨⟨hm, hsel⟩, hlen⟩, hlexb⟩, hdist⟩ := hok
          have hlex := lexB_D hlen hlexb
          have hdn := distNew_of hdist
          have hcl : CleanFor ss' (Array.replicate ops.size false) (st.clean (ss'.flatMap dsite)) := by
            intro i s t _ hi hn ht k d hk
            refine clean_none _ st.ρ t ?_ k d hk
            refine List.mem_flatMap.2 ⟨s, List.mem_of_getElem? hi, ?_⟩
            unfold dsite
            rw [ht]
            cases hso : s.so <;> rw [hso] at hn <;> simp [isNew] at hn <;> simp
          simp only [SC.wp] at h
          obtain ⟨hchk, h⟩ := drawW_iff.1 h
          have hany : AnyS P ops ss' (fun st => ∃ st1, Q .normal (st1.keep live) ∧ Eqv st1 st) ops.size (Array.replicate ops.size false) (st.clean (ss'.flatMap dsite)) := by
            have := AnyS.checked (P := P) (ops := ops) (ss := ss') (prs := pairsOf ss' (clos ops)) (Fin := fun st => ∃ st1, Q .normal (st1.keep live) ∧ Eqv st1 st) (fun s1 s2 he hf => by obtain ⟨s3, h1, h2⟩ := hf; exact ⟨s3, h1, h2.trans he⟩) (fun i o ho => let ⟨s, _, h2, _⟩ := hss1 i o ho; ⟨s, h2⟩) hdn
              (listed := Array.replicate ops.size false) (by rw [hlen]; exact hlex) hcl (fun k o hk => by
                exfalso
                rw [Array.getD_eq_getD_getElem?, Array.getElem?_replicate] at hk
                split at hk <;> cases hk) hchk (opsWP_mono (fun st' h' => by exact ⟨st', keepK_iff.1 h', Eqv.refl _⟩) h)
            rwa [hlen] at this
          refine wp_region_any hm ?_
          have hr2 : RelX w0 U E nt (st.clean (ss'.flatMap dsite)) a { w with drawn := w.drawn + 1 } := by
            obtain ⟨η, hr⟩ := hr.clean (ss'.flatMap dsite)
            exact ⟨η, hr.below ((Below.refl _ w).drew)⟩
          exact AnyS.sound hss1 (fun st1 a1 w1 hfin hr1 hf1 => by obtain ⟨st2, h1, h2⟩ := hfin; exact ⟨⟨st2.keep live, (hr1.eqv h2.symm).keep live, h1⟩, hf1⟩) (fun i o ho => hD o (Array.mem_toList_iff.2 (Array.mem_of_getElem? ho))) _ _ _ _ _ hany hr2 hf
        split at hc
        · rename_i hok
          cases hc
          exact main ss (fun i o ho => let ⟨s0, h1, h2⟩ := hss0 i o ho; ⟨s0, s0, h2, h1, fun _ _ h => h⟩) (by simp only [Bool.and_eq_true] at hok; exact hok.2) h
        split at hc
        · rename_i hok
          cases hc
          exact main (ss.map SOp.toO) (fun i o ho => let ⟨s0, h1, h2⟩ := hss0 i o ho; ⟨s0.toO, s0, by simp [h2], h1, fun _ _ => toO_gstep⟩) (by simp only [Bool.and_eq_true] at hok; exact hok.2) h
        · split at hc <;> cases hc
          case isTrue.isFalse.isFalse.isFalse.refl => exact h.elim
          rename_i hok
          exact main (ss.map SOp.toD) (fun i o ho => let ⟨s0, h1, h2⟩ := hss0 i o ho; ⟨s0.toD, s0, by simp [h2], h1, fun _ _ => toD_gstep⟩) hok h
      · rename_i hd
        cases hc
        have : draw = false := by simpa using hd
        subst this
        refine wp_region_list ?_
        exact ops_sound (fun st1 a1 w1 h1 hr1 hf1 => ⟨⟨_, hr1.keep live, keepK_iff.1 h1⟩, hf1⟩) ops.toList ss st a w [] hss h hr hD hf
/-- The world as it is serves as the one that the call found: the objects are out of reach. -/
theorem Rel.rebase (h : Rel w0 U E nt st a w η) : Rel w U (fun _ => False) nt ⟨st.ρ, []⟩ a w η where
  size := h.size
  defers := h.defers
  keeps := ⟨h.keeps.now, fun _ h => h.elim, rfl, rfl, rfl, Nat.le_refl _, fun _ _ _ => rfl, fun _ _ => rfl⟩
  uold b hb := ⟨Nat.lt_of_lt_of_le (h.uold b hb).1 h.keeps.size, fun h => h⟩
  slots t d ht := by
    obtain ⟨h1, h2⟩ := h.slots t d ht
    refine ⟨h1, ?_⟩
    generalize a.tmps.getD t undef = u at h2
    cases h2 with
    | v x u h' => exact .v x _ (h'.mono fun b hb => ⟨⟨hb.1, hb.2.1, fun s cs o h => by cases h⟩, rfl⟩)
    | ref s off b o h' => exact .ref s off b o h'
    | own0 s z off a => exact .own0 s z off a
    | own s z off len b o cap h' hl hc => exact .own s z off len b o cap h' hl hc
    | dead u => exact .dead _
  objs s cs hs := by cases hs
  lies s cs b o h1 := by cases h1
  inj s s' cs cs' b o o' h1 := by cases h1
theorem Rel.merged {st2 : St} {a2 : Act} {w2 : World} {η2 : Eta} {ds : List Nat} (h : Rel w0 U E nt st a w η) (h2 : Rel w U (fun _ => False) nt st2 a2 w2 η2) (hf : Frm (· ∈ ds) a a2) : Rel w0 U E nt ⟨mergeR ds st.ρ st2.ρ, st.objs⟩ a2 w2 η := by
  have hb : Below w.heap.size w w2 := ⟨h2.keeps.os, h2.keeps.tape, h2.keeps.output, h2.keeps.size, fun k hk => h2.keeps.block k hk (fun h => h)⟩
  have h' := h.below hb
  refine ⟨h2.size, h2.defers, h'.keeps, h'.uold, fun t d ht => ?_, h'.objs, h'.lies, h'.inj⟩
  rcases look_mergeR ht with ⟨v, hv, h3, rfl⟩ | ⟨h3, h4⟩
  · obtain ⟨h5, h6⟩ := h2.slots t _ h3
    cases h6 with | v _ _ h6 =>
    exact ⟨h5, .v _ _ (flat1_rep h6 hv)⟩
  · obtain ⟨h5, h6⟩ := h'.slots t d h3
    refine ⟨h5, ?_⟩
    rw [hf t h4]
    exact h6
theorem dstsOf_mem {ops : Array Oper} {o : Oper} (ho : o ∈ ops.toList) {t : Nat} (h : o.dst = some t) : t ∈ dstsOf ops := List.mem_filterMap.2 ⟨o, ho, h⟩
theorem compile_sound {ad : Ad} : ∀ (n : Nat) (c : Code), SizeOf.sizeOf c ≤ n → ∀ (hs hs' : List (List Nat)) (sc : SC) (Q : Exit → St → Prop) (st : St) (a : Act) (w : World), compile P ad nt c hs = some (sc, hs') → sc.wp P Q st → RelX w0 U E nt st a w → c.wp P (lift w0 U E nt Q) a w := by
  intro n
  induction n with
  | zero => intro c hn; cases c <;> simp at hn
  | succ n ih =>
  intro c hn
  cases c with
  | skip => intro hs hs' sc Q st a w hc h hr; simp only [compile] at hc; cases hc; exact wp_skip ⟨st, hr, h⟩
  | ret => intro hs hs' sc Q st a w hc h hr; simp only [compile] at hc; cases hc; exact wp_ret ⟨st, hr, h⟩
  | exit id => intro hs hs' sc Q st a w hc h hr; simp only [compile] at hc; cases hc; exact wp_exit ⟨st, hr, h⟩
  | region id ops draw =>
    intro hs hs' sc Q st a w hc h hr
    cases hs with
    | nil => simp [compile] at hc
    | cons live hs =>
      simp only [compile, Option.map_eq_some_iff] at hc
      obtain ⟨x, hx, hc⟩ := hc
      cases hc
      exact wp_mono (compR_sound (D := fun _ => True) (a0 := a) hx h hr (fun _ _ _ _ => trivial) (Frm.refl _ _)) fun e a1 w1 h1 => h1.1
  | seq x y =>
    have ihx := ih x (by simp at hn; omega)
    have ihy := ih y (by simp at hn; omega)
    intro hs hs' sc Q st a w hc h hr
    unfold compile at hc
    split at hc
    case h_7 =>
      rename_i i1 ops1 d1 i2 ops2 d2 z l1 l2 hs1 heq
      cases heq
      have ihz := ih z (by simp at hn; omega)
      simp only [Option.bind_eq_some_iff, Option.map_eq_some_iff] at hc
      obtain ⟨x', hx, y', hy, ⟨z', hs2⟩, hz, hc⟩ := hc
      cases hc
      have hm1 : ∀ o ∈ ops1.toList, ∀ t, o.dst = some t → t ∈ dstsOf ops1 ++ dstsOf ops2 := fun o ho t ht => List.mem_append_left _ (dstsOf_mem ho ht)
      have hm2 : ∀ o ∈ ops2.toList, ∀ t, o.dst = some t → t ∈ dstsOf ops1 ++ dstsOf ops2 := fun o ho t ht => List.mem_append_right _ (dstsOf_mem ho ht)
      generalize dstsOf ops1 ++ dstsOf ops2 = ds at h hm1 hm2
      have hF := hr.freezeL (st.objs.map (·.1))
      obtain ⟨η, h0⟩ := hr
      obtain ⟨ηF, h1⟩ := hF
      simp only [SC.wp] at h
      have h := (forceR_iff (K := fun ρ => x'.wp P (thenQ (fun st' => y'.wp P (thawQ ds st (thenQ (fun st' => z'.wp P Q st') Q)) st') (thawQ ds st (thenQ (fun st' => z'.wp P Q st') Q))) ⟨ρ, []⟩)).1 h
      refine wp_seq (wp_mono (compR_sound (w0 := w) (U := U) (E := fun _ => False) (D := (· ∈ ds)) (a0 := a) hx h ⟨ηF, h1.rebase⟩ hm1 (Frm.refl _ _)) fun e a1 w1 ⟨⟨st1, hr1, hq1⟩, hf1⟩ => ?_)
      cases e with
      | normal =>
        refine wp_seq (wp_mono (compR_sound (w0 := w) (U := U) (E := fun _ => False) (D := (· ∈ ds)) (a0 := a) hy hq1 hr1 hm2 hf1) fun e a2 w2 ⟨⟨st2, ⟨η2, hr2⟩, hq2⟩, hf2⟩ => ?_)
        cases e with
        | normal => exact ihz _ _ _ _ _ a2 w2 hz (mergeK_iff.1 hq2) ⟨η, h0.merged hr2 hf2⟩
        | _ => exact hq2.elim
      | _ => exact hq1.elim
    case h_8 =>
      rename_i heq _
      cases heq
      simp only [Option.bind_eq_some_iff, Option.map_eq_some_iff] at hc
      obtain ⟨⟨x', hs1⟩, hx, ⟨y', hs2⟩, hy, hc⟩ := hc
      cases hc
      refine wp_seq (wp_mono (ihx _ _ _ _ st a w hx h hr) fun e a1 w1 ⟨st1, hr1, hq⟩ => ?_)
      cases e with
      | normal => exact ihy _ _ _ _ st1 a1 w1 hy hq hr1
      | _ => exact ⟨st1, hr1, hq⟩
    case h_12 => simp_all
    all_goals (rename_i heq; cases heq)
  | cond c x y =>
    have ihx := ih x (by simp at hn; omega)
    have ihy := ih y (by simp at hn; omega)
    intro hs hs' sc Q st a w hc h hr
    simp only [compile, Option.bind_eq_some_iff, Option.map_eq_some_iff] at hc
    obtain ⟨c', hcc, ⟨x', hs1⟩, hx, ⟨y', hs2⟩, hy, hc⟩ := hc
    cases hc
    simp only [SC.wp] at h
    split at h
    · rename_i p hp
      obtain ⟨η, hr'⟩ := hr
      have hrep := Opd.rep hr' hcc hp
      generalize hv : a.eval c = v at hrep
      cases hrep with | v _ _ hrep =>
      cases hrep
      have h := h.get
      cases p
      · exact wp_cond_false hv (ihy _ _ _ _ st a w hy h ⟨η, hr'⟩)
      · exact wp_cond_true hv (ihx _ _ _ _ st a w hx h ⟨η, hr'⟩)
    · exact h.elim
  | block id x =>
    have ih := ih x (by simp at hn; omega)
    intro hs hs' sc Q st a w hc h hr
    simp only [compile, Option.map_eq_some_iff] at hc
    obtain ⟨⟨x', hs1⟩, hx, hc⟩ := hc
    cases hc
    refine wp_block (wp_mono (ih _ _ _ _ st a w hx h hr) fun e a1 w1 ⟨st1, hr1, hq⟩ => ?_)
    cases e with
    | exit id' =>
      unfold inBlockQ at hq
      by_cases hi : id' = id
      · simp only [hi, if_true] at hq
        simp only [Exit.inBlock, hi, if_true]
        exact ⟨st1, hr1, hq⟩
      · simp only [hi, if_false] at hq
        simp only [Exit.inBlock, hi, if_false]
        exact ⟨st1, hr1, hq⟩
    | _ => exact ⟨st1, hr1, hq⟩
  | loop x =>
    have ih := ih x (by simp at hn; omega)
    intro hs hs' sc Q st a w hc h hr
    cases hs with
    | nil => simp [compile] at hc
    | cons live hs =>
      simp only [compile, Option.map_eq_some_iff] at hc
      obtain ⟨⟨x', hs1⟩, hx, hc⟩ := hc
      cases hc
      refine LoopSem.wp ?_
      obtain ⟨h⟩ := keepK_iff.1 h
      refine h (fun s => ∀ a w, RelX w0 U E nt s a w → LoopSem P x (lift w0 U E nt Q) a w) (fun s hs a1 w1 hr1 => ?_) a w (hr.keep live)
      refine LoopSem.unroll (wp_mono (ih _ _ _ _ s a1 w1 hx hs hr1) fun e a2 w2 ⟨st2, hr2, hq⟩ => ?_)
      cases e with
      | normal => exact (keepK_iff (K := fun s => ∀ a w, RelX w0 U E nt s a w → LoopSem P x (lift w0 U E nt Q) a w)).1 hq a2 w2 (hr2.keep live)
      | _ => exact ⟨st2, hr2, hq⟩
  | _ => intro hs hs' sc Q st a w hc h hr; cases hs <;> (simp only [compile, Option.some.injEq, Prod.mk.injEq] at hc; obtain ⟨rfl, _⟩ := hc; exact h.elim)

/-! ### A function -/
end
inductive CR where
  | tm (t : Nat)
  | cell (t : Nat) (g : Bool) (z : Nat)
def cRes1 (P : Program) : ResultVar → Option CR
  | .tmp t => some (.tm t)
  | .cell t ty => match aggOf P ty, szOf P ty with
    | some g, some (z + 1) => some (.cell t g (z + 1))
    | _, _ => none
def res1 (st : St) : CR → Option V
  | .tm t => (look st.ρ t).bind (snapV st.objs)
  | .cell t g z => (look st.ρ t).bind fun d => ((deref st.objs d).bind (ldD g z)).bind fun
    | .v x => some x
    | _ => none
def resL (st : St) : List CR → Option (List V)
  | [] => some []
  | c :: cs => match res1 st c, resL st cs with
    | some v, some vs => some (v :: vs)
    | _, _ => none
/-- What a function hands back in a state. -/
def resV (st : St) (cs : List CR) : Option V := match resL st cs with
  | some [v] => some v
  | some vs => some (.tup vs)
  | none => none
theorem resV_eq (st : St) (cs : List CR) : resV st cs = (resL st cs).map fun
  | [v] => v
  | vs => .tup vs := by
  unfold resV
  cases resL st cs with
  | none => rfl
  | some vs => match vs with
    | [] => rfl
    | [v] => rfl
    | v :: v' :: vs => rfl
def initR : Nat → List V → List (Nat × D)
  | _, [] => []
  | n, v :: vs => (n, .v v) :: initR (n + 1) vs
def endQ (rs : List CR) (r : V) : Exit → St → Prop
  | .normal, st | .ret, st => resV st rs = some r
  | _, _ => False
/-- A function of the program, put for what it does. -/
structure Fn1 where
  nt : Nat
  sc : SC
  rs : List CR
def Fn1.of (P : Program) (f : FuncId) (ad : Ad) (hs : List (List Nat)) : Option Fn1 :=
  match P.funcs[f]? with
  | some fn => match fn.body with
    | some c => match compile P ad fn.ntmps c hs, allSome (fn.results.toList.map (cRes1 P)) with
      | some (sc, []), some rs => if fn.name == "runtime.NumGoroutine" then none else some ⟨fn.ntmps, sc, rs⟩
      | _, _ => none
    | none => none
  | none => none
section
variable {P : Program} {w w0 w' : World} {U E : Nat → Prop} {nt : Nat} {st st' : St} {a : Act} {η : Eta} {ok : Nat → Prop}
theorem look_initR : ∀ (vs : List V) (n t : Nat) (d : D), look (initR n vs) t = some d → n ≤ t ∧ ∃ v, vs[t - n]? = some v ∧ d = .v v
  | [], n, t, d, h => by cases h
  | v :: vs, n, t, d, h => by
    simp only [initR, look] at h
    split at h
    · rename_i ht; subst ht; cases h; exact ⟨Nat.le_refl _, v, by simp, rfl⟩
    · rename_i ht
      obtain ⟨h1, v', h2, h3⟩ := look_initR vs (n + 1) t d h
      refine ⟨by omega, v', ?_, h3⟩
      rw [show t - n = (t - (n + 1)) + 1 by omega]
      simpa using h2
/-- One result, as the model reads it. -/
def resOne (tmps : Array Value) : ResultVar → Sem Value
  | .tmp t => pure (tmps.getD t undef)
  | .cell b t => do loadVar t (← asAddr (tmps.getD b undef))
theorem results_eq (fn : Func) (tmps : Array Value) : results fn tmps = (do let vs ← fn.results.mapM (resOne tmps); pure (if h : vs.size = 1 then vs[0] else .tuple vs)) := rfl
theorem res1_run (hr : Rel w0 U E nt st a w η) {c : ResultVar} {c' : CR} {v : V} (hc : cRes1 P c = some c') (h : res1 st c' = some v) :
    ∃ u, (resOne a.tmps c).run P w = .ok u w ∧ RepV w (fun b => b < w.heap.size ∧ ¬ U b) v u := by
  cases c with
  | tmp t =>
    cases hc
    simp only [res1, Option.bind_eq_some_iff] at h
    obtain ⟨d, hd, h⟩ := h
    exact ⟨_, rfl, snap_rep hr (hr.slots t d hd).2 h⟩
  | cell t ty =>
    simp only [cRes1] at hc
    split at hc <;> cases hc
    rename_i g z hg hz
    simp only [res1, Option.bind_eq_some_iff] at h
    obtain ⟨d, hd, e, he, h⟩ := h
    split at h <;> cases h
    have hrd := (hr.slots t d hd).2
    obtain ⟨u, h1, h2⟩ := ld_sound (P := P) hr hrd (by simpa only [Option.bind_eq_some_iff] using he) hg hz (by omega)
    cases h2 with | v _ _ h2 =>
    have hp : ∃ b o, a.tmps.getD t undef = .pointer (some ⟨b, o, none⟩) := by
      obtain ⟨cs, hcs, hld⟩ := he
      have hne : cs ≠ [] := by
        rintro rfl
        unfold ldD at hld
        split at hld <;> simp at hld
      obtain ⟨b, o, hb, _⟩ := deref_lies hr hrd hcs hne
      exact ⟨b, o, hb⟩
    obtain ⟨b, o, hb⟩ := hp
    rw [hb] at h1
    refine ⟨u, by simpa [Instr.loadAt, Instr.sureAddr, asAddr, resOne, hb] using h1, h2.mono fun b hb => ⟨⟨hb.1, hb.2.1⟩, rfl⟩⟩
theorem resL_run (hr : Rel w0 U E nt st a w η) : ∀ {cs : List ResultVar} {cs' : List CR} {vs : List V}, allSome (cs.map (cRes1 P)) = some cs' → resL st cs' = some vs →
    ∃ us, (cs.mapM (resOne a.tmps)).run P w = .ok us w ∧ RepL w (fun b => b < w.heap.size ∧ ¬ U b) vs us
  | [], cs', vs, hc, h => by cases hc; cases h; exact ⟨[], by simp, .nil⟩
  | c :: cs, cs', vs, hc, h => by
    simp only [List.map_cons] at hc
    cases h1 : cRes1 P c with
    | none => simp [h1, allSome] at hc
    | some c' =>
      simp only [h1, allSome, Option.map_eq_some_iff] at hc
      obtain ⟨cs'', hc, rfl⟩ := hc
      unfold resL at h
      split at h <;> cases h
      rename_i v vs' g1 g2
      obtain ⟨u, k1, k2⟩ := res1_run (P := P) hr h1 g1
      obtain ⟨us, k3, k4⟩ := resL_run hr hc g2
      refine ⟨u :: us, ?_, .cons k2 k4⟩
      rw [List.mapM_cons]
      simp only [Sem.run_bind]
      rw [k1]
      simp only [Result.andThen_ok, k3, Sem.run_pure]
theorem resV_run (hr : Rel w0 U E nt st a w η) {fn : Func} {cs' : List CR} {v : V} (hc : allSome (fn.results.toList.map (cRes1 P)) = some cs') (h : resV st cs' = some v) :
    ∃ u, (results fn a.tmps).run P w = .ok u w ∧ RepV w (fun b => b < w.heap.size ∧ ¬ U b) v u := by
  simp only [resV_eq, Option.map_eq_some_iff] at h
  obtain ⟨vs, hv, h⟩ := h
  obtain ⟨us, h1, h2⟩ := resL_run (P := P) hr hc hv
  have hrun : (results fn a.tmps).run P w = .ok (if h : us.toArray.size = 1 then us.toArray[0] else .tuple us.toArray) w := by
    rw [results_eq, Array.mapM_eq_mapM_toList]
    simp only [Sem.run_bind, Sem.run_map, h1, Result.andThen_ok, Sem.run_pure]
  refine ⟨_, hrun, ?_⟩
  subst h
  match vs, h2 with
  | [], h2 => have : us = [] := by have := h2.1; simpa using this
              subst this; simpa using h2.tup
  | [v], h2 => obtain ⟨u, rfl, hr⟩ := h2.one; simpa using hr
  | v1 :: v2 :: vs, h2 =>
    have : us.length ≠ 1 := by rw [h2.1]; simp
    rw [dif_neg (by simpa using this)]
    exact h2.tup
/-- What is shown of the body is known of each call. -/
theorem pure_of_wp {f : FuncId} {ad : Ad} {hs : List (List Nat)} {F : Fn1} {args : List V} {r : V} (hF : Fn1.of P f ad hs = some F) (hn : args.length ≤ F.nt) (h : F.sc.wp P (endQ F.rs r) ⟨initR 0 args, []⟩) : Pure P f args r := by
  unfold Fn1.of at hF
  split at hF
  case h_2 => cases hF
  rename_i fn hfn
  split at hF
  case h_2 => cases hF
  rename_i c hb
  split at hF
  case h_2 => cases hF
  rename_i sc rs hc hrs
  split at hF
  · cases hF
  rename_i hname
  cases hF
  simp only at hn h
  intro w U us hL hU hus
  unfold CallOk
  have hcf : (callFunc f us.toArray).run P w = .ok (.enter f us.toArray) w := by
    simp only [callFunc, Sem.run_bind, run_program, Result.andThen_ok, hfn]
    rw [if_neg hname]
    simp [hb]
  rw [hcf]
  refine ⟨rfl, rfl, rfl, calls_of_wp hfn hb ?_⟩
  have hsz : (us.toArray ++ Array.replicate (fn.ntmps - us.toArray.size) undef).size = fn.ntmps := by
    have := hus.1
    simp; omega
  have hrel : Rel w U (fun _ => False) fn.ntmps ⟨initR 0 args, []⟩ { tmps := us.toArray ++ Array.replicate (fn.ntmps - us.toArray.size) undef, defers := [] } w (fun _ => none) := by
    refine ⟨hsz, rfl, ⟨hL, fun _ h => h.elim, rfl, rfl, rfl, Nat.le_refl _, fun _ _ _ => rfl, fun _ _ => rfl⟩, fun b hb => ⟨hU b hb, fun h => h⟩, fun t d ht => ?_, fun s cs hs => (by cases hs), fun s cs b o h1 => (by cases h1), fun s s' cs cs' b o o' h1 => (by cases h1)⟩
    obtain ⟨_, v, hv, rfl⟩ := look_initR args 0 t d ht
    simp only [Nat.sub_zero] at hv
    obtain ⟨u, hu, hr⟩ := hus.2 t v hv
    have hlt : t < us.length := (List.getElem?_eq_some_iff.1 hu).1
    refine ⟨by have := hus.1; omega, .v _ _ ?_⟩
    have : (us.toArray ++ Array.replicate (fn.ntmps - us.toArray.size) undef).getD t undef = u := by
      rw [Array.getD_eq_getD_getElem?, Array.getElem?_append_left (by simpa using hlt)]
      simp [hu]
    rw [this]
    exact hr.mono fun b hb => ⟨⟨hb.1, hb.2, fun s cs o h1 => (by cases h1)⟩, rfl⟩
  have hw := compile_sound (w0 := w) (U := U) (E := fun _ => False) _ c (Nat.le_refl _) hs [] sc _ _ _ _ hc h ⟨_, hrel⟩
  refine wp_mono hw fun e a1 w1 ⟨st1, ⟨η, hr1⟩, hq⟩ => ?_
  have fin : resV st1 rs = some r → a1.defers = [] ∧ ∃ v, (results fn a1.tmps).run P w1 = .ok v w1 ∧ ∃ u, Ending.returned v = .returned u ∧ RepV w1 (fun b => b < w1.heap.size ∧ ¬ U b) r u ∧ Below w.heap.size w w1 := fun hres => by
    obtain ⟨u, h1, h2⟩ := resV_run (P := P) hr1 hrs hres
    exact ⟨hr1.defers, u, h1, u, rfl, h2, ⟨hr1.keeps.os, hr1.keeps.tape, hr1.keeps.output, hr1.keeps.size, fun k hk => hr1.keeps.block k hk (fun h => h)⟩⟩
  cases e <;> first | exact fin hq | exact hq.elim
/-- At a function's end. -/
theorem endV {rs : List CR} {e x : V} (h : resV st rs = some e) (he : e = x) : resV st rs = some x := by rw [h, he]
end
end Go.Proofs.YtljcbmnkjiogmaaDoor.Sv
/-! The shapes of arguments, and that what a reading of the arguments meets is held by values of these shapes. -/
namespace Go.Proofs.YtljcbmnkjiogmaaDoor.Sv
open Go Go.RowKit
set_option linter.unusedVariables false
set_option linter.unusedSimpArgs false

inductive Ty where
  | b
  | n (k : IntKind)
  | s
  | sl (bytes : Nat) (e : Ty)
  | nil
  | pair (a c : Ty)
  | ar (n : Nat) (e : Ty)
@[reducible] def Ty.T : Ty → Type
  | .b => Bool
  | .n _ => Int
  | .s => ByteArray
  | .sl _ e => List e.T
  | .nil => Unit
  | .pair a c => a.T × c.T
  | .ar _ e => List e.T
def Ty.size : Ty → Nat
  | .b | .n _ | .s | .sl _ _ => 1
  | .nil => 0
  | .pair a c => a.size + c.size
  | .ar m e => m * e.size
def Ty.cells : (t : Ty) → t.T → List V
  | .b, x => [.b x]
  | .n k, x => [.n k x]
  | .s, x => [.s x]
  | .sl _ e, l => [.sl (List.length (α := e.T) l) (List.flatMap (α := e.T) e.cells l) false]
  | .nil, _ => []
  | .pair a c, x => a.cells x.1 ++ c.cells x.2
  | .ar _ e, l => List.flatMap (α := e.T) e.cells l
def Ty.inn : (t : Ty) → t.T → Prop
  | .b, _ => True
  | .n k, (x : Int) => k.min ≤ x ∧ x ≤ k.max
  | .s, x => ByteArray.size x ≤ reachBytes
  | .sl bytes e, (l : List e.T) => l.length * bytes ≤ reachBytes ∧ ∀ x : e.T, x ∈ l → e.inn x
  | .nil, _ => True
  | .pair a c, x => a.inn x.1 ∧ c.inn x.2
  | .ar m e, (l : List e.T) => l.length = m ∧ ∀ x : e.T, x ∈ l → e.inn x
/-- The value by itself: more than one cell, or a struct of any number, as an aggregate. -/
def Ty.val : (t : Ty) → t.T → V
  | .b, x => .b x
  | .n k, x => .n k x
  | .s, x => .s x
  | .sl _ e, l => .sl (List.length (α := e.T) l) (List.flatMap (α := e.T) e.cells l) false
  | .nil, _ => .agg []
  | .pair a c, x => .agg (a.cells x.1 ++ c.cells x.2)
  | .ar _ e, l => .agg (List.flatMap (α := e.T) e.cells l)
def Ty.ofFields (P : Program) (of : TypeId → Option Ty) : Nat → List Field → Option Ty
  | _, [] => some .nil
  | off, f :: r => match of f.type with
    | some A => if f.offset = off ∧ P.cellsOf f.type = A.size then (Ty.ofFields P of (off + A.size) r).map fun C => .pair A C else none
    | none => none
def Ty.of (P : Program) : Nat → TypeId → Option Ty
  | 0, _ => none
  | m + 1, t => match P.underlying t with
    | some .bool => some .b
    | some (.int k) => some (.n k)
    | some .string => some .s
    | some (.slice e) => match Ty.of P m e with
      | some E => if P.cellsOf e = E.size ∧ E.size ≠ 0 then some (.sl (P.bytesOf e) E) else none
      | none => none
    | some (.struct fs) => match Ty.ofFields P (Ty.of P m) 0 fs.toList with
      | some A => if P.cellsOf t = A.size then some A else none
      | none => none
    | some (.array q e) => match Ty.of P m e with
      | some E => if P.cellsOf t = q * E.size ∧ P.cellsOf e = E.size then some (.ar q E) else none
      | none => none
    | _ => none
theorem flatMap_len {α β : Type} {f : α → List β} {z : Nat} : ∀ {l : List α}, (∀ x ∈ l, (f x).length = z) → (l.flatMap f).length = l.length * z
  | [], _ => by simp
  | x :: l, h => by
    rw [List.flatMap_cons, List.length_append, h x (by simp), flatMap_len fun y hy => h y (by simp [hy]), List.length_cons, Nat.succ_mul, Nat.add_comm]
theorem Ty.cells_len : ∀ (t : Ty) (x : t.T), t.inn x → (t.cells x).length = t.size
  | .b, _, _ => rfl
  | .n _, _, _ => rfl
  | .s, _, _ => rfl
  | .sl _ _, _, _ => rfl
  | .nil, _, _ => rfl
  | .pair a c, x, h => by
    simp only [Ty.cells, List.length_append, Ty.size, a.cells_len x.1 h.1, c.cells_len x.2 h.2]
  | .ar m e, l, h => by
    simp only [Ty.cells, Ty.size]
    rw [flatMap_len (α := e.T) fun x hx => e.cells_len x (h.2 x hx), h.1]
section
variable {H : Type} {enc : TypeId × Value → H} {P : Program} {W : World} {sp : Nat → Bool} {held : Bool} {ok : Nat → Prop}
theorem RepL.single {v : V} {u : Value} (h : RepV W ok v u) : RepL W ok [v] [u] := .cons h .nil
/-- What the elements' cells hold, one by one. -/
theorem row_cells {α : Type} {f : α → List V} {z bl : Nat} : ∀ {l : List α} {o : Nat}, (∀ x ∈ l, (f x).length = z) →
    (∀ (i : Nat) x, l[i]? = some x → ∃ ci : List Value, (∀ j, j < z → W.cell? ⟨bl, o + i * z + j, none⟩ = ci[j]?) ∧ RepL W ok (f x) ci) →
    ∀ (i : Nat) v, (l.flatMap f)[i]? = some v → ∃ u, W.cell? ⟨bl, o + i, none⟩ = some u ∧ RepV W ok v u
  | [], o, _, _, i, v, h => by simp at h
  | x :: l, o, hz, hl, i, v, h => by
    rw [List.flatMap_cons] at h
    have hx := hz x (by simp)
    by_cases hi : i < z
    · rw [List.getElem?_append_left (by omega)] at h
      obtain ⟨ci, h1, h2⟩ := hl 0 x rfl
      obtain ⟨u, h3, h4⟩ := h2.2 i v h
      refine ⟨u, ?_, h4⟩
      have := h1 i hi
      rw [Nat.zero_mul, Nat.add_zero] at this
      rw [this, h3]
    · rw [List.getElem?_append_right (by omega), hx] at h
      have := row_cells (o := o + z) (fun y hy => hz y (by simp [hy])) (fun k y hk => by
        obtain ⟨ci, h1, h2⟩ := hl (k + 1) y (by simpa using hk)
        refine ⟨ci, fun j hj => ?_, h2⟩
        rw [← h1 j hj, show o + z + k * z + j = o + (k + 1) * z + j by rw [Nat.succ_mul]; omega]) (i - z) v h
      rwa [show o + z + (i - z) = o + i by omega] at this
theorem mapM_range {β : Type} {f : Nat → Option β} : ∀ {n : Nat} {r : List β}, (List.range n).mapM f = some r → r.length = n ∧ ∀ i, i < n → ∃ y, f i = some y ∧ r[i]? = some y := by
  have main : ∀ {l : List Nat} {r : List β}, l.mapM f = some r → r.length = l.length ∧ ∀ (i : Nat) k, l[i]? = some k → ∃ y, f k = some y ∧ r[i]? = some y := by
    intro l
    induction l with
    | nil => intro r h; simp at h; subst h; simp
    | cons k l ih =>
      intro r h
      rw [List.mapM_cons] at h
      simp only [bind, Option.bind_eq_some_iff, pure, Option.some.injEq] at h
      obtain ⟨y, hy, ys, hys, rfl⟩ := h
      obtain ⟨h1, h2⟩ := ih hys
      refine ⟨by simp [h1], fun i k' hk => ?_⟩
      cases i with
      | zero => simp at hk; subst hk; exact ⟨y, hy, rfl⟩
      | succ i => simpa using h2 i k' (by simpa using hk)
  intro n r h
  obtain ⟨h1, h2⟩ := main h
  refine ⟨by simpa using h1, fun i hi => h2 i i (by simp [hi])⟩
/-- Elements one by one, each with a value of its shape. -/
theorem choose_list {α : Type} {n : Nat} {R : Nat → α → Prop} (h : ∀ i, i < n → ∃ x, R i x) : ∃ l : List α, l.length = n ∧ ∀ (i : Nat) x, l[i]? = some x → R i x := by
  induction n with
  | zero => exact ⟨[], rfl, fun i x h => by simp at h⟩
  | succ n ih =>
    obtain ⟨l, h1, h2⟩ := ih fun i hi => h i (by omega)
    obtain ⟨x, hx⟩ := h n (by omega)
    refine ⟨l ++ [x], by simp [h1], fun i y hy => ?_⟩
    by_cases hi : i < n
    · rw [List.getElem?_append_left (by omega)] at hy; exact h2 i y hy
    · have hlt := (List.getElem?_eq_some_iff.1 hy).1
      simp at hlt
      have : i = n := by omega
      subst this
      rw [List.getElem?_append_right (by omega), h1] at hy
      simp at hy
      subst hy; exact hx
theorem weightsAll_get {e : TypeId} : ∀ {l : List (DataW H)}, (DataW.weightsAll P e l).all (· ≤ reachBytes) = true → ∀ d ∈ l, (d.weights P e).all (· ≤ reachBytes) = true
  | [], _, d, hd => by cases hd
  | x :: l, h, d, hd => by
    simp only [DataW.weightsAll, List.all_append, Bool.and_eq_true] at h
    rcases List.mem_cons.1 hd with rfl | hd
    · exact h.1
    · exact weightsAll_get h.2 d hd
/-- What holds of a type's reading. -/
def Reads1 (enc : TypeId × Value → H) (P : Program) (W : World) (sp : Nat → Bool) (held : Bool) (t : TypeId) (T : Ty) : Prop :=
  ∀ (fuel : Nat) (cs : List Value) (x : DataW H × List MemPlace), DataW.trod enc P W 0 sp held fuel t cs = some x → (x.1.weights P t).all (· ≤ reachBytes) = true → ∃ a : T.T, T.inn a ∧ RepL W (fun b => b < W.heap.size) (T.cells a) cs
theorem fields_ty {of : TypeId → Option Ty} (hof : ∀ t T, of t = some T → Reads1 enc P W sp held t T) {cs : List Value} {fuel : Nat} : ∀ {fs : List Field} {off : Nat} {T : Ty} {xs : List (DataW H × List MemPlace)},
    Ty.ofFields P of off fs = some T → (fs.mapM fun f => DataW.trod enc P W 0 sp held fuel f.type ((cs.drop f.offset).take (P.cellsOf f.type))) = some xs → (DataW.weightsEach P (fs.map (·.type)) (xs.map (·.1))).all (· ≤ reachBytes) = true →
    ∃ a : T.T, T.inn a ∧ RepL W (fun b => b < W.heap.size) (T.cells a) ((cs.drop off).take T.size)
  | [], off, T, xs, hT, h, hw => by
    cases hT
    exact ⟨(), trivial, by simp [Ty.size, Ty.cells, RepL.nil]⟩
  | f :: fs, off, T, xs, hT, h, hw => by
    unfold Ty.ofFields at hT
    split at hT
    · rename_i A hA
      split at hT
      · rename_i hb
        obtain ⟨rfl, hsz⟩ := hb
        simp only [Option.map_eq_some_iff] at hT
        obtain ⟨C, hC, rfl⟩ := hT
        rw [List.mapM_cons] at h
        simp only [bind, Option.bind_eq_some_iff, pure, Option.some.injEq] at h
        obtain ⟨y, hy, ys, hys, rfl⟩ := h
        simp only [List.map_cons, DataW.weightsEach, List.all_append, Bool.and_eq_true] at hw
        obtain ⟨a, ha, hra⟩ := hof _ _ hA _ _ _ hy hw.1
        obtain ⟨c, hc, hrc⟩ := fields_ty hof hC hys hw.2
        refine ⟨(a, c), ⟨ha, hc⟩, ?_⟩
        simp only [Ty.cells, Ty.size]
        rw [hsz] at hra
        have := hra.append hrc
        rw [List.take_add, List.drop_drop]
        rwa [Nat.add_comm] at this ⊢
      · cases hT
    · cases hT
theorem trod_ty (hsp : ∀ b, sp b = true) : ∀ (m : Nat) (t : TypeId) (T : Ty), Ty.of P m t = some T → Reads1 enc P W sp held t T
  | 0, t, T, hT => by cases hT
  | m + 1, t, T, hT => by
    intro fuel cs x h hw
    cases fuel with
    | zero => cases h
    | succ fuel =>
    unfold Ty.of at hT
    unfold DataW.trod at h
    split at hT <;> rename_i ht
    · cases hT
      rw [ht] at h
      split at h <;> first | (rename_i h1 _; cases h1; done) | (rename_i h1; cases h1; done) | skip
      all_goals first | (cases h; exact ⟨_, trivial, .single (.b _)⟩) | cases h
    · cases hT
      rw [ht] at h
      split at h <;> first | (rename_i h1 _; cases h1; done) | (rename_i h1; cases h1; done) | skip
      · rename_i h1
        cases h1
        split at h <;> cases h
        rename_i hb
        obtain ⟨rfl, hb⟩ := hb
        simp only [Lit.wf, Bool.and_eq_true, decide_eq_true_eq] at hb
        exact ⟨_, hb, .single (.n _ _)⟩
      all_goals cases h
    · cases hT
      rw [ht] at h
      split at h <;> first | (rename_i h1 _; cases h1; done) | (rename_i h1; cases h1; done) | skip
      · split at h <;> cases h
        rename_i sb _ _
        simp [DataW.weights] at hw
        exact ⟨sb, by simpa [Ty.inn] using hw, .single (.s _)⟩
      all_goals cases h
    · rename_i e
      split at hT
      case h_2 => cases hT
      rename_i E hE
      split at hT <;> cases hT
      rename_i hsz
      obtain ⟨hsz, hne⟩ := hsz
      rw [ht] at h
      split at h <;> first | (rename_i h1 _; cases h1; done) | (rename_i h1; cases h1; done) | skip
      · rename_i h1
        exact ⟨([] : List E.T), ⟨by simp, fun x hx => by cases hx⟩, .single (.sl0 _ _)⟩
      · rename_i a len cap h1
        cases h1
        simp only at h
        split at h
        case isFalse => cases h
        rename_i hb
        simp only [Option.bind_eq_some_iff, Option.map_eq_some_iff] at h
        obtain ⟨elems, hel, rest, hrest, rfl⟩ := h
        obtain ⟨hlen, hget⟩ := mapM_range hel
        simp only [DataW.weights, ht, List.all_cons, List.all_append, Bool.and_eq_true, decide_eq_true_eq] at hw
        have each : ∀ i, i < len → ∃ x : E.T, E.inn x ∧ ∃ ci, W.cells? 0 (a.add (i * P.cellsOf e)) (P.cellsOf e) = some ci ∧ RepL W (fun b => b < W.heap.size) (E.cells x) ci := fun i hi => by
          obtain ⟨y, hy, hy'⟩ := hget i hi
          simp only [Option.bind_eq_some_iff] at hy
          obtain ⟨ci, hci, hy⟩ := hy
          obtain ⟨x, hx, hr⟩ := trod_ty hsp m e E hE fuel ci y hy (weightsAll_get hw.2.1 _ (List.mem_map.2 ⟨y, List.mem_of_getElem? hy', rfl⟩))
          exact ⟨x, hx, ci, hci, hr⟩
        obtain ⟨l, hl, hR⟩ := choose_list each
        have hin : ∀ x : E.T, x ∈ l → E.inn x := fun x hx => by obtain ⟨i, hi⟩ := List.getElem?_of_mem hx; exact (hR i x hi).1
        refine ⟨(l : List E.T), ⟨?_, hin⟩, ?_⟩
        · have h1 := hw.1
          simp only [List.length_map] at h1
          rw [hl]
          refine Nat.le_trans (Nat.mul_le_mul_right _ ?_) h1
          omega
        · by_cases h0 : cap = 0
          · have : l = [] := List.length_eq_zero_iff.1 (by omega)
            subst this
            obtain rfl : len = 0 := by omega
            subst h0
            exact .single (.sl0 _ _)
          · obtain ⟨c0, hc0⟩ : ∃ c0, W.cells? 0 (a.add (0 * P.cellsOf e)) (P.cellsOf e) = some c0 := by
              by_cases h1 : len = 0
              · rw [if_pos (hsp _)] at hrest
                obtain ⟨y, hy, _⟩ := (mapM_range hrest).2 0 (by omega)
                simp only [Option.bind_eq_some_iff] at hy
                obtain ⟨ci, hci, _⟩ := hy
                rw [h1] at hci
                exact ⟨ci, hci⟩
              · obtain ⟨x, _, ci, hci, _⟩ := each 0 (by omega)
                exact ⟨ci, hci⟩
            have hblk : a.block < W.heap.size := by have := World.cells?_block hc0 (by omega); simpa [Addr.add] using this
            obtain ⟨_, _, hcell⟩ := World.cells?_some hc0
            have hspot : a.spot = none := by
              have h3 := hcell 0 (by omega)
              have hl0 := (World.cells?_some hc0).2.1
              have : c0[0]? = some (c0[0]'(by omega)) := by simp
              rw [this] at h3
              unfold World.cell? at h3
              split at h3
              · split at h3
                · cases h3
                · rename_i hs
                  cases hsp : a.spot with
                  | none => rfl
                  | some q => simp [Addr.add, hsp] at hs
              · cases h3
            obtain ⟨bl, off, spot⟩ := a
            simp only at hspot hblk
            subst hspot
            have hall := row_cells (W := W) (ok := fun b => b < W.heap.size) (f := E.cells) (z := E.size) (bl := bl) (l := l) (o := off) (fun x hx => E.cells_len x (hin x hx)) (fun i x hx => by
              obtain ⟨_, ci, hci, hr⟩ := hR i x hx
              refine ⟨ci, fun j hj => ?_, hr⟩
              have := (World.cells?_some hci).2.2 j (by omega)
              rw [← this, hsz]
              congr 1
              unfold Addr.add
              split <;> split <;> simp_all <;> omega)
            refine .single ?_
            have hll : List.length (α := E.T) l = len := hl
            rw [hll]
            refine .sl len _ false (fun i => (W.cell? ⟨bl, off + i, none⟩).getD undef) bl off cap hblk (by omega) (fun h => by cases h) (fun i v hi => ?_) (fun i v hi => ?_)
            · obtain ⟨u, h3, _⟩ := hall i v hi
              rw [h3]; rfl
            · obtain ⟨u, h3, h4⟩ := hall i v hi
              rw [h3]; exact h4
      all_goals cases h
    · rename_i fs
      split at hT
      case h_2 => cases hT
      rename_i A hA
      split at hT <;> cases hT
      rename_i hsz
      rw [ht] at h
      simp only at h
      split at h
      case isFalse => cases h
      rename_i hl
      simp only [Option.map_eq_some_iff] at h
      obtain ⟨xs, hxs, rfl⟩ := h
      simp only [DataW.weights, ht] at hw
      obtain ⟨a, ha, hr⟩ := fields_ty (fun t T h => trod_ty hsp m t T h) hA hxs hw
      refine ⟨a, ha, ?_⟩
      rwa [List.drop_zero, List.take_of_length_le (by omega)] at hr
    · rename_i q e
      split at hT
      case h_2 => cases hT
      rename_i E hE
      split at hT <;> cases hT
      rename_i hsz
      rw [ht] at h
      simp only at h
      split at h
      case isFalse => cases h
      rename_i hl
      simp only [Option.map_eq_some_iff] at h
      obtain ⟨xs, hxs, rfl⟩ := h
      simp only [DataW.weights, ht] at hw
      obtain ⟨hlen, hget⟩ := mapM_range hxs
      have each : ∀ i, i < q → ∃ x : E.T, E.inn x ∧ RepL W (fun b => b < W.heap.size) (E.cells x) ((cs.drop (i * E.size)).take E.size) := fun i hi => by
        obtain ⟨y, hy, hy'⟩ := hget i hi
        rw [hsz.2] at hy
        exact trod_ty hsp m e E hE fuel _ y hy (weightsAll_get hw _ (List.mem_map.2 ⟨y, List.mem_of_getElem? hy', rfl⟩))
      obtain ⟨l, hl', hR⟩ := choose_list each
      refine ⟨(l : List E.T), ⟨hl', fun x hx => by obtain ⟨i, hi⟩ := List.getElem?_of_mem hx; exact (hR i x hi).1⟩, ?_⟩
      have main : ∀ (l : List E.T) (k : Nat), (∀ (i : Nat) x, l[i]? = some x → RepL W (fun b => b < W.heap.size) (E.cells x) ((cs.drop ((k + i) * E.size)).take E.size)) →
          RepL W (fun b => b < W.heap.size) (l.flatMap E.cells) ((cs.drop (k * E.size)).take (l.length * E.size)) := by
        intro l
        induction l with
        | nil => intro k _; simp [RepL.nil]
        | cons x l ih =>
          intro k h
          have h1 := h 0 x rfl
          have h2 := ih (k + 1) fun i y hi => by
            have := h (i + 1) y (by simpa using hi)
            rwa [show k + (i + 1) = k + 1 + i by omega] at this
          have := h1.append h2
          rw [List.flatMap_cons, List.length_cons, Nat.succ_mul, Nat.add_comm (l.length * E.size), List.take_add, List.drop_drop]
          rwa [Nat.add_zero, Nat.succ_mul] at this
      have := main l 0 fun i x hi => by rw [Nat.zero_add]; exact (hR i x hi).2
      rw [Nat.zero_mul, List.drop_zero, hl', List.take_of_length_le (by omega)] at this
      exact this
    · cases hT
end
end Go.Proofs.YtljcbmnkjiogmaaDoor.Sv
/-! A statement's row from what is known of its function's calls. -/
namespace Go.Proofs.YtljcbmnkjiogmaaDoor.Sv
open Go Go.RowKit Go.ChangeShapes
set_option linter.unusedVariables false
set_option linter.unusedSimpArgs false

/-- The arguments, one behind the other. -/
def Ty.ofArgs (P : Program) (m : Nat) : List TypeId → Option Ty
  | [] => some .nil
  | t :: ts => match Ty.of P m t, Ty.ofArgs P m ts with
    | some A, some C => some (.pair A C)
    | _, _ => none
def Ty.vals : (t : Ty) → t.T → List V
  | .pair a c, x => a.val x.1 :: c.vals x.2
  | _, _ => []
section
variable {H : Type} {enc : TypeId × Value → H} {P : Program} {W : World} {sp : Nat → Bool} {held : Bool}
theorem ofFields_agg {of : TypeId → Option Ty} : ∀ {fs : List Field} {off : Nat} {T : Ty}, Ty.ofFields P of off fs = some T → ∀ a : T.T, T.val a = .agg (T.cells a)
  | [], off, T, h, a => by cases h; rfl
  | f :: fs, off, T, h, a => by
    unfold Ty.ofFields at h
    split at h
    · split at h
      · simp only [Option.map_eq_some_iff] at h
        obtain ⟨C, _, rfl⟩ := h
        rfl
      · cases h
    · cases h
theorem val_rep {m : Nat} {t : TypeId} {T : Ty} {v : Value} {d : DataW H} {ps : List MemPlace} {r : Reach} {b0 : Nat} (hT : Ty.of P m t = some T) (hsp : ∀ b, sp b = true) (hv : Value.okWide P W r b0 t v)
    (h : DataW.Trod enc P W 0 sp held t v d ps) (hw : (d.weights P t).all (· ≤ reachBytes) = true) : ∃ a : T.T, T.inn a ∧ RepV W (fun b => b < W.heap.size) (T.val a) v := by
  obtain ⟨fuel, h⟩ := h
  obtain ⟨a, ha, hr⟩ := trod_ty hsp m t T hT fuel _ _ h hw
  refine ⟨a, ha, ?_⟩
  cases m with
  | zero => cases hT
  | succ m =>
  unfold Ty.of at hT
  unfold Value.okWide at hv
  have one : ∀ {x : V}, RepL W (fun b => b < W.heap.size) [x] [v] → RepV W (fun b => b < W.heap.size) x v := fun h => by
    obtain ⟨u, hu, hr⟩ := h.2 0 _ rfl
    cases hu; exact hr
  split at hT <;> rename_i ht
  · cases hT
    rw [ht] at hv
    simp only [Cell.okWide, ht, Cell.ok] at hv
    split at hv <;> first | (exact one hr) | (exact hv.elim) | (simp_all; done)
  · cases hT
    rw [ht] at hv
    simp only [Cell.okWide, ht, Cell.ok] at hv
    split at hv <;> first | (exact one hr) | (exact hv.elim) | (simp_all; done)
  · cases hT
    rw [ht] at hv
    simp only [Cell.okWide, ht, Cell.ok] at hv
    split at hv <;> first | (exact one hr) | (exact hv.elim) | (simp_all; done)
  · rename_i e
    split at hT
    case h_2 => cases hT
    split at hT <;> cases hT
    rw [ht] at hv
    simp only [Cell.okWide, ht, Cell.ok] at hv
    split at hv <;> first | (exact one hr) | (exact hv.elim) | (simp_all; done)
  · rename_i fs
    split at hT
    case h_2 => cases hT
    rename_i A hA
    split at hT <;> cases hT
    rw [ht] at hv
    obtain ⟨cs, rfl, _⟩ := hv
    rw [ofFields_agg hA]
    exact RepL.agg hr
  · split at hT
    case h_2 => cases hT
    split at hT <;> cases hT
    rw [ht] at hv
    obtain ⟨cs, rfl, _⟩ := hv
    exact RepL.agg hr
  · cases hT
theorem args_rep {m : Nat} {r : Reach} {b0 : Nat} (hsp : ∀ b, sp b = true) : ∀ {ts : List TypeId} {T : Ty} {vs : List Value} {ds : List (DataW H)} {ps : List MemPlace}, Ty.ofArgs P m ts = some T →
    (∀ (j : Nat) t v, ts[j]? = some t → vs[j]? = some v → Value.okWide P W r b0 t v) → DataW.TrodAll enc P W 0 sp held ts vs ds ps → (DataW.weightsEach P ts ds).all (· ≤ reachBytes) = true →
    ∃ a : T.T, T.inn a ∧ RepL W (fun b => b < W.heap.size) (T.vals a) vs
  | [], T, vs, ds, ps, hT, hv, h, hw => by
    cases hT
    obtain ⟨rfl, rfl, rfl⟩ := trodAll_nil h
    exact ⟨(), trivial, .nil⟩
  | t :: ts, T, vs, ds, ps, hT, hv, h, hw => by
    unfold Ty.ofArgs at hT
    split at hT <;> cases hT
    rename_i A C hA hC
    obtain ⟨v, vs', d, ds', p, q, rfl, rfl, rfl, h1, h2⟩ := trodAll_cons h
    simp only [DataW.weightsEach, List.all_append, Bool.and_eq_true] at hw
    obtain ⟨a, ha, hra⟩ := val_rep hA hsp (hv 0 t v rfl rfl) h1 hw.1
    obtain ⟨c, hc, hrc⟩ := args_rep hsp hC (fun j t v h1 h2 => hv (j + 1) t v (by simpa using h1) (by simpa using h2)) h2 hw.2
    exact ⟨(a, c), ⟨ha, hc⟩, .cons hra hrc⟩
theorem trodAll_len : ∀ {ts : List TypeId} {vs : List Value} {ds : List (DataW H)} {ps : List MemPlace}, DataW.TrodAll enc P W 0 sp held ts vs ds ps → ds.length = ts.length
  | [], vs, ds, ps, h => by obtain ⟨rfl, rfl, rfl⟩ := trodAll_nil h; rfl
  | t :: ts, vs, ds, ps, h => by
    obtain ⟨v, vs', d, ds', p, q, rfl, rfl, rfl, h1, h2⟩ := trodAll_cons h
    simp [trodAll_len h2]
theorem weightsEach_cut : ∀ {ts ts' : List TypeId} {ds : List (DataW H)}, ds.length = ts.length → DataW.weightsEach P (ts ++ ts') ds = DataW.weightsEach P ts ds
  | [], ts', ds, h => by obtain rfl : ds = [] := List.length_eq_zero_iff.1 h; cases ts' <;> rfl
  | t :: ts, ts', [], h => by simp at h
  | t :: ts, ts', d :: ds, h => by simp only [List.cons_append, DataW.weightsEach, weightsEach_cut (by simpa using h)]
/-- Arguments read behind the call as they did ahead of it. -/
theorem args_stay (hl : laidOutB P = true) {W' : World} (hb : Below W.heap.size W W') : ∀ {ts : List TypeId} {vs : List Value} {ds : List (DataW H)} {ps : List MemPlace},
    ts.all (fun t => P.readableRec t && decide (t < P.types.size)) = true → DataW.TrodAll enc P W 0 (fun _ => true) true ts vs ds ps → DataW.TrodAll enc P W' 0 (fun b => decide (b < W.heap.size)) true ts vs ds ps
  | [], vs, ds, ps, _, h => by obtain ⟨rfl, rfl, rfl⟩ := trodAll_nil h; exact rfl
  | t :: ts, vs, ds, ps, hr, h => by
    have hlt := h.lt
    obtain ⟨v, vs', d, ds', p, q, rfl, rfl, rfl, h1, h2⟩ := trodAll_cons h
    simp only [List.all_cons, Bool.and_eq_true, decide_eq_true_eq] at hr
    exact ⟨p, q, Below.trod hl hr.1.1 hr.1.2 h1 hb fun x hx => hlt x (by simp [hx]), args_stay hl hb hr.2 h2, rfl⟩
/-- A function with a text is entered. -/
theorem callFunc_of {f : FuncId} {fn : Func} {ad : Ad} {hs : List (List Nat)} (hfn : P.funcs[f]? = some fn) (hF : (Fn1.of P f ad hs).isSome = true) (us : Array Value) (w : World) : (callFunc f us).run P w = .ok (.enter f us) w := by
  cases hF' : Fn1.of P f ad hs with
  | none => rw [hF'] at hF; cases hF
  | some F =>
  unfold Fn1.of at hF'
  rw [hfn] at hF'
  simp only at hF'
  split at hF'
  case h_2 => cases hF'
  rename_i c hb
  split at hF'
  case h_2 => cases hF'
  split at hF'
  · cases hF'
  rename_i hname
  simp only [callFunc, Sem.run_bind, run_program, Result.andThen_ok, hfn]
  rw [if_neg hname]
  simp [hb]
/-- A statement that says true of whatever comes in. -/
theorem contract_of_pure {f : FuncId} {fn : Func} {hs : List (List Nat)} {s : ChangeSpec} {args : Array Value} {ds gs : List (DataW H)} {before : List MemPlace} {T : Ty} {tb : TypeId}
    {ad : Ad} (hfn : P.funcs[f]? = some fn) (hF : (Fn1.of P f ad hs).isSome = true) (hl : laidOutB P = true) (hrec : fn.params.toList.all (fun t => P.readableRec t && decide (t < P.types.size)) = true)
    (hres : fn.resultTypes = #[tb]) (htb : P.underlying tb = some .bool) (hvars : s.vars = []) (hs' : ∀ ds : List (DataW H), ds.length = fn.params.toList.length → s.fn H ds = { results := [.lit (.bool true)], args := ds })
    (hT : Ty.ofArgs P 100 fn.params.toList = some T) (hp : ∀ a : T.T, T.inn a → Pure P f (T.vals a) (.b true))
    (hlaid : Laid W) {base : Nat} (hval : ∀ (j : Nat) t v, fn.params[j]? = some t → args[j]? = some v → Value.okWide P W .any base t v)
    (hW : DataW.Whole enc P fn.params.toList s.vars false W args.toList ds gs before)
    (hsz : (DataW.weightsEach P (fn.params.toList ++ s.plain.varTypes P) (ds ++ gs)).all (· ≤ reachBytes) = true) :
    Calls P f args W fun e W' => ∃ v, e = .returned v ∧ s.post enc P fn false true false false W args v W' := by
  have hW0 := hW
  obtain ⟨p, q, hA, hV, rfl, hfz, hnd⟩ := hW
  rw [hvars] at hV
  obtain ⟨rfl, rfl⟩ := trodVars_none hV
  have hlen := trodAll_len hA
  rw [List.append_nil, weightsEach_cut hlen] at hsz
  obtain ⟨a, ha, hr⟩ := args_rep (fun _ => rfl) hT (fun j t v h1 h2 => hval j t v (by simpa using h1) (by simpa using h2)) hA hsz
  have hc := hp a ha W (fun _ => False) args.toList hlaid (fun b h => h.elim) (hr.mono fun b hb => ⟨⟨hb, fun h => h⟩, rfl⟩)
  unfold CallOk at hc
  rw [callFunc_of hfn hF] at hc
  obtain ⟨_, _, _, hc⟩ := hc
  rw [Array.toArray_toList] at hc
  refine hc.mono fun e W' ⟨u, he, hu, bel⟩ => ?_
  cases hu
  refine ⟨_, he, ds, [], p ++ [], [], p, [], hW0, ?_, ?_, ?_, bel.frame _, fun h => by cases h⟩
  · rw [List.append_nil, hs' ds hlen, hres]
    exact trodAll_mk1 (shut_bool htb _)
  · rw [List.append_nil, hs' ds hlen]
    exact args_stay hl bel hrec hA
  · rw [List.append_nil, hs' ds hlen, hvars]
    exact rfl
end
end Go.Proofs.YtljcbmnkjiogmaaDoor.Sv
/-! Lemmas for the use of all this: rows of values, numbers in range. -/
namespace Go.Proofs.YtljcbmnkjiogmaaDoor.Sv
open Go Go.RowKit
set_option linter.unusedVariables false
set_option linter.unusedSimpArgs false

/-- What holds of a value holds of another. -/
def VLe (v v' : V) : Prop := ∀ (w : World) (ok : Nat → Prop) (u : Value), RepV w ok v u → RepV w ok v' u
theorem VLe.refl (v : V) : VLe v v := fun _ _ _ h => h
theorem VLe.loose {n : Nat} {cells : List V} {t : Bool} : VLe (.sl n cells t) (.sl n cells false) := fun w ok u h => by
  cases h with
  | sl0 _ a => exact .sl0 _ _
  | sl _ _ _ us bl off cap hok hl ht hc hr => exact .sl _ _ _ us bl off cap hok hl (fun h => by cases h) hc hr
inductive VLes : List V → List V → Prop
  | nil : VLes [] []
  | cons {v v' : V} {vs vs' : List V} (h : VLe v v') (hs : VLes vs vs') : VLes (v :: vs) (v' :: vs')
theorem VLes.rep {w : World} {ok : Nat → Prop} {vs vs' : List V} (h : VLes vs vs') : ∀ {us : List Value}, RepL w ok vs us → RepL w ok vs' us := by
  induction h with
  | nil => intro us h; exact h
  | cons h hs ih =>
    intro us hr
    obtain ⟨u, us', rfl, h1, h2⟩ := hr.head
    exact .cons (h _ _ _ h1) (ih h2)
theorem Pure.of {P : Program} {f : FuncId} {vs vs' : List V} {r : V} (hle : VLes vs vs') (h : Pure P f vs' r) : Pure P f vs r := fun w U us hL hU hr => h w U us hL hU (hle.rep hr)
theorem wrap64 {n : Int} (h1 : -9223372036854775808 ≤ n) (h2 : n ≤ 9223372036854775807) : IntKind.i64.wrap n = n := IntWalk.i64_in n ⟨h1, h2⟩
theorem w64 {n : Int} (h : -9223372036854775808 ≤ n ∧ n ≤ 9223372036854775807) : IntKind.i64.wrap n = n := IntWalk.i64_in n h
theorem w32 {n : Int} (h : -2147483648 ≤ n ∧ n ≤ 2147483647) : IntKind.i32.wrap n = n := IntWalk.i32_in n h
theorem wu64 {n : Int} (h : 0 ≤ n ∧ n ≤ 18446744073709551615) : IntKind.u64.wrap n = n := IntWalk.u64_in n h
theorem wu8 {n : Int} (h : 0 ≤ n ∧ n ≤ 255) : IntKind.u8.wrap n = n := IntWalk.u8_in n h
theorem wu32 {n : Int} (h : 0 ≤ n ∧ n ≤ 4294967295) : IntKind.u32.wrap n = n := IntWalk.u32_in n h
theorem tdivC {x c : Int} (hc : 0 < c) : x.tdiv c = if 0 ≤ x then x / c else -(-x / c) := by
  split
  · exact Int.tdiv_eq_ediv_of_nonneg (by assumption)
  · rename_i h
    rw [← Int.tdiv_eq_ediv_of_nonneg (by omega), Int.neg_tdiv, Int.neg_neg]
theorem tmodC {x c : Int} (hc : 0 < c) : x.tmod c = if 0 ≤ x then x % c else -(-x % c) := by
  split
  · exact Int.tmod_eq_emod_of_nonneg (by assumption)
  · rename_i h
    rw [← Int.tmod_eq_emod_of_nonneg (by omega), Int.neg_tmod, Int.neg_neg]
theorem flatMap_drop {α β : Type} {f : α → List β} {z : Nat} (hz : ∀ x, (f x).length = z) : ∀ {l : List α} {i : Nat}, (l.flatMap f).drop (i * z) = (l.drop i).flatMap f
  | [], i => by simp
  | x :: l, 0 => by simp
  | x :: l, i + 1 => by
    rw [List.flatMap_cons, Nat.succ_mul, Nat.add_comm, ← List.drop_drop, List.drop_left' (hz x), List.drop_succ_cons]
    exact flatMap_drop hz
/-- An element's address. -/
theorem row_ia {objs : List (Nat × List V)} {z n : Nat} {cells : List V} {t : Bool} {k : IntKind} {i : Int} (h0 : 0 ≤ i) (h1 : i < n) :
    (SO.ia none z).rdx objs [.v (.sl n cells t), .v (.n k i)] = some (.v (.ip (cells.drop (i.toNat * z)))) := by
  simp only [SO.rdx, SO.rd, iaD]
  rw [if_pos (by omega)]
/-- An element of a row of structs. -/
theorem row_ld {hd : Bool} {α : Type} {objs : List (Nat × List V)} {f : α → List V} {z : Nat} (hz : ∀ x, (f x).length = z) {l : List α} {i : Int} {k : Nat} (hi : i = k) {x : α} (hx : l[k]? = some x) :
    (SO.ld true z hd).rdx objs [.v (.ip ((l.flatMap f).drop (i.toNat * z)))] = some (.v (.agg (f x))) := by
  subst hi
  obtain ⟨hk, rfl⟩ := List.getElem?_eq_some_iff.1 hx
  simp only [Int.toNat_natCast, flatMap_drop hz, SO.rdx, SO.rd, deref, Option.bind_some, ldD]
  rw [List.drop_eq_getElem_cons hk, List.flatMap_cons]
  simp [hz]
/-- An element of a row of single cells. -/
theorem row_ld1 {hd : Bool} {α : Type} {objs : List (Nat × List V)} {f : α → V} {l : List α} {i : Int} {k : Nat} (hi : i = k) {x : α} (hx : l[k]? = some x) :
    (SO.ld false 1 hd).rdx objs [.v (.ip ((l.flatMap fun x => [f x]).drop (i.toNat * 1)))] = some (.v (f x)) := by
  subst hi
  obtain ⟨hk, rfl⟩ := List.getElem?_eq_some_iff.1 hx
  simp only [Int.toNat_natCast, flatMap_drop (f := fun x => [f x]) (z := 1) (fun _ => rfl), SO.rdx, SO.rd, deref, Option.bind_some, ldD]
  rw [List.drop_eq_getElem_cons hk, List.flatMap_cons]
  simp
/-- A field of an element of a row of structs. -/
theorem row_fld {hd : Bool} {α : Type} {objs : List (Nat × List V)} {f : α → List V} {z : Nat} (hz : ∀ x, (f x).length = z) {l : List α} {i : Int} {k : Nat} (hi : i = k) {x : α} (hx : l[k]? = some x) {off : Nat} {v : V} (hv : (f x)[off]? = some v) :
    (SO.ld false 1 hd).rdx objs [.v (.ip (((l.flatMap f).drop (i.toNat * z)).drop off))] = some (.v v) := by
  subst hi
  obtain ⟨hk, rfl⟩ := List.getElem?_eq_some_iff.1 hx
  simp only [Int.toNat_natCast, flatMap_drop hz, SO.rdx, SO.rd, deref, Option.bind_some, ldD]
  rw [List.drop_eq_getElem_cons hk, List.flatMap_cons]
  have hlt := (List.getElem?_eq_some_iff.1 hv).1
  have : (List.drop off (f l[k] ++ List.flatMap f (List.drop (k + 1) l)))[0]? = some v := by
    rw [List.getElem?_drop, show off + 0 = off from rfl, List.getElem?_append_left hlt, hv]
  simp [this]
theorem drop_step {α : Type} {l : List α} {k : Nat} {x : α} {r : List α} (h : l.drop k = x :: r) : l[k]? = some x ∧ l.drop (k + 1) = r ∧ k < l.length ∧ l.length = k + r.length + 1 := by
  have hk : k < l.length := by
    rcases Nat.lt_or_ge k l.length with h' | h'
    · exact h'
    · rw [List.drop_eq_nil_of_le h'] at h; cases h
  rw [List.drop_eq_getElem_cons hk] at h
  cases h
  exact ⟨by simp [hk], rfl, hk, by simp; omega⟩
theorem drop_nil {α : Type} {l : List α} {k : Nat} (h : l.drop k = []) : l.length ≤ k := by simpa using h
theorem get_mid {α : Type} {pre suf : List α} {x : α} : (pre ++ x :: suf)[pre.length]? = some x := by simp
end Go.Proofs.YtljcbmnkjiogmaaDoor.Sv
/-! More lemmas for the use of all this: loops by a measure, rows that are built, results that say less. -/
namespace Go.Proofs.YtljcbmnkjiogmaaDoor.Sv
open Go Go.RowKit
set_option linter.unusedVariables false
set_option linter.unusedSimpArgs false

/-- A loop whose states are told by a; μ falls. -/
theorem loop_ind {P : Program} {live : List Nat} {x : SC} {Q : Exit → St → Prop} {α : Type} (S : α → St) (μ : α → Nat) (I : α → Prop) (a : α) (ha : I a)
    (h : ∀ a, I a → (∀ a', I a' → μ a' < μ a → loopW P live x Q (S a')) → x.wp P (thenQ (fun st' => keepK live st' fun st => loopW P live x Q st) Q) (S a)) : loopW P live x Q (S a) := by
  have main : ∀ n a, I a → μ a < n → loopW P live x Q (S a) := by
    intro n
    induction n with
    | zero => intro a _ hlt; omega
    | succ n ih => intro a hI hlt; exact loop_unroll (h a hI fun a' hI' hlt' => ih a' hI' (by omega))
  exact main (μ a + 1) a ha (by omega)
theorem loop_ind2 {P : Program} {live : List Nat} {x : SC} {Q : Exit → St → Prop} {α β : Type} (S : α → β → St) (μ : α → β → Nat) (I : α → β → Prop) (a : α) (b : β) (ha : I a b)
    (h : ∀ a b, I a b → (∀ a' b', I a' b' → μ a' b' < μ a b → loopW P live x Q (S a' b')) → x.wp P (thenQ (fun st' => keepK live st' fun st => loopW P live x Q st) Q) (S a b)) : loopW P live x Q (S a b) :=
  loop_ind (fun p : α × β => S p.1 p.2) (fun p => μ p.1 p.2) (fun p => I p.1 p.2) (a, b) ha fun p hp ih => h p.1 p.2 hp fun a' b' => ih (a', b')
theorem loop_ind3 {P : Program} {live : List Nat} {x : SC} {Q : Exit → St → Prop} {α β γ : Type} (S : α → β → γ → St) (μ : α → β → γ → Nat) (I : α → β → γ → Prop) (a : α) (b : β) (c : γ) (ha : I a b c)
    (h : ∀ a b c, I a b c → (∀ a' b' c', I a' b' c' → μ a' b' c' < μ a b c → loopW P live x Q (S a' b' c')) → x.wp P (thenQ (fun st' => keepK live st' fun st => loopW P live x Q st) Q) (S a b c)) : loopW P live x Q (S a b c) :=
  loop_ind (fun p : α × β × γ => S p.1 p.2.1 p.2.2) (fun p => μ p.1 p.2.1 p.2.2) (fun p => I p.1 p.2.1 p.2.2) (a, b, c) ha fun p hp ih => h p.1 p.2.1 p.2.2 hp fun a' b' c' => ih (a', b', c')
theorem loop_ind4 {P : Program} {live : List Nat} {x : SC} {Q : Exit → St → Prop} {α β γ δ : Type} (S : α → β → γ → δ → St) (μ : α → β → γ → δ → Nat) (I : α → β → γ → δ → Prop) (a : α) (b : β) (c : γ) (d : δ) (ha : I a b c d)
    (h : ∀ a b c d, I a b c d → (∀ a' b' c' d', I a' b' c' d' → μ a' b' c' d' < μ a b c d → loopW P live x Q (S a' b' c' d')) → x.wp P (thenQ (fun st' => keepK live st' fun st => loopW P live x Q st) Q) (S a b c d)) : loopW P live x Q (S a b c d) :=
  loop_ind (fun p : α × β × γ × δ => S p.1 p.2.1 p.2.2.1 p.2.2.2) (fun p => μ p.1 p.2.1 p.2.2.1 p.2.2.2) (fun p => I p.1 p.2.1 p.2.2.1 p.2.2.2) (a, b, c, d) ha fun p hp ih => h p.1 p.2.1 p.2.2.1 p.2.2.2 hp fun a' b' c' d' => ih (a', b', c', d')
theorem wm64 (n : Int) : IntKind.i64.wrap n = (n + 9223372036854775808) % 18446744073709551616 - 9223372036854775808 := by rw [IntKind.wrap_i64]
theorem wmu64 (n : Int) : IntKind.u64.wrap n = n % 18446744073709551616 := by rw [IntKind.wrap_u64]
theorem DecK.yes {x : Bool} {K : Bool → Prop} (h : x = true) (hk : K true) : DecK x K := ⟨fun _ => hk, fun h' => by rw [h] at h'; cases h'⟩
theorem DecK.no {x : Bool} {K : Bool → Prop} (h : x = false) (hk : K false) : DecK x K := ⟨fun h' => by (rw [h] at h'; cases h'), fun _ => hk⟩
theorem DecK.both {x : Bool} {K : Bool → Prop} (ht : x = true → K true) (hf : x = false → K false) : DecK x K := ⟨ht, hf⟩
/-- The state behind a piece of code, but for what a tells. -/
inductive Mid {α : Type} (S : α → St) (I : α → Prop) (e : Exit) (st : St) : Prop
  | mk (a : α) (he : e = .normal) (hs : st = S a) (h : I a)
theorem seq_mid {P : Program} {x y : SC} {Q : Exit → St → Prop} {st : St} {α : Type} (S : α → St) (I : α → Prop) (hx : x.wp P (fun e st' => Mid S I e st') st) (hy : ∀ a, I a → y.wp P Q (S a)) : (SC.seq x y).wp P Q st := by
  unfold SC.wp
  refine SC.wp_mono x (fun e st' h => ?_) hx
  obtain ⟨a, rfl, rfl, hI⟩ := h
  exact hy a hI
theorem optS {α : Type} {o : Option α} {K : α → Prop} (x : α) (h : o = some x) (hk : K x) : optK o K := by rw [h]; exact hk
/-! ### Results that say less -/
theorem Pure.le {P : Program} {f : FuncId} {vs : List V} {r r' : V} (h : Pure P f vs r) (hle : VLe r r') : Pure P f vs r' := fun w U us hL hU hus => by
  have h := h w U us hL hU hus
  unfold CallOk at h ⊢
  split at h
  · obtain ⟨g1, g2, g3, g4⟩ := h
    exact ⟨g1, g2, g3, g4.mono fun e w' ⟨u, h1, h2, h3⟩ => ⟨u, h1, hle _ _ _ h2, h3⟩⟩
  · obtain ⟨u, h1, h2, h3⟩ := h
    exact ⟨u, h1, hle _ _ _ h2, h3⟩
  · exact h.elim
theorem Pure.args {P : Program} {f : FuncId} {vs vs' : List V} {r : V} (h : Pure P f vs r) (e : vs' = vs) : Pure P f vs' r := e ▸ h
theorem VLe.trans {a b c : V} (h : VLe a b) (h' : VLe b c) : VLe a c := fun w ok u hr => h' w ok u (h w ok u hr)
theorem VLes.agg {xs ys : List V} (h : VLes xs ys) : VLe (.agg xs) (.agg ys) := fun w ok u hr => by
  cases hr with | agg _ us hl hr =>
  have := (h.rep (RepL.of_array hl hr)).to_array
  exact .agg _ us (by simpa using this.1) (fun i v hi => by simpa using this.2 i v hi)
theorem VLes.tup {xs ys : List V} (h : VLes xs ys) : VLe (.tup xs) (.tup ys) := fun w ok u hr => by
  cases hr with | tup _ us hl hr =>
  have := (h.rep (RepL.of_array hl hr)).to_array
  exact .tup _ us (by simpa using this.1) (fun i v hi => by simpa using this.2 i v hi)
theorem VLes.refl : ∀ (xs : List V), VLes xs xs
  | [] => .nil
  | x :: xs => .cons (.refl x) (VLes.refl xs)
/-! ### Operations that may fail -/
theorem op_shl {objs : List (Nat × List V)} {k k' : IntKind} {x y : Int} (h0 : 0 ≤ y) (h1 : y.toNat ≤ k.bits) :
    (SO.po (.bin .shl)).rdx objs [.v (.n k x), .v (.n k' y)] = some (.v (.n k (k.wrap (x * 2 ^ y.toNat)))) := by
  simp only [SO.rdx, SO.rd, allV, Option.map_some, Option.bind_some, PO.run, binL, binV, BinOp.isShift, if_true, binI]
  rw [if_neg (by omega), Nat.min_eq_left h1]
  rfl
theorem op_shr {objs : List (Nat × List V)} {k k' : IntKind} {x y : Int} (h0 : 0 ≤ y) (h1 : y.toNat ≤ k.bits) :
    (SO.po (.bin .shr)).rdx objs [.v (.n k x), .v (.n k' y)] = some (.v (.n k (x / 2 ^ y.toNat))) := by
  simp only [SO.rdx, SO.rd, allV, Option.map_some, Option.bind_some, PO.run, binL, binV, BinOp.isShift, if_true, binI]
  rw [if_neg (by omega), Nat.min_eq_left h1, Int.fdiv_eq_ediv_of_nonneg _ (Int.le_of_lt (Int.pow_pos (by decide)))]
  rfl
theorem op_quo {objs : List (Nat × List V)} {k : IntKind} {x y : Int} (h0 : y ≠ 0) : (SO.po (.bin .quo)).rdx objs [.v (.n k x), .v (.n k y)] = some (.v (.n k (k.wrap (x.tdiv y)))) := by
  simp only [SO.rdx, SO.rd, allV, Option.map_some, Option.bind_some, PO.run, binL, binV, BinOp.isShift, Bool.false_eq_true, if_false, if_true, binI]
  rw [if_neg h0]
  rfl
theorem op_rem {objs : List (Nat × List V)} {k : IntKind} {x y : Int} (h0 : y ≠ 0) : (SO.po (.bin .rem)).rdx objs [.v (.n k x), .v (.n k y)] = some (.v (.n k (x.tmod y))) := by
  simp only [SO.rdx, SO.rd, allV, Option.map_some, Option.bind_some, PO.run, binL, binV, BinOp.isShift, Bool.false_eq_true, if_false, if_true, binI]
  rw [if_neg h0]
  rfl
/-! ### Rows -/
@[reducible] def ni (x : Int) : List V := [.n .i64 x]
/-- A row of things with their cells. -/
abbrev rowV {α : Type} (f : α → List V) (l : List α) : V := .sl l.length (l.flatMap f) false
abbrev intsV (l : List Int) : V := .sl l.length (l.flatMap ni) false
section
variable {α : Type} {f : α → List V} {z : Nat}
theorem flatMap_take (hz : ∀ x, (f x).length = z) : ∀ {l : List α} {i : Nat}, (l.flatMap f).take (i * z) = (l.take i).flatMap f
  | [], i => by simp
  | x :: l, 0 => by simp
  | x :: l, i + 1 => by
    rw [List.flatMap_cons, Nat.succ_mul, Nat.add_comm, List.take_add, List.take_left' (hz x), List.drop_left' (hz x), List.take_succ_cons, List.flatMap_cons]
    rw [flatMap_take hz]
theorem flatMap_length (hz : ∀ x, (f x).length = z) (l : List α) : (l.flatMap f).length = l.length * z := flatMap_len fun x _ => hz x
/-- A part of a row. -/
theorem row_sl {objs : List (Nat × List V)} (hz : ∀ x, (f x).length = z) {l : List α} {t : Bool} {k : IntKind} {i j : Int} (h0 : 0 ≤ i) (h1 : i ≤ j) (h2 : j ≤ l.length) :
    (SO.sl false z true true false).rdx objs [.v (.sl l.length (l.flatMap f) t), .v (.n k i), .v (.n k j)] = some (.v (.sl ((l.take j.toNat).drop i.toNat).length (((l.take j.toNat).drop i.toNat).flatMap f) false)) := by
  simp only [SO.rdx, SO.rd, slArgs, optArg, if_true, Option.bind_some, Bool.false_and, Bool.false_eq_true, if_false, slD, optN, h0, show 0 ≤ j by omega]
  rw [if_pos (by omega), flatMap_drop hz, flatMap_take hz]
  simp only [Option.isNone_some, Bool.and_false, List.length_drop, List.length_take, List.drop_take]
  congr 3
  omega
theorem row_to {objs : List (Nat × List V)} (hz : ∀ x, (f x).length = z) {l : List α} {t : Bool} {k : IntKind} {j : Int} (h1 : 0 ≤ j) (h2 : j ≤ l.length) :
    (SO.sl false z false true false).rdx objs [.v (.sl l.length (l.flatMap f) t), .v (.n k j)] = some (.v (.sl (l.take j.toNat).length ((l.take j.toNat).flatMap f) false)) := by
  simp only [SO.rdx, SO.rd, slArgs, optArg, if_true, Option.bind_some, Bool.false_and, Bool.false_eq_true, if_false, slD, optN, h1]
  rw [if_pos (by omega), Nat.zero_mul, List.drop_zero, Nat.sub_zero, flatMap_take hz]
  simp only [Option.isNone_some, Bool.and_false, List.length_take]
  congr 3
  omega
theorem row_from {objs : List (Nat × List V)} (hz : ∀ x, (f x).length = z) {l : List α} {t : Bool} {k : IntKind} {i : Int} (h0 : 0 ≤ i) (h2 : i ≤ l.length) :
    (SO.sl false z true false false).rdx objs [.v (.sl l.length (l.flatMap f) t), .v (.n k i)] = some (.v (.sl (l.drop i.toNat).length ((l.drop i.toNat).flatMap f) t)) := by
  simp only [SO.rdx, SO.rd, slArgs, optArg, if_true, Option.bind_some, Bool.false_and, Bool.false_eq_true, if_false, slD, optN, h0]
  rw [if_pos (by omega), flatMap_drop hz]
  simp only [Option.isNone_none, Bool.and_true, List.length_drop]
  rw [List.take_of_length_le (by rw [flatMap_length hz, List.length_drop]; exact Nat.le_refl _)]
/-! ### Own rows -/
theorem own_ia {objs : List (Nat × List V)} {s z off n : Nat} {k : IntKind} {i : Int} (h0 : 0 ≤ i) (h1 : i < n) :
    (SO.ia none z).rdx objs [.own s z off n, .v (.n k i)] = some (.ref s (off + i.toNat * z)) := by
  simp only [SO.rdx, SO.rd, iaD]
  rw [if_pos ⟨h0, h1, trivial⟩]
theorem own_ld {hd : Bool} {objs : List (Nat × List V)} {s : Nat} {l : List α} (hz : ∀ x, (f x).length = z) (ho : look objs s = some (l.flatMap f)) {i : Int} {k : Nat} (hi : i = k) {x : α} (hx : l[k]? = some x) :
    (SO.ld true z hd).rdx objs [.ref s (0 + i.toNat * z)] = some (.v (.agg (f x))) := by
  subst hi
  obtain ⟨hk, rfl⟩ := List.getElem?_eq_some_iff.1 hx
  simp only [Int.toNat_natCast, SO.rdx, SO.rd, deref, ho, Option.map_some, Nat.zero_add, flatMap_drop hz, Option.bind_some, ldD]
  rw [List.drop_eq_getElem_cons hk, List.flatMap_cons]
  simp [hz]
theorem own_ld1 {hd : Bool} {objs : List (Nat × List V)} {s : Nat} {g : α → V} {l : List α} (ho : look objs s = some (l.flatMap fun x => [g x])) {i : Int} {k : Nat} (hi : i = k) {x : α} (hx : l[k]? = some x) :
    (SO.ld false 1 hd).rdx objs [.ref s (0 + i.toNat * 1)] = some (.v (g x)) := by
  subst hi
  obtain ⟨hk, rfl⟩ := List.getElem?_eq_some_iff.1 hx
  simp only [Int.toNat_natCast, SO.rdx, SO.rd, deref, ho, Option.map_some, Nat.zero_add, flatMap_drop (f := fun x => [g x]) (z := 1) (fun _ => rfl), Option.bind_some, ldD]
  rw [List.drop_eq_getElem_cons hk, List.flatMap_cons]
  simp
theorem flatMap_setL (hz : ∀ x, (f x).length = z) : ∀ {l : List α} {k : Nat} {x : α}, k < l.length → setL (l.flatMap f) (k * z) (f x) = (l.set k x).flatMap f := by
  have skip : ∀ (vs a b : List V) (o : Nat), setL (a ++ b) (a.length + o) vs = a ++ setL b o vs := by
    intro vs
    induction vs with
    | nil => intro a b o; rfl
    | cons v vs ih =>
      intro a b o
      simp only [setL]
      rw [List.set_append_right _ _ (by omega), show a.length + o - a.length = o by omega, Nat.add_assoc, ih]
  have head : ∀ (vs a b : List V), a.length = vs.length → setL (a ++ b) 0 vs = vs ++ b := by
    have gen : ∀ (vs p a b : List V), a.length = vs.length → setL (p ++ (a ++ b)) p.length vs = p ++ (vs ++ b) := by
      intro vs
      induction vs with
      | nil => intro p a b h; simp at h; subst h; rfl
      | cons v vs ih =>
        intro p a b h
        cases a with
        | nil => simp at h
        | cons w a =>
          simp only [setL]
          rw [List.set_append_right _ _ (Nat.le_refl _), Nat.sub_self]
          have := ih (p ++ [v]) a b (by simpa using h)
          simp only [List.length_append, List.length_cons, List.length_nil, List.append_assoc, List.cons_append, List.nil_append] at this
          simpa using this
    intro vs a b h
    simpa using gen vs [] a b h
  intro l
  induction l with
  | nil => intro k x h; simp at h
  | cons y l ih =>
    intro k x h
    cases k with
    | zero =>
      rw [Nat.zero_mul, List.flatMap_cons, List.set_cons_zero, List.flatMap_cons]
      exact head _ _ _ (by rw [hz, hz])
    | succ k =>
      rw [List.flatMap_cons, List.set_cons_succ, List.flatMap_cons, Nat.succ_mul, Nat.add_comm]
      have := skip (f x) (f y) (l.flatMap f) (k * z)
      rw [hz] at this
      rw [this, ih (by simpa using h)]
/-- A store to an element. -/
theorem own_st {st : St} {s : Nat} {l : List α} (hz : ∀ x, (f x).length = z) (ho : look st.objs s = some (l.flatMap f)) {i : Int} {x : α} {v : V} (hv : v.cells = f x) (h1 : (f x).all V.one = true) (h0 : 0 ≤ i) (hi : i < l.length) :
    (SO.st z).ef st none [.ref s (0 + i.toNat * z), .v v] = some ⟨st.ρ, upd st.objs s ((l.set i.toNat x).flatMap f)⟩ := by
  have hk : i.toNat < l.length := by omega
  simp only [SO.ef, ho, Option.bind_some, hv, Nat.zero_add, flatMap_length hz]
  have := Nat.mul_le_mul_right z (show i.toNat + 1 ≤ l.length from hk)
  rw [Nat.succ_mul] at this
  rw [if_pos ⟨hz x, this, h1, trivial⟩, flatMap_setL hz hk]
theorem zerosL_rep {x : α} (n : Nat) : zerosL (f x) n = (List.replicate n x).flatMap f := by
  induction n with
  | zero => rfl
  | succ n ih => simp [zerosL, ih, List.replicate_succ]
/-- A new row. -/
theorem own_mk {st : St} {s bytes : Nat} {k k' : IntKind} {n c : Int} {x : α} (h0 : 0 ≤ n) (hc : n ≤ c) (h1 : c * bytes ≤ 2 ^ 48) (h2 : c < 2 ^ 63) :
    (SO.mk z bytes (f x)).ef st (some s) [.v (.n k n), .v (.n k' c)] = some ((st.fresh s ((List.replicate n.toNat x).flatMap f)).put (some s) (.own s z 0 n.toNat)) := by
  simp only [SO.ef]
  rw [if_pos ⟨h0, hc, h1, h2⟩, zerosL_rep]
  rfl
/-- One element more. -/
theorem own_app {st : St} {s0 s bytes : Nat} {l : List α} {x : α} {t : Bool} (hz : ∀ x, (f x).length = z) (ho : look st.objs s0 = some (l.flatMap f)) (h1 : (f x).all V.one = true) (hb : (l.length + 1) * bytes ≤ 2 ^ 47) :
    (SO.app z bytes).ef st (some s) [.own s0 z 0 l.length, .v (.sl 1 (f x) t)] = some ((st.move s0 s0 ((l ++ [x]).flatMap f)).put (some s) (.own s0 z 0 (l ++ [x]).length)) := by
  simp only [SO.ef, ho, Option.bind_some, appArg, Nat.one_mul, hz x, if_true, Nat.zero_add, flatMap_length hz, List.drop_zero]
  rw [if_pos ⟨trivial, trivial, hb, h1⟩, List.flatMap_append]
  simp
/-- A row more. -/
theorem own_apps {st : St} {s0 s bytes : Nat} {l l' : List α} {t : Bool} (hz : ∀ x, (f x).length = z) (ho : look st.objs s0 = some (l.flatMap f)) (h1 : (l'.flatMap f).all V.one = true) (hb : (l.length + l'.length) * bytes ≤ 2 ^ 47) :
    (SO.app z bytes).ef st (some s) [.own s0 z 0 l.length, .v (.sl l'.length (l'.flatMap f) t)] = some ((st.move s0 s0 ((l ++ l').flatMap f)).put (some s) (.own s0 z 0 (l ++ l').length)) := by
  simp only [SO.ef, ho, Option.bind_some, appArg, flatMap_length hz, if_true, Nat.zero_add, List.drop_zero]
  rw [if_pos ⟨trivial, trivial, hb, h1⟩, List.flatMap_append]
  simp
/-- An append onto a row by itself without room. -/
theorem row_appv {objs : List (Nat × List V)} {bytes : Nat} {l l' : List α} {t : Bool} (hz : ∀ x, (f x).length = z) (hb : (l.length + l'.length) * bytes ≤ 2 ^ 47) (h0 : bytes ≠ 0) :
    (SO.appv z bytes).rdx objs [.v (.sl l.length (l.flatMap f) true), .v (.sl l'.length (l'.flatMap f) t)] = some (.v (.sl (l ++ l').length ((l ++ l').flatMap f) false)) := by
  simp only [SO.rdx, appV, appArg, flatMap_length hz, if_true, Option.bind_some]
  rw [if_pos ⟨trivial, hb, h0⟩, List.flatMap_append, List.length_append]
end
section
variable {α : Type} {f : α → List V} {z : Nat} {objs : List (Nat × List V)}
/-! The same, the number of the element given. -/
theorem ria {k : IntKind} {n : Nat} {cells : List V} {t : Bool} {i : Int} (m : Nat) (hi : i = m) (h1 : m < n) :
    (SO.ia none z).rdx objs [.v (.sl n cells t), .v (.n k i)] = some (.v (.ip (cells.drop (m * z)))) := by
  subst hi
  have := row_ia (objs := objs) (z := z) (cells := cells) (t := t) (k := k) (i := (m : Int)) (n := n) (by omega) (by omega)
  simpa using this
theorem rld {hd : Bool} (hz : ∀ x, (f x).length = z) {l : List α} {m : Nat} {x : α} (hx : l[m]? = some x) :
    (SO.ld true z hd).rdx objs [.v (.ip ((l.flatMap f).drop (m * z)))] = some (.v (.agg (f x))) := by
  have := row_ld (hd := hd) (objs := objs) hz (i := (m : Int)) (k := m) rfl hx
  simpa using this
theorem rld1 {hd : Bool} {g : α → V} {l : List α} {m : Nat} {x : α} (hx : l[m]? = some x) :
    (SO.ld false 1 hd).rdx objs [.v (.ip ((l.flatMap fun x => [g x]).drop (m * 1)))] = some (.v (g x)) := by
  have := row_ld1 (hd := hd) (objs := objs) (f := g) (i := (m : Int)) (k := m) rfl hx
  simpa using this
theorem rfld {hd : Bool} (hz : ∀ x, (f x).length = z) {l : List α} {m : Nat} {x : α} (hx : l[m]? = some x) {off : Nat} {v : V} (hv : (f x)[off]? = some v) :
    (SO.ld false 1 hd).rdx objs [.v (.ip (((l.flatMap f).drop (m * z)).drop off))] = some (.v v) := by
  have := row_fld (hd := hd) (objs := objs) hz (i := (m : Int)) (k := m) rfl hx hv
  simpa using this
theorem oia {s off n : Nat} {k : IntKind} {i : Int} (m : Nat) (hi : i = m) (h1 : m < n) : (SO.ia none z).rdx objs [.own s z off n, .v (.n k i)] = some (.ref s (off + m * z)) := by
  subst hi
  have := own_ia (objs := objs) (s := s) (z := z) (off := off) (n := n) (k := k) (i := (m : Int)) (by omega) (by omega)
  simpa using this
theorem old {hd : Bool} {s : Nat} {l : List α} (hz : ∀ x, (f x).length = z) (ho : look objs s = some (l.flatMap f)) {m : Nat} {x : α} (hx : l[m]? = some x) :
    (SO.ld true z hd).rdx objs [.ref s (0 + m * z)] = some (.v (.agg (f x))) := by
  have := own_ld (hd := hd) hz ho (i := (m : Int)) (k := m) rfl hx
  simpa using this
theorem old1 {hd : Bool} {s : Nat} {g : α → V} {l : List α} (ho : look objs s = some (l.flatMap fun x => [g x])) {m : Nat} {x : α} (hx : l[m]? = some x) :
    (SO.ld false 1 hd).rdx objs [.ref s (0 + m * 1)] = some (.v (g x)) := by
  have := own_ld1 (hd := hd) ho (i := (m : Int)) (k := m) rfl hx
  simpa using this
theorem ost {st : St} {s : Nat} {l : List α} (hz : ∀ x, (f x).length = z) (ho : look st.objs s = some (l.flatMap f)) {m : Nat} {x : α} {v : V} (hv : v.cells = f x) (h1 : (f x).all V.one = true) (hi : m < l.length) :
    (SO.st z).ef st none [.ref s (0 + m * z), .v v] = some ⟨st.ρ, upd st.objs s ((l.set m x).flatMap f)⟩ := by
  have := own_st hz ho (i := (m : Int)) hv h1 (by omega) (by omega)
  simpa using this
theorem omk {st : St} {s bytes : Nat} {k k' : IntKind} {n c : Int} {x : α} (m : Nat) (hn : n = m) (hc : c = m) (h1 : (m : Int) * bytes ≤ 2 ^ 48) (h2 : (m : Int) < 2 ^ 63) :
    (SO.mk z bytes (f x)).ef st (some s) [.v (.n k n), .v (.n k' c)] = some ((st.fresh s ((List.replicate m x).flatMap f)).put (some s) (.own s z 0 m)) := by
  subst hn; subst hc
  have := own_mk (st := st) (s := s) (z := z) (f := f) (x := x) (bytes := bytes) (k := k) (k' := k') (n := (m : Int)) (c := (m : Int)) (by omega) (by omega) h1 h2
  simpa using this
end
theorem one_ni {x : Int} : (ni x).all V.one = true := rfl
theorem hz_ni : ∀ x, (ni x).length = 1 := fun _ => rfl
theorem snapRow' {α : Type} {f : α → List V} {z n : Nat} (hz : ∀ x, (f x).length = z) {l : List α} (hn : l.length = n) : V.sl n (((l.flatMap f).drop 0).take (n * z)) false = rowV f l := by
  subst hn
  rw [List.drop_zero, List.take_of_length_le (by rw [flatMap_length hz]; exact Nat.le_refl _)]
theorem snapRow {α : Type} {f : α → List V} {z : Nat} (hz : ∀ x, (f x).length = z) (l : List α) : ((l.flatMap f).drop 0).take (l.length * z) = l.flatMap f := by
  rw [List.drop_zero, List.take_of_length_le (by rw [flatMap_length hz]; exact Nat.le_refl _)]
end Go.Proofs.YtljcbmnkjiogmaaDoor.Sv
/-! Calls of functions that the model knows by an entry of its own. -/
namespace Go.Proofs.YtljcbmnkjiogmaaDoor.Sv
open Go Go.RowKit
set_option linter.unusedVariables false
set_option linter.unusedSimpArgs false

theorem DecK.xor {p q : Prop} [Decidable p] [Decidable q] {K : Bool → Prop} (ht : ¬ (p ↔ q) → K true) (hf : (p ↔ q) → K false) : DecK (if true = true then !(decide p == decide q) else decide p == decide q) K :=
  .both (fun h => ht (by intro e; simp [decide_eq_decide.2 e] at h)) (fun h => hf (by
    simp only [if_true, Bool.not_eq_false', beq_iff_eq] at h
    exact decide_eq_decide.1 h))
theorem DecK.iff {p q : Prop} [Decidable p] [Decidable q] {K : Bool → Prop} (ht : (p ↔ q) → K true) (hf : ¬ (p ↔ q) → K false) : DecK (if false = true then !(decide p == decide q) else decide p == decide q) K :=
  .both (fun h => ht (by
    simp only [Bool.false_eq_true, if_false, beq_iff_eq] at h
    exact decide_eq_decide.1 h)) (fun h => hf (by intro e; simp [decide_eq_decide.2 e] at h))
theorem loop_eq {P : Program} {live : List Nat} {x : SC} {Q : Exit → St → Prop} {st st' : St} (e : st = st') (h : loopW P live x Q st') : loopW P live x Q st := e ▸ h
/-- Where a loop is left: a tells the state, but for slots at the end that nobody asks for; or the function returns. -/
inductive LeftAt {α : Type} (id : Nat) (S : α → List (Nat × D) → St) (I : α → Prop) (Q : Exit → St → Prop) (e : Exit) (st : St) : Prop
  | mk (a : α) (tail : List (Nat × D)) (he : e = .exit id) (hs : st = S a tail) (h : I a)
  | ret (he : e = .ret) (h : Q .ret st)
theorem loop_left {P : Program} {live : List Nat} {x : SC} {Q : Exit → St → Prop} {st : St} {α : Type} (id : Nat) (S : α → List (Nat × D) → St) (I : α → Prop) (h : loopW P live x (LeftAt id S I Q) st)
    (hX : ∀ a tail, I a → Q (.exit id) (S a tail)) : loopW P live x Q st := by
  obtain ⟨h⟩ := h
  refine ⟨fun J hJ => h J fun s hs => hJ s (SC.wp_mono x (thenQ_mono (fun _ h => h) fun e st h => ?_) hs)⟩
  rcases h with ⟨a, tail, rfl, rfl, hI⟩ | ⟨rfl, hq⟩
  · exact hX a tail hI
  · exact hq
theorem pure_of_extern {P : Program} {f : FuncId} {fn : Func} {e : Array Value → Sem Value} {args : List V} {r : V} (hf : P.funcs[f]? = some fn) (hname : (fn.name == "runtime.NumGoroutine") = false) (hb : fn.body.isNone = true)
    (hn : Extern.findNext fn = none) (he : Extern.find fn = some e)
    (h : ∀ (w : World) (ok : Nat → Prop) (us : List Value), RepL w ok args us → ∃ v, (e us.toArray).run P w = .ok v w ∧ RepV w ok r v) : Pure P f args r := by
  intro w U us hL hU hus
  unfold CallOk
  obtain ⟨v, h1, h2⟩ := h w _ us hus
  rw [run_callFunc_extern hf hname hb hn he, h1]
  exact ⟨v, rfl, h2, Below.refl _ _⟩
theorem add64_entry {P : Program} {f : FuncId} {fn : Func} {x y c : Int} (hx : 0 ≤ x) (hy : 0 ≤ y) (hc0 : 0 ≤ c) (hc : c ≤ 1) (hf : P.funcs[f]? = some fn) (hname : (fn.name == "runtime.NumGoroutine") = false) (hb : fn.body.isNone = true)
    (hn : Extern.findNext fn = none) (he : Extern.find fn = some add64Entry) :
    Pure P f [.n .u64 x, .n .u64 y, .n .u64 c] (.tup [.n .u64 ((x + y + c) % 18446744073709551616), .n .u64 ((x + y + c) / 18446744073709551616)]) := by
  refine pure_of_extern hf hname hb hn he fun w ok us h => ?_
  obtain ⟨u1, u2, u3, rfl, h1, h2, h3⟩ := h.three
  cases h1; cases h2; cases h3
  refine ⟨_, run_add64 x y c hx hy hc0 hc w, ?_⟩
  exact RepL.tup (.cons (.n _ _) (.cons (.n _ _) .nil))
end Go.Proofs.YtljcbmnkjiogmaaDoor.Sv
/-! Functions that write to an object that they are handed. -/
namespace Go.Proofs.YtljcbmnkjiogmaaDoor.Sv
open Go Go.RowKit
set_option linter.unusedVariables false
set_option linter.unusedSimpArgs false

/-- The code sets no slot p. -/
def noset (p : Nat) : Code → Bool
  | .region _ ops _ => ops.toList.all fun o => o.dst != some p
  | .seq x y => noset p x && noset p y
  | .cond _ x y => noset p x && noset p y
  | .block _ x => noset p x
  | .loop x => noset p x
  | _ => true
def Fn1.noset (P : Program) (f : FuncId) (p : Nat) : Bool := match P.funcs[f]? with
  | some fn => match fn.body with
    | some c => Sv.noset p c
    | none => false
  | none => false
theorem noset_ops {p id : Nat} {ops : Array Oper} {draw : Bool} (h : noset p (.region id ops draw) = true) : ∀ o ∈ ops.toList, ∀ t, o.dst = some t → t ≠ p := fun o ho t ht e => by
  subst e
  have := List.all_eq_true.1 h o ho
  rw [ht] at this
  simp at this
section
variable {P : Program} {w w0 w' : World} {U E : Nat → Prop} {nt : Nat} {st st' : St} {a : Act} {η : Eta} {ok : Nat → Prop}
theorem compile_soundF {ad : Ad} {p : Nat} {a0 : Act} : ∀ (n : Nat) (c : Code), SizeOf.sizeOf c ≤ n → noset p c = true → ∀ (hs hs' : List (List Nat)) (sc : SC) (Q : Exit → St → Prop) (st : St) (a : Act) (w : World), compile P ad nt c hs = some (sc, hs') → sc.wp P Q st → RelX w0 U E nt st a w → Frm (· ≠ p) a0 a → c.wp P (liftF w0 U E nt (· ≠ p) a0 Q) a w := by
  intro n
  induction n with
  | zero => intro c hn; cases c <;> simp at hn
  | succ n ih =>
  intro c hn hns
  cases c with
  | skip => intro hs hs' sc Q st a w hc h hr hf; simp only [compile] at hc; cases hc; exact wp_skip ⟨⟨st, hr, h⟩, hf⟩
  | ret => intro hs hs' sc Q st a w hc h hr hf; simp only [compile] at hc; cases hc; exact wp_ret ⟨⟨st, hr, h⟩, hf⟩
  | exit id => intro hs hs' sc Q st a w hc h hr hf; simp only [compile] at hc; cases hc; exact wp_exit ⟨⟨st, hr, h⟩, hf⟩
  | region id ops draw =>
    intro hs hs' sc Q st a w hc h hr hf
    cases hs with
    | nil => simp [compile] at hc
    | cons live hs =>
      simp only [compile, Option.map_eq_some_iff] at hc
      obtain ⟨x, hx, hc⟩ := hc
      cases hc
      exact compR_sound (D := (· ≠ p)) (a0 := a0) hx h hr (noset_ops hns) hf
  | seq x y =>
    simp only [noset, Bool.and_eq_true] at hns
    have ihx := ih x (by simp at hn; omega) hns.1
    have ihy := ih y (by simp at hn; omega) hns.2
    intro hs hs' sc Q st a w hc h hr hf
    unfold compile at hc
    split at hc
    case h_7 =>
      rename_i i1 ops1 d1 i2 ops2 d2 z l1 l2 hs1 heq
      cases heq
      simp only [noset, Bool.and_eq_true] at hns
      have ihz := ih z (by simp at hn; omega) hns.2.2
      have hp1 : p ∉ dstsOf ops1 ++ dstsOf ops2 := fun hm => by
        rcases List.mem_append.1 hm with hm | hm
        · obtain ⟨o, ho, e⟩ := List.mem_filterMap.1 hm
          exact noset_ops (id := i1) (draw := d1) (by simpa only [noset] using hns.1) o ho p e rfl
        · obtain ⟨o, ho, e⟩ := List.mem_filterMap.1 hm
          exact noset_ops (id := i2) (draw := d2) (by simpa only [noset] using hns.2.1) o ho p e rfl
      simp only [Option.bind_eq_some_iff, Option.map_eq_some_iff] at hc
      obtain ⟨x', hx, y', hy, ⟨z', hs2⟩, hz, hc⟩ := hc
      cases hc
      have hm1 : ∀ o ∈ ops1.toList, ∀ t, o.dst = some t → t ∈ dstsOf ops1 ++ dstsOf ops2 := fun o ho t ht => List.mem_append_left _ (dstsOf_mem ho ht)
      have hm2 : ∀ o ∈ ops2.toList, ∀ t, o.dst = some t → t ∈ dstsOf ops1 ++ dstsOf ops2 := fun o ho t ht => List.mem_append_right _ (dstsOf_mem ho ht)
      generalize dstsOf ops1 ++ dstsOf ops2 = ds at h hm1 hm2 hp1
      have hF := hr.freezeL (st.objs.map (·.1))
      obtain ⟨η, h0⟩ := hr
      obtain ⟨ηF, h1⟩ := hF
      simp only [SC.wp] at h
      have h := (forceR_iff (K := fun ρ => x'.wp P (thenQ (fun st' => y'.wp P (thawQ ds st (thenQ (fun st' => z'.wp P Q st') Q)) st') (thawQ ds st (thenQ (fun st' => z'.wp P Q st') Q))) ⟨ρ, []⟩)).1 h
      refine wp_seq (wp_mono (compR_sound (w0 := w) (U := U) (E := fun _ => False) (D := (· ∈ ds)) (a0 := a) hx h ⟨ηF, h1.rebase⟩ hm1 (Frm.refl _ _)) fun e a1 w1 ⟨⟨st1, hr1, hq1⟩, hf1⟩ => ?_)
      cases e with
      | normal =>
        refine wp_seq (wp_mono (compR_sound (w0 := w) (U := U) (E := fun _ => False) (D := (· ∈ ds)) (a0 := a) hy hq1 hr1 hm2 hf1) fun e a2 w2 ⟨⟨st2, ⟨η2, hr2⟩, hq2⟩, hf2⟩ => ?_)
        cases e with
        | normal => exact ihz _ _ _ _ _ a2 w2 hz (mergeK_iff.1 hq2) ⟨η, h0.merged hr2 hf2⟩ (fun t ht => by
            have : t = p := Classical.byContradiction fun h => ht h
            subst this
            exact (hf2 t hp1).trans (hf t ht))
        | _ => exact hq2.elim
      | _ => exact hq1.elim
    case h_8 =>
      rename_i heq _
      cases heq
      simp only [Option.bind_eq_some_iff, Option.map_eq_some_iff] at hc
      obtain ⟨⟨x', hs1⟩, hx, ⟨y', hs2⟩, hy, hc⟩ := hc
      cases hc
      refine wp_seq (wp_mono (ihx _ _ _ _ st a w hx h hr hf) fun e a1 w1 ⟨⟨st1, hr1, hq⟩, hf1⟩ => ?_)
      cases e with
      | normal => exact ihy _ _ _ _ st1 a1 w1 hy hq hr1 hf1
      | _ => exact ⟨⟨st1, hr1, hq⟩, hf1⟩
    case h_12 => simp_all
    all_goals (rename_i heq; cases heq)
  | cond c x y =>
    simp only [noset, Bool.and_eq_true] at hns
    have ihx := ih x (by simp at hn; omega) hns.1
    have ihy := ih y (by simp at hn; omega) hns.2
    intro hs hs' sc Q st a w hc h hr hf
    simp only [compile, Option.bind_eq_some_iff, Option.map_eq_some_iff] at hc
    obtain ⟨c', hcc, ⟨x', hs1⟩, hx, ⟨y', hs2⟩, hy, hc⟩ := hc
    cases hc
    simp only [SC.wp] at h
    split at h
    · rename_i p hp
      obtain ⟨η, hr'⟩ := hr
      have hrep := Opd.rep hr' hcc hp
      generalize hv : a.eval c = v at hrep
      cases hrep with | v _ _ hrep =>
      cases hrep
      have h := h.get
      cases p
      · exact wp_cond_false hv (ihy _ _ _ _ st a w hy h ⟨η, hr'⟩ hf)
      · exact wp_cond_true hv (ihx _ _ _ _ st a w hx h ⟨η, hr'⟩ hf)
    · exact h.elim
  | block id x =>
    have ih := ih x (by simp at hn; omega) hns
    intro hs hs' sc Q st a w hc h hr hf
    simp only [compile, Option.map_eq_some_iff] at hc
    obtain ⟨⟨x', hs1⟩, hx, hc⟩ := hc
    cases hc
    refine wp_block (wp_mono (ih _ _ _ _ st a w hx h hr hf) fun e a1 w1 ⟨⟨st1, hr1, hq⟩, hf1⟩ => ?_)
    cases e with
    | exit id' =>
      unfold inBlockQ at hq
      by_cases hi : id' = id
      · simp only [hi, if_true] at hq
        simp only [Exit.inBlock, hi, if_true]
        exact ⟨⟨st1, hr1, hq⟩, hf1⟩
      · simp only [hi, if_false] at hq
        simp only [Exit.inBlock, hi, if_false]
        exact ⟨⟨st1, hr1, hq⟩, hf1⟩
    | _ => exact ⟨⟨st1, hr1, hq⟩, hf1⟩
  | loop x =>
    have ih := ih x (by simp at hn; omega) hns
    intro hs hs' sc Q st a w hc h hr hf
    cases hs with
    | nil => simp [compile] at hc
    | cons live hs =>
      simp only [compile, Option.map_eq_some_iff] at hc
      obtain ⟨⟨x', hs1⟩, hx, hc⟩ := hc
      cases hc
      refine LoopSem.wp ?_
      obtain ⟨h⟩ := keepK_iff.1 h
      refine h (fun s => ∀ a w, RelX w0 U E nt s a w → Frm (· ≠ p) a0 a → LoopSem P x (liftF w0 U E nt (· ≠ p) a0 Q) a w) (fun s hs a1 w1 hr1 hf1 => ?_) a w (hr.keep live) hf
      refine LoopSem.unroll (wp_mono (ih _ _ _ _ s a1 w1 hx hs hr1 hf1) fun e a2 w2 ⟨⟨st2, hr2, hq⟩, hf2⟩ => ?_)
      cases e with
      | normal => exact (keepK_iff (K := fun s => ∀ a w, RelX w0 U E nt s a w → Frm (· ≠ p) a0 a → LoopSem P x (liftF w0 U E nt (· ≠ p) a0 Q) a w)).1 hq a2 w2 (hr2.keep live) hf2
      | _ => exact ⟨⟨st2, hr2, hq⟩, hf2⟩
  | _ => intro hs hs' sc Q st a w hc h hr hf; cases hs <;> (simp only [compile, Option.some.injEq, Prod.mk.injEq] at hc; obtain ⟨rfl, _⟩ := hc; exact h.elim)

end
/-- The first slots of a call that is handed values and an object. -/
def initM (pre : List V) (d : D) (post : List V) : List (Nat × D) := initR 0 pre ++ (pre.length, d.rekey pre.length) :: initR (pre.length + 1) post
def valD : D → Option V
  | .v x => some x
  | _ => none
def res1M (st : St) : CR → Option V
  | .tm t => (look st.ρ t).bind valD
  | .cell t g z => (look st.ρ t).bind fun d => ((deref st.objs d).bind (ldD g z)).bind valD
def resLM (st : St) : List CR → Option (List V)
  | [] => some []
  | c :: cs => match res1M st c, resLM st cs with
    | some v, some vs => some (v :: vs)
    | _, _ => none
def tupV : List V → V
  | [v] => v
  | vs => .tup vs
/-- What a function hands back, by itself or a part of the object p. -/
def resM (st : St) (p : Nat) (rs : List CR) : Option D := match rs with
  | [.tm t] => match look st.ρ t with
    | some (.own s z o l) => if s = p then some (.own s z o l) else none
    | some (.ref s o) => if s = p then some (.ref s o) else none
    | some (.v x) => some (.v x)
    | _ => none
  | rs => (resLM st rs).map fun vs => .v (tupV vs)
structure EndM (st : St) (p : Nat) (rs : List CR) (d r : D) (cs' : List V) : Prop where
  slot : look st.ρ p = some (d.rekey p)
  obj : look st.objs p = some cs'
  res : resM st p rs = some (r.rekey p)
def endQM (p : Nat) (rs : List CR) (d r : D) (cs' : List V) : Exit → St → Prop
  | .normal, st | .ret, st => EndM st p rs d r cs'
  | _, _ => False
def handLen (d : D) (cs : List V) : Prop := match d with
  | .own _ z _ n => 0 < n ∧ cs.length = n * z
  | _ => True
section
variable {P : Program} {w w0 w' : World} {U E : Nat → Prop} {nt : Nat} {st st' : St} {a : Act} {η : Eta} {ok : Nat → Prop}
theorem res1M_run (hr : Rel w0 U E nt st a w η) {c : ResultVar} {c' : CR} {v : V} (hc : cRes1 P c = some c') (h : res1M st c' = some v) :
    ∃ u, (resOne a.tmps c).run P w = .ok u w ∧ RepV w (Ok U st.objs η w) v u := by
  cases c with
  | tmp t =>
    cases hc
    simp only [res1M, Option.bind_eq_some_iff] at h
    obtain ⟨d, hd, h⟩ := h
    have hs := (hr.slots t d hd).2
    cases d <;> simp [valD] at h
    subst h
    cases hs with | v _ _ hs =>
    exact ⟨_, rfl, hs⟩
  | cell t ty =>
    simp only [cRes1] at hc
    split at hc <;> cases hc
    rename_i g z hg hz
    simp only [res1M, Option.bind_eq_some_iff] at h
    obtain ⟨d, hd, e, he, h⟩ := h
    cases e <;> simp [valD] at h
    subst h
    have hrd := (hr.slots t d hd).2
    obtain ⟨u, h1, h2⟩ := ld_sound (P := P) hr hrd (by simpa only [Option.bind_eq_some_iff] using he) hg hz (by omega)
    cases h2 with | v _ _ h2 =>
    have hp : ∃ b o, a.tmps.getD t undef = .pointer (some ⟨b, o, none⟩) := by
      obtain ⟨cs, hcs, hld⟩ := he
      have hne : cs ≠ [] := by
        rintro rfl
        unfold ldD at hld
        split at hld <;> simp at hld
      obtain ⟨b, o, hb, _⟩ := deref_lies hr hrd hcs hne
      exact ⟨b, o, hb⟩
    obtain ⟨b, o, hb⟩ := hp
    rw [hb] at h1
    exact ⟨u, by simpa [Instr.loadAt, Instr.sureAddr, asAddr, resOne, hb] using h1, h2⟩
theorem resLM_run (hr : Rel w0 U E nt st a w η) : ∀ {cs : List ResultVar} {cs' : List CR} {vs : List V}, allSome (cs.map (cRes1 P)) = some cs' → resLM st cs' = some vs →
    ∃ us, (cs.mapM (resOne a.tmps)).run P w = .ok us w ∧ RepL w (Ok U st.objs η w) vs us
  | [], cs', vs, hc, h => by cases hc; cases h; exact ⟨[], by simp, .nil⟩
  | c :: cs, cs', vs, hc, h => by
    simp only [List.map_cons] at hc
    cases h1 : cRes1 P c with
    | none => simp [h1, allSome] at hc
    | some c' =>
      simp only [h1, allSome, Option.map_eq_some_iff] at hc
      obtain ⟨cs'', hc, rfl⟩ := hc
      unfold resLM at h
      split at h <;> cases h
      rename_i v vs' g1 g2
      obtain ⟨u, k1, k2⟩ := res1M_run (P := P) hr h1 g1
      obtain ⟨us, k3, k4⟩ := resLM_run hr hc g2
      refine ⟨u :: us, ?_, .cons k2 k4⟩
      rw [List.mapM_cons]
      simp only [Sem.run_bind]
      rw [k1]
      simp only [Result.andThen_ok, k3, Sem.run_pure]
theorem resM_run (hr : Rel w0 U E nt st a w η) {p : Nat} {fn : Func} {cs' : List CR} {d : D} (hc : allSome (fn.results.toList.map (cRes1 P)) = some cs') (h : resM st p cs' = some d) :
    ∃ u, (results fn a.tmps).run P w = .ok u w ∧ RepD w (Ok U st.objs η w) η d u ∧ (∀ s, d.ment s = true → s = p) := by
  have run : ∀ us : List Value, (fn.results.toList.mapM (resOne a.tmps)).run P w = .ok us w → (results fn a.tmps).run P w = .ok (if h : us.toArray.size = 1 then us.toArray[0] else .tuple us.toArray) w := fun us h1 => by
    rw [results_eq, Array.mapM_eq_mapM_toList]
    simp only [Sem.run_bind, Sem.run_map, h1, Result.andThen_ok, Sem.run_pure]
  have gen : (resLM st cs').map (fun vs => D.v (tupV vs)) = some d → ∃ u, (results fn a.tmps).run P w = .ok u w ∧ RepD w (Ok U st.objs η w) η d u ∧ (∀ s, d.ment s = true → s = p) := fun h => by
    simp only [Option.map_eq_some_iff] at h
    obtain ⟨vs, hv, rfl⟩ := h
    obtain ⟨us, h1, h2⟩ := resLM_run (P := P) hr hc hv
    refine ⟨_, run us h1, ?_, fun s hs => by cases hs⟩
    match vs, h2 with
    | [], h2 => have : us = [] := by have := h2.1; simpa using this
                subst this; simpa [tupV] using RepD.v _ _ h2.tup
    | [v], h2 => obtain ⟨u, rfl, hr⟩ := h2.one; simpa [tupV] using RepD.v _ _ hr
    | v1 :: v2 :: vs, h2 =>
      have : us.length ≠ 1 := by rw [h2.1]; simp
      rw [dif_neg (by simpa using this)]
      exact .v _ _ h2.tup
  unfold resM at h
  split at h
  · rename_i t
    obtain ⟨c, hcc⟩ : ∃ c, fn.results.toList = [c] := by
      match hfr : fn.results.toList, hc with
      | [], hc => cases hc
      | [c], _ => exact ⟨c, rfl⟩
      | c1 :: c2 :: cs, hc =>
        exfalso
        simp only [List.map_cons] at hc
        cases h1 : cRes1 P c1 <;> cases h2 : cRes1 P c2 <;> simp [h1, h2, allSome] at hc
    rw [hcc] at hc
    have hct : c = .tmp t := by
      cases c with
      | tmp t' => simp [cRes1, allSome] at hc; rw [hc]
      | cell t' ty =>
        exfalso
        simp only [List.map_cons, List.map_nil, cRes1] at hc
        split at hc <;> simp [allSome] at hc
    subst hct
    have hu : (results fn a.tmps).run P w = .ok (a.tmps.getD t undef) w := by
      have := run [a.tmps.getD t undef] (by rw [hcc]; simp [resOne])
      simpa using this
    refine ⟨_, hu, ?_⟩
    split at h
    · rename_i s z o l hl
      split at h <;> cases h
      rename_i e
      exact ⟨(hr.slots t _ hl).2, fun s' hs' => by simp [D.ment] at hs'; omega⟩
    · rename_i s o hl
      split at h <;> cases h
      rename_i e
      exact ⟨(hr.slots t _ hl).2, fun s' hs' => by simp [D.ment] at hs'; omega⟩
    · rename_i x hl
      cases h
      exact ⟨(hr.slots t _ hl).2, fun s' hs' => by cases hs'⟩
    · cases h
  · exact gen h
theorem look_app {α : Type} : ∀ (l m : List (Nat × α)) (t : Nat), look (l ++ m) t = (look l t).or (look m t)
  | [], m, t => by simp [look]
  | (k, d) :: l, m, t => by
    simp only [List.cons_append, look]
    split
    · rfl
    · exact look_app l m t
/-- What is shown of the body is known of each call. -/
theorem mut_of_wp {f : FuncId} {ad : Ad} {hs : List (List Nat)} {F : Fn1} {pre post cs cs' : List V} {d r : D} (hF : Fn1.of P f ad hs = some F) (hns : Fn1.noset P f pre.length = true) (hn : pre.length + 1 + post.length ≤ F.nt) (hz : onlyZ d = true) (hr : resZ r = true) (hl : handLen d cs)
    (h : F.sc.wp P (endQM pre.length F.rs d r cs') ⟨initM pre d post, [(pre.length, cs)]⟩) : Mut P f pre d cs post r cs' := by
  unfold Fn1.of at hF
  split at hF
  case h_2 => cases hF
  rename_i fn hfn
  split at hF
  case h_2 => cases hF
  rename_i c hb
  split at hF
  case h_2 => cases hF
  rename_i sc rs hc hrs
  split at hF
  · cases hF
  rename_i hname
  cases hF
  simp only at hn h
  have hns : noset pre.length c = true := by simpa [Fn1.noset, hfn, hb] using hns
  refine ⟨hr, fun w U pl us1 u us2 hL hnl hU hpl h1 h2 h3 hO => ?_⟩
  unfold CallOk
  have hcf : (callFunc f (us1 ++ u :: us2).toArray).run P w = .ok (.enter f (us1 ++ u :: us2).toArray) w := by
    simp only [callFunc, Sem.run_bind, run_program, Result.andThen_ok, hfn]
    rw [if_neg hname]
    simp [hb]
  rw [hcf]
  refine ⟨rfl, rfl, rfl, calls_of_wp hfn hb ?_⟩
  generalize hp : pre.length = p at *
  have hl1 : us1.length = p := by rw [h1.1, hp]
  have hl2 : us2.length = post.length := h3.1
  have hsz : ((us1 ++ u :: us2).toArray ++ Array.replicate (fn.ntmps - (us1 ++ u :: us2).toArray.size) undef).size = fn.ntmps := by
    simp; omega
  -- the value handed over leads to the block at pl
  obtain ⟨b, o, hb0⟩ : ∃ b o, pl = some (b, o) := by
    unfold onlyZ at hz
    split at hz
    · cases h2 with
      | own0 => simp [handLen] at hl
      | own _ _ _ _ b o cap h => exact ⟨b, o, h⟩
    · cases h2 with | ref _ _ b o h => exact ⟨b, o, h⟩
    · cases hz
  subst hb0
  obtain ⟨hUb, hbs⟩ := hpl b o rfl
  let η : Eta := fun s => if s = p then some (b, o) else none
  have hηp : η p = some (b, o) := if_pos rfl
  have hok : ∀ b', okMu w U (some (b, o)) b' → Ok U [(p, cs)] η w b' := fun b' hb' => ⟨hb'.1, hb'.2.1, fun s cs' o' g1 g2 => by
    by_cases e : s = p
    · subst e; rw [hηp] at g2; exact hb'.2.2 o' g2
    · simp only [look] at g1; rw [if_neg e] at g1; cases g1⟩
  have hget : ∀ t v, ((us1 ++ u :: us2))[t]? = some v → ((us1 ++ u :: us2).toArray ++ Array.replicate (fn.ntmps - (us1 ++ u :: us2).toArray.size) undef).getD t undef = v := fun t v ht => by
    have hlt := (List.getElem?_eq_some_iff.1 ht).1
    rw [Array.getD_eq_getD_getElem?, Array.getElem?_append_left (by simpa using hlt), List.getElem?_toArray, ht]
    rfl
  have hrel : Rel w U (fun k => k = b) fn.ntmps ⟨initM pre d post, [(p, cs)]⟩ { tmps := (us1 ++ u :: us2).toArray ++ Array.replicate (fn.ntmps - (us1 ++ u :: us2).toArray.size) undef, defers := [] } w η := by
    refine ⟨hsz, rfl, ⟨hL, fun k e => e ▸ hnl b o rfl, rfl, rfl, rfl, Nat.le_refl _, fun _ _ _ => rfl, fun _ _ => rfl⟩, fun b' hb' => ⟨hU b' hb', fun e => hUb (e ▸ hb')⟩, fun t e ht => ?_, fun s cs0 hs => ?_, fun s cs0 b' o' g1 g2 => ?_, fun s s' c1 c2 b' o1 o2 g1 g2 g3 g4 => ?_⟩
    · simp only [initM] at ht
      rw [look_app] at ht
      cases hl : look (initR 0 pre) t with
      | some e' =>
        rw [hl] at ht
        cases ht
        obtain ⟨_, v, hv, rfl⟩ := look_initR pre 0 t _ hl
        simp only [Nat.sub_zero] at hv
        obtain ⟨u', hu', hr'⟩ := h1.2 t v hv
        have hlt : t < us1.length := (List.getElem?_eq_some_iff.1 hu').1
        refine ⟨by omega, ?_⟩
        rw [hget t u' (by rw [List.getElem?_append_left hlt]; exact hu')]
        exact .v _ _ (hr'.mono fun b' hb' => ⟨hok b' hb', rfl⟩)
      | none =>
        rw [hl] at ht
        simp only [Option.none_or, look] at ht
        split at ht
        · rename_i e0
          cases ht
          rw [hp] at e0
          subst e0
          refine ⟨by omega, ?_⟩
          rw [hget t u (by rw [List.getElem?_append_right (by omega), hl1, Nat.sub_self]; rfl), hp]
          exact RepD.rekey (s := 0) (η := fun _ => some (b, o)) hok (fun x hx => by rw [hηp]; exact hx) (by rw [onlyZ_rekey hz]; exact h2)
        · obtain ⟨ge, v, hv, rfl⟩ := look_initR post (pre.length + 1) t _ ht
          rw [hp] at ge hv
          obtain ⟨u', hu', hr'⟩ := h3.2 _ v hv
          have hlt : t - (p + 1) < us2.length := (List.getElem?_eq_some_iff.1 hu').1
          refine ⟨by omega, ?_⟩
          rw [hget t u' (by rw [List.getElem?_append_right (by omega), hl1, show t - p = (t - (p + 1)) + 1 by omega]; simpa using hu')]
          exact .v _ _ (hr'.mono fun b' hb' => ⟨hok b' hb', rfl⟩)
    · simp only [look] at hs
      split at hs <;> cases hs
      rename_i e; subst e
      exact hO.rekey hok (by rw [hηp])
    · simp only [look] at g1
      split at g1 <;> cases g1
      rename_i e; subst e
      rw [hηp] at g2
      cases g2
      exact ⟨.inr rfl, hbs⟩
    · simp only [look] at g1 g2
      split at g1 <;> cases g1
      split at g2 <;> cases g2
      rename_i e1 e2
      rw [e1, e2]
  have hw := compile_soundF (w0 := w) (U := U) (E := fun k => k = b) (p := p) _ c (Nat.le_refl _) hns hs [] sc _ _ _ _ hc h ⟨_, hrel⟩ (Frm.refl _ _)
  refine wp_mono hw fun e a1 w1 ⟨⟨st1, ⟨η1, hr1⟩, hq⟩, hf1⟩ => ?_
  have fin : EndM st1 p rs d r cs' → a1.defers = [] ∧ ∃ v, (results fn a1.tmps).run P w1 = .ok v w1 ∧ ∃ ur, Ending.returned v = .returned ur ∧ RepD w1 (okMu w1 U (some (b, o))) (fun _ => some (b, o)) r ur ∧ RepO w1 (okMu w1 U (some (b, o))) (fun _ => some (b, o)) 0 cs' ∧ Turned w w1 (some (b, o)) := fun ⟨hsl, hob, hre⟩ => by
    have hs1 := (hr1.slots p _ hsl).2
    have hu1 : a1.tmps.getD p undef = u := by
      rw [hf1 p (fun h => h rfl)]
      exact hget p u (by rw [List.getElem?_append_right (by omega), hl1, Nat.sub_self]; rfl)
    rw [hu1] at hs1
    have hη1 : η1 p = some (b, o) := by
      unfold onlyZ at hz
      split at hz
      · rename_i z n
        cases h2 with
        | own0 => simp [handLen] at hl
        | own _ _ _ _ b' o' cap h _ _ =>
          cases h
          cases hs1 with
          | own0 => simp [handLen] at hl
          | own _ _ _ _ b2 o2 cap2 h _ _ => simpa using h
      · cases h2 with | ref _ _ b' o' h =>
        cases h
        cases hs1 with | ref _ _ b2 o2 h => simpa using h
      · cases hz
    have hok1 : ∀ b', Ok U st1.objs η1 w1 b' → okMu w1 U (some (b, o)) b' := fun b' hb' => ⟨hb'.1, hb'.2.1, fun o' e => hb'.2.2 p cs' o' hob (by rw [hη1, e])⟩
    obtain ⟨ur, k1, k2, k3⟩ := resM_run (P := P) hr1 hrs hre
    refine ⟨hr1.defers, ur, k1, ur, rfl, ?_, (hr1.objs p cs' hob).rekey hok1 (by rw [hη1]), ⟨hr1.keeps.os, hr1.keeps.tape, hr1.keeps.output, hr1.keeps.size, fun k hk hne => hr1.keeps.block k hk (fun e => hne o (by rw [e])), hr1.keeps.row⟩⟩
    have := RepD.rekey (s' := 0) (η' := fun _ => some (b, o)) hok1 (fun x hx => by rw [hη1] at hx; exact hx) k2
    rwa [resZ_rekey hr] at this
  cases e <;> first | exact fin hq | exact hq.elim
/-- What holds at the end of a function that hands a row back. -/
structure EndV (st : St) (rs : List CR) (z m : Nat) (cs' : List V) : Prop where
  res : ∃ t k, rs = [.tm t] ∧ look st.ρ t = some (.own k z 0 m) ∧ look st.objs k = some cs'
def endQV (rs : List CR) (z m : Nat) (cs' : List V) : Exit → St → Prop
  | .normal, st | .ret, st => EndV st rs z m cs'
  | _, _ => False
theorem endV' {t k z m : Nat} {cs' cs'' : List V} {d : D} (h1 : look st.ρ t = some d) (h2 : look st.objs k = some cs'') (e1 : d = .own k z 0 m) (e2 : cs'' = cs') : EndV st [.tm t] z m cs' := ⟨t, k, rfl, by rw [h1, e1], by rw [h2, e2]⟩
/-- What is shown of the body is known of each call: the row goes on where it was, or in a new block. -/
theorem mov_of_wp {f : FuncId} {ad : Ad} {hs : List (List Nat)} {F : Fn1} {pre post cs cs' : List V} {z n m : Nat} (hF : Fn1.of P f ad hs = some F) (hn : pre.length + 1 + post.length ≤ F.nt)
    (h : F.sc.wp P (endQV F.rs z m cs') ⟨initM pre (.own 0 z 0 n) post, [(pre.length, cs)]⟩) : Mov P f pre z n cs post m cs' := by
  unfold Fn1.of at hF
  split at hF
  case h_2 => cases hF
  rename_i fn hfn
  split at hF
  case h_2 => cases hF
  rename_i c hb
  split at hF
  case h_2 => cases hF
  rename_i sc rs hc hrs
  split at hF
  · cases hF
  rename_i hname
  cases hF
  simp only at hn h
  refine fun w U pl us1 u us2 hL hnl hU hpl h1 h2 h3 hO => ?_
  unfold CallOk
  have hcf : (callFunc f (us1 ++ u :: us2).toArray).run P w = .ok (.enter f (us1 ++ u :: us2).toArray) w := by
    simp only [callFunc, Sem.run_bind, run_program, Result.andThen_ok, hfn]
    rw [if_neg hname]
    simp [hb]
  rw [hcf]
  refine ⟨rfl, rfl, rfl, calls_of_wp hfn hb ?_⟩
  generalize hp : pre.length = p at *
  have hl1 : us1.length = p := by rw [h1.1, hp]
  have hl2 : us2.length = post.length := h3.1
  have hsz : ((us1 ++ u :: us2).toArray ++ Array.replicate (fn.ntmps - (us1 ++ u :: us2).toArray.size) undef).size = fn.ntmps := by
    simp; omega
  let η : Eta := fun s => if s = p then pl else none
  have hηp : η p = pl := if_pos rfl
  have hok : ∀ b', okMu w U pl b' → Ok U [(p, cs)] η w b' := fun b' hb' => ⟨hb'.1, hb'.2.1, fun s cs' o' g1 g2 => by
    by_cases e : s = p
    · subst e; rw [hηp] at g2; exact hb'.2.2 o' g2
    · simp only [look] at g1; rw [if_neg e] at g1; cases g1⟩
  have hget : ∀ t v, ((us1 ++ u :: us2))[t]? = some v → ((us1 ++ u :: us2).toArray ++ Array.replicate (fn.ntmps - (us1 ++ u :: us2).toArray.size) undef).getD t undef = v := fun t v ht => by
    have hlt := (List.getElem?_eq_some_iff.1 ht).1
    rw [Array.getD_eq_getD_getElem?, Array.getElem?_append_left (by simpa using hlt), List.getElem?_toArray, ht]
    rfl
  have hrel : Rel w U (fun k => ∃ o, pl = some (k, o)) fn.ntmps ⟨initM pre (.own 0 z 0 n) post, [(p, cs)]⟩ { tmps := (us1 ++ u :: us2).toArray ++ Array.replicate (fn.ntmps - (us1 ++ u :: us2).toArray.size) undef, defers := [] } w η := by
    refine ⟨hsz, rfl, ⟨hL, fun k e => let ⟨o, e⟩ := e; hnl k o e, rfl, rfl, rfl, Nat.le_refl _, fun _ _ _ => rfl, fun _ _ => rfl⟩, fun b' hb' => ⟨hU b' hb', fun ⟨o, e⟩ => (hpl b' o e).1 hb'⟩, fun t e ht => ?_, fun s cs0 hs => ?_, fun s cs0 b' o' g1 g2 => ?_, fun s s' c1 c2 b' o1 o2 g1 g2 g3 g4 => ?_⟩
    · simp only [initM] at ht
      rw [look_app] at ht
      cases hl : look (initR 0 pre) t with
      | some e' =>
        rw [hl] at ht
        cases ht
        obtain ⟨_, v, hv, rfl⟩ := look_initR pre 0 t _ hl
        simp only [Nat.sub_zero] at hv
        obtain ⟨u', hu', hr'⟩ := h1.2 t v hv
        have hlt : t < us1.length := (List.getElem?_eq_some_iff.1 hu').1
        refine ⟨by omega, ?_⟩
        rw [hget t u' (by rw [List.getElem?_append_left hlt]; exact hu')]
        exact .v _ _ (hr'.mono fun b' hb' => ⟨hok b' hb', rfl⟩)
      | none =>
        rw [hl] at ht
        simp only [Option.none_or, look] at ht
        split at ht
        · rename_i e0
          cases ht
          rw [hp] at e0
          subst e0
          refine ⟨by omega, ?_⟩
          rw [hget t u (by rw [List.getElem?_append_right (by omega), hl1, Nat.sub_self]; rfl), hp]
          exact RepD.rekey (d := .own 0 z 0 n) (s := 0) (s' := t) (η := fun _ => pl) hok (fun x hx => by rw [hηp]; exact hx) h2
        · obtain ⟨ge, v, hv, rfl⟩ := look_initR post (pre.length + 1) t _ ht
          rw [hp] at ge hv
          obtain ⟨u', hu', hr'⟩ := h3.2 _ v hv
          have hlt : t - (p + 1) < us2.length := (List.getElem?_eq_some_iff.1 hu').1
          refine ⟨by omega, ?_⟩
          rw [hget t u' (by rw [List.getElem?_append_right (by omega), hl1, show t - p = (t - (p + 1)) + 1 by omega]; simpa using hu')]
          exact .v _ _ (hr'.mono fun b' hb' => ⟨hok b' hb', rfl⟩)
    · simp only [look] at hs
      split at hs <;> cases hs
      rename_i e; subst e
      exact hO.rekey hok (by rw [hηp])
    · simp only [look] at g1
      split at g1 <;> cases g1
      rename_i e; subst e
      rw [hηp] at g2
      exact ⟨.inr ⟨_, g2⟩, (hpl _ _ g2).2⟩
    · simp only [look] at g1 g2
      split at g1 <;> cases g1
      split at g2 <;> cases g2
      rename_i e1 e2
      rw [e1, e2]
  have hw := compile_sound (w0 := w) (U := U) (E := fun k => ∃ o, pl = some (k, o)) _ c (Nat.le_refl _) hs [] sc _ _ _ _ hc h ⟨_, hrel⟩
  refine wp_mono hw fun e a1 w1 ⟨st1, ⟨η1, hr1⟩, hq⟩ => ?_
  have fin : EndV st1 rs z m cs' → a1.defers = [] ∧ ∃ v, (results fn a1.tmps).run P w1 = .ok v w1 ∧ ∃ ur pl', Ending.returned v = .returned ur ∧ (∀ b o, pl' = some (b, o) → (∃ o', pl = some (b, o')) ∨ (w.heap.size ≤ b ∧ b < w1.heap.size)) ∧
      RepD w1 (okMu w1 U pl') (fun _ => pl') (.own 0 z 0 m) ur ∧ RepO w1 (okMu w1 U pl') (fun _ => pl') 0 cs' ∧ Turned w w1 pl := fun ⟨t, k, hrt, hsl, hob⟩ => by
    subst hrt
    obtain ⟨cr, hcc⟩ : ∃ c, fn.results.toList = [c] := by
      match hfr : fn.results.toList, hrs with
      | [], hc => cases hc
      | [c], _ => exact ⟨c, rfl⟩
      | c1 :: c2 :: cs, hc =>
        exfalso
        simp only [List.map_cons] at hc
        cases h1 : cRes1 P c1 <;> cases h2 : cRes1 P c2 <;> simp [h1, h2, allSome] at hc
    rw [hcc] at hrs
    have hct : cr = .tmp t := by
      cases cr with
      | tmp t' => simp [cRes1, allSome] at hrs; rw [hrs]
      | cell t' ty =>
        exfalso
        simp only [List.map_cons, List.map_nil, cRes1] at hrs
        split at hrs <;> simp [allSome] at hrs
    subst hct
    have hu : (results fn a1.tmps).run P w1 = .ok (a1.tmps.getD t undef) w1 := by
      rw [results_eq, Array.mapM_eq_mapM_toList, hcc]
      simp [resOne]
    have hok1 : ∀ b', Ok U st1.objs η1 w1 b' → okMu w1 U (η1 k) b' := fun b' hb' => ⟨hb'.1, hb'.2.1, fun o' e => hb'.2.2 k cs' o' hob e⟩
    refine ⟨hr1.defers, _, hu, _, η1 k, rfl, fun b o hbo => ?_, ?_, (hr1.objs k cs' hob).rekey hok1 rfl, ⟨hr1.keeps.os, hr1.keeps.tape, hr1.keeps.output, hr1.keeps.size, fun k' hk' hne => hr1.keeps.block k' hk' (fun ⟨o, e⟩ => hne o e), hr1.keeps.row⟩⟩
    · obtain ⟨g1, g2⟩ := hr1.lies k cs' b o hob hbo
      rcases g1 with g1 | g1
      · exact .inr ⟨g1, g2⟩
      · exact .inl g1
    · exact RepD.rekey (d := .own 0 z 0 m) (s := k) (s' := 0) (η' := fun _ => η1 k) hok1 (fun x hx => hx) (hr1.slots t _ hsl).2
  cases e <;> first | exact fin hq | exact hq.elim
/-- What is shown of the body is known of each call: the row that is handed back is a new one. -/
theorem new_of_wp {f : FuncId} {ad : Ad} {hs : List (List Nat)} {F : Fn1} {args cs : List V} {z n : Nat} (hF : Fn1.of P f ad hs = some F) (hn : args.length ≤ F.nt) (h : F.sc.wp P (endQV F.rs z n cs) ⟨initR 0 args, []⟩) : New P f args z n cs := by
  unfold Fn1.of at hF
  split at hF
  case h_2 => cases hF
  rename_i fn hfn
  split at hF
  case h_2 => cases hF
  rename_i c hb
  split at hF
  case h_2 => cases hF
  rename_i sc rs hc hrs
  split at hF
  · cases hF
  rename_i hname
  cases hF
  simp only at hn h
  intro w U us hL hU hus
  unfold CallOk
  have hcf : (callFunc f us.toArray).run P w = .ok (.enter f us.toArray) w := by
    simp only [callFunc, Sem.run_bind, run_program, Result.andThen_ok, hfn]
    rw [if_neg hname]
    simp [hb]
  rw [hcf]
  refine ⟨rfl, rfl, rfl, calls_of_wp hfn hb ?_⟩
  have hsz : (us.toArray ++ Array.replicate (fn.ntmps - us.toArray.size) undef).size = fn.ntmps := by
    have := hus.1
    simp; omega
  have hrel : Rel w U (fun _ => False) fn.ntmps ⟨initR 0 args, []⟩ { tmps := us.toArray ++ Array.replicate (fn.ntmps - us.toArray.size) undef, defers := [] } w (fun _ => none) := by
    refine ⟨hsz, rfl, ⟨hL, fun _ h => h.elim, rfl, rfl, rfl, Nat.le_refl _, fun _ _ _ => rfl, fun _ _ => rfl⟩, fun b hb => ⟨hU b hb, fun h => h⟩, fun t d ht => ?_, fun s cs hs => (by cases hs), fun s cs b o h1 => (by cases h1), fun s s' cs cs' b o o' h1 => (by cases h1)⟩
    obtain ⟨_, v, hv, rfl⟩ := look_initR args 0 t d ht
    simp only [Nat.sub_zero] at hv
    obtain ⟨u, hu, hr⟩ := hus.2 t v hv
    have hlt : t < us.length := (List.getElem?_eq_some_iff.1 hu).1
    refine ⟨by have := hus.1; omega, .v _ _ ?_⟩
    have : (us.toArray ++ Array.replicate (fn.ntmps - us.toArray.size) undef).getD t undef = u := by
      rw [Array.getD_eq_getD_getElem?, Array.getElem?_append_left (by simpa using hlt)]
      simp [hu]
    rw [this]
    exact hr.mono fun b hb => ⟨⟨hb.1, hb.2, fun s cs o h1 => (by cases h1)⟩, rfl⟩
  have hw := compile_sound (w0 := w) (U := U) (E := fun _ => False) _ c (Nat.le_refl _) hs [] sc _ _ _ _ hc h ⟨_, hrel⟩
  refine wp_mono hw fun e a1 w1 ⟨st1, ⟨η1, hr1⟩, hq⟩ => ?_
  have fin : EndV st1 rs z n cs → a1.defers = [] ∧ ∃ v, (results fn a1.tmps).run P w1 = .ok v w1 ∧ ∃ ur pl, Ending.returned v = .returned ur ∧ (∀ b o, pl = some (b, o) → w.heap.size ≤ b ∧ b < w1.heap.size) ∧
      RepD w1 (okMu w1 U pl) (fun _ => pl) (.own 0 z 0 n) ur ∧ RepO w1 (okMu w1 U pl) (fun _ => pl) 0 cs ∧ Below w.heap.size w w1 := fun ⟨t, k, hrt, hsl, hob⟩ => by
    subst hrt
    obtain ⟨cr, hcc⟩ : ∃ c, fn.results.toList = [c] := by
      match hfr : fn.results.toList, hrs with
      | [], hc => cases hc
      | [c], _ => exact ⟨c, rfl⟩
      | c1 :: c2 :: cs, hc =>
        exfalso
        simp only [List.map_cons] at hc
        cases h1 : cRes1 P c1 <;> cases h2 : cRes1 P c2 <;> simp [h1, h2, allSome] at hc
    rw [hcc] at hrs
    have hct : cr = .tmp t := by
      cases cr with
      | tmp t' => simp [cRes1, allSome] at hrs; rw [hrs]
      | cell t' ty =>
        exfalso
        simp only [List.map_cons, List.map_nil, cRes1] at hrs
        split at hrs <;> simp [allSome] at hrs
    subst hct
    have hu : (results fn a1.tmps).run P w1 = .ok (a1.tmps.getD t undef) w1 := by
      rw [results_eq, Array.mapM_eq_mapM_toList, hcc]
      simp [resOne]
    have hok1 : ∀ b', Ok U st1.objs η1 w1 b' → okMu w1 U (η1 k) b' := fun b' hb' => ⟨hb'.1, hb'.2.1, fun o' e => hb'.2.2 k cs o' hob e⟩
    refine ⟨hr1.defers, _, hu, _, η1 k, rfl, fun b o hbo => ?_, ?_, (hr1.objs k cs hob).rekey hok1 rfl, ⟨hr1.keeps.os, hr1.keeps.tape, hr1.keeps.output, hr1.keeps.size, fun k hk => hr1.keeps.block k hk (fun h => h)⟩⟩
    · obtain ⟨g1, g2⟩ := hr1.lies k cs b o hob hbo
      rcases g1 with g1 | g1
      · exact ⟨g1, g2⟩
      · exact g1.elim
    · exact RepD.rekey (d := .own 0 z 0 n) (s := k) (s' := 0) (η' := fun _ => η1 k) hok1 (fun x hx => hx) (hr1.slots t _ hsl).2
  cases e <;> first | exact fin hq | exact hq.elim
/-- A new row, taken for a value by itself. -/
theorem New.pure {f : FuncId} {args cs : List V} {z n : Nat} (h : New P f args z n cs) (hl : cs.length = n * z) : Pure P f args (.sl n cs false) := by
  intro w U us hL hU hus
  have main := h w U us hL hU hus
  have fin : ∀ (R R' : Ending → World → Prop), (∀ e w', R e w' → R' e w') → CallOk P f us.toArray w R → CallOk P f us.toArray w R' := fun R R' hRR h => by
    unfold CallOk at h ⊢
    split at h
    · obtain ⟨g1, g2, g3, g4⟩ := h
      exact ⟨g1, g2, g3, g4.mono hRR⟩
    · exact hRR _ _ h
    · exact h.elim
  refine fin _ _ (fun e w' ⟨ur, pl, he, hp, k1, k2, k3⟩ => ⟨ur, he, ?_, k3⟩) main
  cases k1 with
  | own0 =>
    have : cs = [] := List.eq_nil_of_length_eq_zero (by simpa using hl)
    subst this
    exact .sl0 _ _
  | own _ _ _ _ b o cap hb hn hc =>
    have hb' : pl = some (b, o) := hb
    subst hb'
    obtain ⟨g1, g2⟩ := hp b o rfl
    unfold RepO at k2
    obtain ⟨c, e', fr, j1, j2, j3, j4⟩ := k2
    have hm : ∀ {v : V} {u : Value}, RepV w' (okMu w' U (some (b, o))) v u → RepV w' (fun b => b < w'.heap.size ∧ ¬ U b) v u := fun hr => hr.mono fun b hb => ⟨⟨hb.1, hb.2.1⟩, rfl⟩
    refine .sl _ _ _ (fun i => c.getD (o + i) undef) b o cap ⟨g2, fun hu => by have := hU _ hu; omega⟩ hn (fun h => by cases h) (fun i v hi => ?_) (fun i v hi => hm (j4 i v hi))
    have hlt := (List.getElem?_eq_some_iff.1 hi).1
    simp only [World.cell?, j1, Option.isSome_none, Bool.false_eq_true, if_false]
    rw [Array.getD_eq_getD_getElem?, Array.getElem?_eq_getElem (by omega)]
    rfl
/-- At the end of a function that writes to an object. -/
theorem endM {p : Nat} {rs : List CR} {d d' r r' : D} {cs' cs'' : List V} (h1 : look st.ρ p = some d') (h2 : look st.objs p = some cs'') (h3 : resM st p rs = some r') (e1 : d' = d.rekey p) (e2 : cs'' = cs') (e3 : r' = r.rekey p) : EndM st p rs d r cs' := ⟨by rw [h1, e1], by rw [h2, e2], by rw [h3, e3]⟩
end
/-- Less may be said of the cells that are left. -/
theorem Mut.shrink {P : Program} {f : FuncId} {pre post cs cs' cs'' : List V} {d r : D} (h : Mut P f pre d cs post r cs'') (hp : cs' <+: cs'') : Mut P f pre d cs post r cs' := by
  obtain ⟨h1, h⟩ := h
  refine ⟨h1, fun w U pl us1 u us2 a1 a2 a3 a4 a5 a6 a7 a8 => ?_⟩
  have main := h w U pl us1 u us2 a1 a2 a3 a4 a5 a6 a7 a8
  have fin : ∀ (R R' : Ending → World → Prop), (∀ e w', R e w' → R' e w') → CallOk P f (us1 ++ u :: us2).toArray w R → CallOk P f (us1 ++ u :: us2).toArray w R' := fun R R' hRR h => by
    unfold CallOk at h ⊢
    split at h
    · obtain ⟨g1, g2, g3, g4⟩ := h
      exact ⟨g1, g2, g3, g4.mono hRR⟩
    · exact hRR _ _ h
    · exact h.elim
  refine fin _ _ (fun e w' ⟨ur, he, k1, k2, k3⟩ => ⟨ur, he, k1, ?_, k3⟩) main
  obtain ⟨t, rfl⟩ := hp
  unfold RepO at k2 ⊢
  cases hs : pl with
  | none =>
    simp only [hs] at k2 ⊢
    exact (List.append_eq_nil_iff.1 k2).1
  | some bo =>
    obtain ⟨b, o⟩ := bo
    simp only [hs] at k2 ⊢
    obtain ⟨c, e, fr, j1, j2, j3, j4⟩ := k2
    rw [List.length_append] at j2
    exact ⟨c, e, fr, j1, by omega, j3, fun i v hi => j4 i v (by rw [List.getElem?_append_left (List.getElem?_eq_some_iff.1 hi).1]; exact hi)⟩
/-- Parts of an own row. -/
theorem own_from {objs : List (Nat × List V)} {s z off n : Nat} {k : IntKind} {i : Int} (h0 : 0 ≤ i) (h1 : i ≤ n) :
    (SO.sl false z true false false).rdx objs [.own s z off n, .v (.n k i)] = some (.own s z (off + i.toNat * z) (n - i.toNat)) := by
  simp only [SO.rdx, SO.rd, slArgs, optArg, if_true, Option.bind_some, Bool.false_and, Bool.false_eq_true, if_false, slD, optN, h0]
  rw [if_pos ⟨by omega, by omega, trivial, rfl⟩]
theorem own_upto {objs : List (Nat × List V)} {s z off n : Nat} {k : IntKind} {j : Int} (h0 : 0 ≤ j) (h1 : j ≤ n) :
    (SO.sl false z false true false).rdx objs [.own s z off n, .v (.n k j)] = some (.own s z off j.toNat) := by
  simp only [SO.rdx, SO.rd, slArgs, optArg, if_true, Option.bind_some, Bool.false_and, Bool.false_eq_true, if_false, slD, optN, h0]
  rw [if_pos ⟨by omega, by omega, trivial, rfl⟩]
  simp
theorem setL_end : ∀ (vs a b : List V), b.length = vs.length → setL (a ++ b) a.length vs = a ++ vs
  | [], a, b, hb => by simp at hb; subst hb; rfl
  | v :: vs, a, b, hb => by
    cases b with
    | nil => simp at hb
    | cons c b =>
      simp only [setL]
      rw [List.set_append_right _ _ (Nat.le_refl _), Nat.sub_self]
      have := setL_end vs (a ++ [v]) b (by simpa using hb)
      simp only [List.length_append, List.length_cons, List.length_nil, List.append_assoc, List.cons_append, List.nil_append] at this
      simpa using this
/-- The end of a row is cleared. -/
theorem own_clr {α : Type} {f : α → List V} {z : Nat} {st : St} {s n : Nat} {m q : List α} {x : α} (hz : ∀ x, (f x).length = z) (h1 : (f x).all V.one = true) (ho : look st.objs s = some (m.flatMap f)) (hn : m.length = n) (hq : m.take q.length = q) :
    (SO.clr z (f x)).ef st none [.own s z (0 + q.length * z) (n - q.length)] = some ⟨st.ρ, upd st.objs s ((q ++ List.replicate (n - q.length) x).flatMap f)⟩ := by
  have hle : q.length ≤ n := by rw [← hn, ← hq]; simp; omega
  have hlen : (m.drop q.length).length = n - q.length := by simp [hn]
  have hm : m = q ++ m.drop q.length := by
    have := (List.take_append_drop q.length m).symm
    rwa [hq] at this
  simp only [SO.ef, ho, Option.bind_some, flatMap_length hz, Nat.zero_add]
  have e1 : q.length * z + (n - q.length) * z = m.length * z := by rw [← Nat.add_mul, hn]; congr 1; omega
  rw [if_pos ⟨trivial, by omega, h1, trivial⟩, zerosL_rep (f := f) (x := x)]
  have : setL (m.flatMap f) (q.length * z) ((List.replicate (n - q.length) x).flatMap f) = (q ++ List.replicate (n - q.length) x).flatMap f := by
    have key := setL_end ((List.replicate (n - q.length) x).flatMap f) (q.flatMap f) ((m.drop q.length).flatMap f) (by rw [flatMap_length hz, flatMap_length hz, hlen]; simp)
    rw [← List.flatMap_append, ← hm, flatMap_length hz, ← List.flatMap_append] at key
    exact key
  rw [this]
/-- Behind a block that is left. -/
theorem inBlk {id : Nat} {Q : Exit → St → Prop} {st : St} (h : Q .normal st) : inBlockQ id Q (.exit id) st := by
  show if id = id then Q .normal st else Q (.exit id) st
  rw [if_pos rfl]
  exact h
theorem len_reach {α : Type} {l : List α} {z : Nat} (h : l.length * z ≤ reachBytes) (hz : 1 ≤ z) : l.length ≤ 9000000000000000000 := by
  have h1 : l.length * 1 ≤ l.length * z := Nat.mul_le_mul_left _ hz
  have e : reachBytes ≤ 9000000000000000000 := by decide
  omega
end Go.Proofs.YtljcbmnkjiogmaaDoor.Sv
/-! Contracts of the kit's own shelf, and these ones, each as the other. -/
namespace Go.Proofs.YtljcbmnkjiogmaaDoor.Sv
open Go Go.RowKit
set_option linter.unusedVariables false
set_option linter.unusedSimpArgs false

theorem Pure.calls {P : Program} {f : FuncId} {args : List V} {r : V} (h : Pure P f args r) (hcf : ∀ us w, (callFunc f us).run P w = .ok (.enter f us) w) {w : World} {U : Nat → Prop} {us : List Value} (hL : Laid w) (hU : ∀ b, U b → b < w.heap.size)
    (hus : RepL w (fun b => b < w.heap.size ∧ ¬ U b) args us) : Calls P f us.toArray w fun e w' => ∃ u, e = .returned u ∧ RepV w' (fun b => b < w'.heap.size ∧ ¬ U b) r u ∧ Below w.heap.size w w' := by
  have := h w U us hL hU hus
  unfold CallOk at this
  rw [hcf] at this
  exact this.2.2.2
theorem pure_of_calls {P : Program} {f : FuncId} {args : List V} {r : V} (hcf : ∀ us w, (callFunc f us).run P w = .ok (.enter f us) w)
    (h : ∀ (w : World) (U : Nat → Prop) (us : List Value), Laid w → (∀ b, U b → b < w.heap.size) → RepL w (fun b => b < w.heap.size ∧ ¬ U b) args us → Calls P f us.toArray w fun e w' => ∃ u, e = .returned u ∧ RepV w' (fun b => b < w'.heap.size ∧ ¬ U b) r u ∧ Below w.heap.size w w') : Pure P f args r := by
  intro w U us hL hU hus
  unfold CallOk
  rw [hcf]
  exact ⟨rfl, rfl, rfl, h w U us hL hU hus⟩
end Go.Proofs.YtljcbmnkjiogmaaDoor.Sv
