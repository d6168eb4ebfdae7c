/- Code in the frame of a round, and code behind ranges over functions. No condition. -/
import Derived.Test.YtljcbmnkjiogmaaDoorWc
import Derived.OrdersIn
import Derived.TacticsIn
import Derived.RangeFuncNested
import Derived.RangeFuncLeaves
/-! Code in the frame of a round, and code behind ranges over functions. -/
namespace Go.Proofs.YtljcbmnkjiogmaaDoor.Sv
open Go Go.RowKit
set_option linter.unusedVariables false
set_option linter.unusedSimpArgs false

/-- The fences that are spoken of: none, or that of a round's frame. -/
inductive Fen : Fence → Prop
  | wide : Fen Fence.wide
  | round (l : Nat) : Fen (Fence.wide.inRound l)
theorem Fen.fn {F : Fence} (h : Fen F) (f : FuncId) : F.fn f := by cases h <;> trivial
theorem Fen.deep {F : Fence} (h : Fen F) : F.depth = none := by cases h <;> rfl
theorem Fen.calls {F : Fence} {n : Nat} {P : Program} {f : FuncId} {args : Array Value} {w : World} {R : Ending → World → Prop} (h : Fen F) (hc : Calls P f args w R) : CallsIn F n P f args w R := by
  cases h with
  | wide => exact callsIn_wide.2 hc
  | round l => exact (callsIn_wide.2 hc).inRound l
theorem Fen.rows {F : Fence} {n : Nat} {P : Program} {row : String} {args : Array Value} {w : World} {R : Value → World → Prop} (h : Fen F) (hc : Rows P row args w R) : RowsIn F n P row args w R := by
  intro c cs _
  obtain ⟨v, w', r, s⟩ := hc c cs
  refine ⟨v, w', r, ?_⟩
  cases h with
  | wide => exact stepsIn_wide.2 s
  | round l => exact stepsIn_wide.2 s
def _root_.Go.Act.bare (a : Act) : Act := { a with defers := [] }
section
variable {P : Program} {w w0 w' : World} {U E : Nat → Prop} {nt : Nat} {st st' : St} {a : Act} {η : Eta} {F : Fence} {n : Nat}
theorem eval_bare (a : Act) : a.bare.eval = a.eval := rfl
theorem put_bare (a : Act) (d : Option Nat) (v : Value) : (a.put d v).bare = a.bare.put d v := by cases d <;> rfl
/-- An operation that is known in a plain frame, in the frame of a round and beside marks. -/
theorem op_view (hF : Fen F) {o : Oper} {N next : Act → World → Prop} {Q : Exit → Act → World → Prop} (h : o.wp P a.bare w (fun a1 w1 => a1.defers = [] ∧ N a1 w1) (fun _ _ _ => False))
    (hn : ∀ a1 w1, a1.defers = a.defers → N a1.bare w1 → next a1 w1) (hnd : ∀ c, o.op ≠ .defer c) : o.wpIn F n P a w next Q := by
  unfold Oper.wp at h
  refine ⟨fun f _ => hF.fn f, ?_⟩
  rw [Oper.semAt_eq _ _ _ hnd]
  rw [eval_bare] at h
  have out : LetsOut (fun (_ : Exit) (_ : Act) (_ : World) => False) → False := fun ⟨_, _, h⟩ => h
  have pt : ∀ u w1, (a.bare.put o.dst u).defers = [] ∧ N (a.bare.put o.dst u) w1 → next (a.put o.dst u) w1 := fun u w1 h2 => hn _ _ (put_defers _ _ _) (by rw [put_bare]; exact h2.2)
  generalize (execOp a.eval o).run P w = r at h ⊢
  cases r with
  | ok x w1 =>
    cases x
    case value v => exact pt _ _ h
    case skip => exact pt _ _ h
    case defer d =>
      have h1 : ({ a.bare with defers := d :: a.bare.defers }.put o.dst undef).defers = [] := h.1
      rw [put_defers] at h1
      cases h1
    case enter f args =>
      refine ⟨fun h => by (rw [hF.deep] at h; cases h), hF.calls (Calls.mono h fun e w2 he => ?_)⟩
      cases e with
      | returned v => exact pt _ _ he
      | panicked c => exact he.elim
      | outgrown => exact (out he).elim
    case row row args => exact ⟨fun h => by (rw [hF.deep] at h; cases h), hF.rows (Rows.mono h fun v w2 he => pt _ _ he)⟩
    all_goals exact h.elim
  | halt x w1 => cases x <;> exact h.elim
def noDefer (o : Oper) : Bool := match o.op with
  | .defer _ => false
  | _ => true
theorem noDefer_ne {o : Oper} (h : noDefer o = true) : ∀ c, o.op ≠ .defer c := fun c e => by unfold noDefer at h; rw [e] at h; cases h
/-- One operation, wanted or not. -/
theorem gop_in (hF : Fen F) {ops : Array Oper} {o : Oper} {N next : Act → World → Prop} {Q : Exit → Act → World → Prop} (hnd : noDefer o = true)
    (h : if Region.wanted o (yielded ops a.bare.tmps) then o.wp P a.bare w (fun a1 w1 => a1.defers = [] ∧ N a1 w1) (fun _ _ _ => False) ∨ (o.asks P a.bare w ∧ LetsOut (fun _ _ _ => False)) else (fun a1 w1 => a1.defers = [] ∧ N a1 w1) (a.bare.put o.dst undef) w)
    (hn : ∀ a1 w1, a1.defers = a.defers → N a1.bare w1 → next a1 w1) : if Region.wanted o (yielded ops a.tmps) then o.wpIn F n P a w next Q else (∀ f, o.about P w a.eval = some f → F.fn f) ∧ next (a.put o.dst undef) w := by
  rw [show a.bare.tmps = a.tmps from rfl] at h
  split
  · rename_i hw
    rw [if_pos hw] at h
    rcases h with h | ⟨_, _, _, h⟩
    · exact op_view hF h hn (noDefer_ne hnd)
    · exact h.elim
  · rename_i hw
    rw [if_neg hw] at h
    exact ⟨fun f _ => hF.fn f, hn _ _ (put_defers _ _ _) (by rw [put_bare]; exact h.2)⟩
theorem ops_soundIn' (hF : Fen F) {ad : Ad} {ops : Array Oper} {Q : Exit → Act → World → Prop} {K : St → Prop} {D : Nat → Prop} {a0 : Act} {df : List Deferred} {rest : List Oper}
    (hK : ∀ st a w, K st → a.defers = df → RelX w0 U E nt st a.bare w → Frm D a0 a → wpListIn F n P ops Q rest a w) : ∀ (l : List Oper) (ss : List SOp) (st : St) (a : Act) (w : World) (kn : List Nat),
    allSome (l.map (cSOp P nt ad ops)) = some ss → opsWP P false kn ss K st → a.defers = df → RelX w0 U E nt st a.bare w → (∀ o ∈ l, ∀ t, o.dst = some t → D t) → l.all noDefer = true → Frm D a0 a → wpListIn F n P ops Q (l ++ rest) a w
  | [], ss, st, a, w, kn, hc, h, hd, hr, _, _, hf => by cases hc; exact hK _ _ _ h hd hr hf
  | o :: l, ss, st, a, w, kn, hc, h, hd, hr, hD, hnd, hf => by
    simp only [List.map_cons] at hc
    cases hs : cSOp P nt ad ops o with
    | none => simp [hs, allSome] at hc
    | some s =>
      simp only [hs, allSome, Option.map_eq_some_iff] at hc
      obtain ⟨ss', hc, rfl⟩ := hc
      simp only [List.all_cons, Bool.and_eq_true] at hnd
      obtain ⟨st', h1, h2⟩ := wp_fstep h
      have hst := fstep_sound (Q := fun _ _ _ => False) hs h1 (next := fun a1 w1 => a1.defers = [] ∧ (RelX w0 U E nt st' a1 w1 ∧ Frm D a0 a1)) (fun u w' hr' => ⟨put_defers _ _ _, hr', Frm.put (a := a.bare) hf (hD o (by simp))⟩) hr
      exact gop_in hF hnd.1 hst fun a1 w1 hd1 ⟨hr1, hf1⟩ => ops_soundIn' hF hK l ss' st' a1 w1 _ hc h2 (hd1.trans hd) hr1 (fun o ho => hD o (by simp [ho])) hnd.2 hf1
theorem ops_soundIn (hF : Fen F) {ad : Ad} {ops : Array Oper} {Q : Exit → Act → World → Prop} {K : St → Prop} {D : Nat → Prop} {a0 : Act} {df : List Deferred}
    (hK : ∀ st a w, K st → a.defers = df → RelX w0 U E nt st a.bare w → Frm D a0 a → Q .normal a w) (l : List Oper) (ss : List SOp) (st : St) (a : Act) (w : World) (kn : List Nat)
    (hc : allSome (l.map (cSOp P nt ad ops)) = some ss) (h : opsWP P false kn ss K st) (hd : a.defers = df) (hr : RelX w0 U E nt st a.bare w) (hD : ∀ o ∈ l, ∀ t, o.dst = some t → D t) (hnd : l.all noDefer = true) (hf : Frm D a0 a) : wpListIn F n P ops Q l a w := by
  have := ops_soundIn' (n := n) (rest := []) hF (Q := Q) hK l ss st a w kn hc h hd hr hD hnd hf
  rwa [List.append_nil] at this
theorem AnyS.soundIn {ad : Ad} (hF : Fen F) {ops : Array Oper} {ss : List SOp} {Fin : St → Prop} {Q : Exit → Act → World → Prop} {D : Nat → Prop} {a0 : Act} {df : List Deferred} (hss : ∀ (i : Nat) o, ops[i]? = some o → ∃ s s0, ss[i]? = some s ∧ cSOp P nt ad ops o = some s0 ∧ ∀ st st', GStep P s st st' → GStep P s0 st st')
    (hfin : ∀ st a w, Fin st → a.defers = df → RelX w0 U E nt st a.bare w → Frm D a0 a → Q .normal a w) (hD : ∀ (i : Nat) o, ops[i]? = some o → ∀ t, o.dst = some t → D t) (hnd : ∀ (i : Nat) o, ops[i]? = some o → noDefer o = true) :
    ∀ (fuel : Nat) (listed : Array Bool) (st : St) (a : Act) (w : World), AnyS P ops ss Fin fuel listed st → a.defers = df → RelX w0 U E nt st a.bare w → Frm D a0 a → wpAnyIn F n P .any ops Q fuel listed a w
  | 0, listed, st, a, w, h, hd, hr, hf => ⟨h.1, hfin _ _ _ h.2 hd hr hf⟩
  | fuel + 1, listed, st, a, w, h, hd, hr, hf => ⟨fun h0 => hfin _ _ _ (h.1 h0) hd hr hf, fun i hi => by
      obtain ⟨s, st', h1, h2, h3⟩ := h.2 i hi
      obtain ⟨_, o, ho, _⟩ := mem_ready.1 hi
      obtain ⟨s', s0, h4, h5, h6⟩ := hss i o ho
      rw [h1] at h4
      cases h4
      unfold wpOpIn
      simp only [ho]
      rcases h2 with h2 | ⟨_, st1, he, h2⟩
      · have hst := gstep_sound (Q := fun _ _ _ => False) hr h5 (h6 _ _ (n_gstep h2)) (next := fun a1 w1 => a1.defers = [] ∧ (RelX w0 U E nt st' a1 w1 ∧ Frm D a0 a1)) fun u w' hr' => ⟨put_defers _ _ _, hr', Frm.put (a := a.bare) hf (hD i o ho)⟩
        exact gop_in hF (hnd i o ho) hst fun a1 w1 hd1 ⟨hr1, hf1⟩ => AnyS.soundIn hF hss hfin hD hnd fuel _ st' a1 w1 h3 (hd1.trans hd) hr1 hf1
      · have hst := gstep_sound (Q := fun _ _ _ => False) (hr.eqv he) h5 (h6 _ _ h2) (next := fun a1 w1 => a1.defers = [] ∧ (RelX w0 U E nt st' a1 w1 ∧ Frm D a0 a1)) fun u w' hr' => ⟨put_defers _ _ _, hr', Frm.put (a := a.bare) hf (hD i o ho)⟩
        exact gop_in hF (hnd i o ho) hst fun a1 w1 hd1 ⟨hr1, hf1⟩ => AnyS.soundIn hF hss hfin hD hnd fuel _ st' a1 w1 h3 (hd1.trans hd) hr1 hf1⟩
end
end Go.Proofs.YtljcbmnkjiogmaaDoor.Sv
/-! Code in the frame of a round, and beside marks: regions and whole pieces. -/
namespace Go.Proofs.YtljcbmnkjiogmaaDoor.Sv
open Go Go.RowKit
set_option linter.unusedVariables false
set_option linter.unusedSimpArgs false

/-- A round's beginning, within a fence. -/
def LoopIn (F : Fence) (n : Nat) (P : Program) (c : Code) (Q : Exit → Act → World → Prop) (a : Act) (w : World) : Prop :=
  ∀ (b : Frame) (k : List Item) (cs : List Frame), b.roundOf = F.round → F.fn b.fn → F.room (cs.length + 1 + n) →
    ∃ e a' w', Q e a' w' ∧ ArrivesIn (Machine.fenced P F) P (lone (b.atR a (.code c :: .inLoop c :: k)) cs w) b k cs e a' w'
/-- Nothing is put off. -/
def codeND : Code → Bool
  | .region _ ops _ => ops.toList.all noDefer
  | .seq x y => codeND x && codeND y
  | .cond _ x y => codeND x && codeND y
  | .block _ x => codeND x
  | .loop x => codeND x
  | _ => true
/-- The slots that a piece of code sets. -/
def dstsC : Code → List Nat
  | .region _ ops _ => dstsOf ops
  | .seq x y => dstsC x ++ dstsC y
  | .cond _ x y => dstsC x ++ dstsC y
  | .block _ x => dstsC x
  | .loop x => dstsC x
  | _ => []
theorem Frm.join {D D' : Nat → Prop} {a0 a a2 : Act} (h : Frm D a0 a) (h' : Frm D' a a2) (hD : ∀ t, D' t → D t) : Frm D a0 a2 := fun t ht => (h' t fun k => ht (hD t k)).trans (h t ht)
section
variable {P : Program} {w w0 w' : World} {U E : Nat → Prop} {nt : Nat} {st st' : St} {a : Act} {η : Eta} {F : Fence} {n : Nat}
theorem LoopIn.wp {c : Code} {Q : Exit → Act → World → Prop} (h : LoopIn F n P c Q a w) : (Code.loop c).wpIn F n P Q a w := fun b k cs hro hb hr =>
  let ⟨e, a', w', hq, harr⟩ := h b k cs hro hb hr
  ⟨e, a', w', hq, .of_steps (.one (fenced_calm hb hr rfl) stepR_loop) harr⟩
theorem LoopIn.unroll {c : Code} {Q : Exit → Act → World → Prop} (h : c.wpIn F n P (Exit.then (LoopIn F n P c Q) Q) a w) : LoopIn F n P c Q a w := by
  intro b k cs hro hb hr
  obtain ⟨e, a₁, w₁, hq, harr⟩ := h b (.inLoop c :: k) cs hro hb hr
  cases e with
  | normal =>
    obtain ⟨e₂, a₂, w₂, hq₂, harr₂⟩ := hq b k cs hro hb hr
    exact ⟨e₂, a₂, w₂, hq₂, .of_steps (StepsIn.trans harr (.one (fenced_calm hb hr rfl) stepR_inLoop)) harr₂⟩
  | exit id => exact ⟨_, a₁, w₁, hq, .pass (x := .inLoop c) rfl (fun _ _ => .inl (by simp)) harr⟩
  | goto l => exact ⟨_, a₁, w₁, hq, .pass (x := .inLoop c) rfl (fun _ _ => .inl (by simp)) harr⟩
  | ret => exact ⟨_, a₁, w₁, hq, .pass (x := .inLoop c) rfl (fun _ _ => .inl (by simp)) harr⟩
  | panic ch => exact ⟨_, a₁, w₁, hq, .pass (x := .inLoop c) rfl (fun _ _ => .inl (by simp)) harr⟩
  | outgrown => exact ⟨_, a₁, w₁, hq, .pass (x := .inLoop c) rfl (fun _ _ => .inl (by simp)) harr⟩
/-- What is known behind a piece of code: what was put off before is still put off. -/
def liftG (w0 : World) (U E : Nat → Prop) (nt : Nat) (D : Nat → Prop) (a0 : Act) (df : List Deferred) (Q : Exit → St → Prop) : Exit → Act → World → Prop := fun e a w => a.defers = df ∧ (∃ st, RelX w0 U E nt st a.bare w ∧ Q e st) ∧ Frm D a0 a
theorem compR_soundIn (hF : Fen F) {df : List Deferred} {ad : Ad} {id : Nat} {ops : Array Oper} {draw : Bool} {live : List Nat} {sc : SC} {Q : Exit → St → Prop} {D : Nat → Prop} {a0 : Act} (hc : compR P ad nt ops draw live = some sc) (h : sc.wp P Q st) (hd : a.defers = df) (hr : RelX w0 U E nt st a.bare w)
    (hD : ∀ o ∈ ops.toList, ∀ t, o.dst = some t → D t) (hnd : ops.toList.all noDefer = true) (hf : Frm D a0 a) : (Code.region id ops draw).wpIn F n P (liftG w0 U E nt D a0 df Q) a w := by
      simp only [compR, Option.bind_eq_some_iff] at hc
      obtain ⟨ss, hss, hc⟩ := hc
      split at hc
      · rename_i hdr
        subst hdr
        obtain ⟨hl, hget⟩ := allSome_get hss
        have hss0 : ∀ (i : Nat) o, ops[i]? = some o → ∃ s0, cSOp P nt (ad.at true) ops o = some s0 ∧ ss[i]? = some s0 := fun i o ho => by
          obtain ⟨y, h1, h2⟩ := hget i (cSOp P nt (ad.at true) ops o) (by simp [ho])
          exact ⟨y, h1, h2⟩
        have main : ∀ ss' : List SOp, (∀ (i : Nat) o, ops[i]? = some o → ∃ s s0, ss'[i]? = some s ∧ cSOp P nt (ad.at true) ops o = some s0 ∧ ∀ st st', GStep P s st st' → GStep P s0 st st') → drawOk P ops ss' = true → (SC.dreg ss' (pairsOf ss' (clos ops)) live).wp P Q st →
            (Code.region id ops true).wpIn F n P (liftG w0 U E nt D a0 df Q) a w := by
          intro ss' hss1 hok h
          simp only [drawOk, Bool.and_eq_true, beq_iff_eq] at hok
          obtain ⟨⟨⟨⟨hm, hsel⟩, hlen⟩, hlexb⟩, hdist⟩ := hok
          have hlex := lexB_D hlen hlexb
          have hdn := distNew_of hdist
          have hcl : CleanFor ss' (Array.replicate ops.size false) (st.clean (ss'.flatMap dsite)) := by
            intro i s t _ hi hn ht k d hk
            refine clean_none _ st.ρ t ?_ k d hk
            refine List.mem_flatMap.2 ⟨s, List.mem_of_getElem? hi, ?_⟩
            unfold dsite
            rw [ht]
            cases hso : s.so <;> rw [hso] at hn <;> simp [isNew] at hn <;> simp
          simp only [SC.wp] at h
          obtain ⟨hchk, h⟩ := drawW_iff.1 h
          have hany : AnyS P ops ss' (fun st => ∃ st1, Q .normal (st1.keep live) ∧ Eqv st1 st) ops.size (Array.replicate ops.size false) (st.clean (ss'.flatMap dsite)) := by
            have := AnyS.checked (P := P) (ops := ops) (ss := ss') (prs := pairsOf ss' (clos ops)) (Fin := fun st => ∃ st1, Q .normal (st1.keep live) ∧ Eqv st1 st) (fun s1 s2 he hf => by obtain ⟨s3, h1, h2⟩ := hf; exact ⟨s3, h1, h2.trans he⟩) (fun i o ho => let ⟨s, _, h2, _⟩ := hss1 i o ho; ⟨s, h2⟩) hdn
              (listed := Array.replicate ops.size false) (by rw [hlen]; exact hlex) hcl (fun k o hk => by
                exfalso
                rw [Array.getD_eq_getD_getElem?, Array.getElem?_replicate] at hk
                split at hk <;> cases hk) hchk (opsWP_mono (fun st' h' => by exact ⟨st', keepK_iff.1 h', Eqv.refl _⟩) h)
            rwa [hlen] at this
          refine wpIn_region_any hm ?_
          have hr2 : RelX w0 U E nt (st.clean (ss'.flatMap dsite)) a.bare { w with drawn := w.drawn + 1 } := by
            obtain ⟨η, hr⟩ := hr.clean (ss'.flatMap dsite)
            exact ⟨η, hr.below ((Below.refl _ w).drew)⟩
          exact AnyS.soundIn hF (df := df) hss1 (fun st1 a1 w1 hfin hd1 hr1 hf1 => by obtain ⟨st2, h1, h2⟩ := hfin; exact ⟨hd1, ⟨st2.keep live, (hr1.eqv h2.symm).keep live, h1⟩, hf1⟩) (fun i o ho => hD o (Array.mem_toList_iff.2 (Array.mem_of_getElem? ho))) (fun i o ho => List.all_eq_true.1 hnd o (Array.mem_toList_iff.2 (Array.mem_of_getElem? ho))) _ _ _ _ _ hany hd hr2 hf
        split at hc
        · rename_i hok
          cases hc
          exact main ss (fun i o ho => let ⟨s0, h1, h2⟩ := hss0 i o ho; ⟨s0, s0, h2, h1, fun _ _ h => h⟩) (by simp only [Bool.and_eq_true] at hok; exact hok.2) h
        split at hc
        · rename_i hok
          cases hc
          exact main (ss.map SOp.toO) (fun i o ho => let ⟨s0, h1, h2⟩ := hss0 i o ho; ⟨s0.toO, s0, by simp [h2], h1, fun _ _ => toO_gstep⟩) (by simp only [Bool.and_eq_true] at hok; exact hok.2) h
        · split at hc <;> cases hc
          case isTrue.isFalse.isFalse.isFalse.refl => exact h.elim
          rename_i hok
          exact main (ss.map SOp.toD) (fun i o ho => let ⟨s0, h1, h2⟩ := hss0 i o ho; ⟨s0.toD, s0, by simp [h2], h1, fun _ _ => toD_gstep⟩) hok h
      · rename_i hdr
        cases hc
        have : draw = false := by simpa using hdr
        subst this
        refine wpIn_region_list ?_
        exact ops_soundIn hF (df := df) (fun st1 a1 w1 h1 hd1 hr1 hf1 => ⟨hd1, ⟨_, hr1.keep live, keepK_iff.1 h1⟩, hf1⟩) ops.toList ss st a w [] hss h hd hr hD hnd hf
theorem compile_soundIn (hF : Fen F) {df : List Deferred} {ad : Ad} {D : Nat → Prop} {a0 : Act} : ∀ (m : Nat) (c : Code), SizeOf.sizeOf c ≤ m → codeND c = true → (∀ t ∈ dstsC c, D t) → ∀ (hs hs' : List (List Nat)) (sc : SC) (Q : Exit → St → Prop) (st : St) (a : Act) (w : World), compile P ad nt c hs = some (sc, hs') → sc.wp P Q st → a.defers = df → RelX w0 U E nt st a.bare w → Frm D a0 a → c.wpIn F n P (liftG w0 U E nt D a0 df Q) a w := by
  intro m
  induction m with
  | zero => intro c hn _ _; cases c <;> simp at hn
  | succ m ih =>
  intro c hn hnd hD
  cases c with
  | skip => intro hs hs' sc Q st a w hc h hd hr hf; simp only [compile] at hc; cases hc; exact wpIn_skip ⟨hd, ⟨st, hr, h⟩, hf⟩
  | ret => intro hs hs' sc Q st a w hc h hd hr hf; simp only [compile] at hc; cases hc; exact wpIn_ret ⟨hd, ⟨st, hr, h⟩, hf⟩
  | exit id => intro hs hs' sc Q st a w hc h hd hr hf; simp only [compile] at hc; cases hc; exact wpIn_exit ⟨hd, ⟨st, hr, h⟩, hf⟩
  | region id ops draw =>
    intro hs hs' sc Q st a w hc h hd hr hf
    cases hs with
    | nil => simp [compile] at hc
    | cons live hs =>
      simp only [compile, Option.map_eq_some_iff] at hc
      obtain ⟨x, hx, hc⟩ := hc
      cases hc
      exact compR_soundIn hF hx h hd hr (fun o ho t ht => hD t (dstsOf_mem ho ht)) hnd hf
  | seq x y =>
    simp only [codeND, Bool.and_eq_true] at hnd
    simp only [dstsC, List.mem_append] at hD
    have ihx := ih x (by simp at hn; omega) hnd.1 (fun t ht => hD t (.inl ht))
    have ihy := ih y (by simp at hn; omega) hnd.2 (fun t ht => hD t (.inr ht))
    intro hs hs' sc Q st a w hc h hd hr hf
    unfold compile at hc
    split at hc
    case h_7 =>
      rename_i i1 ops1 d1 i2 ops2 d2 z l1 l2 hs1 heq
      cases heq
      simp only [codeND, Bool.and_eq_true] at hnd
      simp only [dstsC, List.mem_append] at hD
      have ihz := ih z (by simp at hn; omega) hnd.2.2 (fun t ht => hD t (.inr (.inr ht)))
      have hds : ∀ t, t ∈ dstsOf ops1 ++ dstsOf ops2 → D t := fun t ht => by
        rcases List.mem_append.1 ht with h | h
        · exact hD t (.inl h)
        · exact hD t (.inr (.inl h))
      simp only [Option.bind_eq_some_iff, Option.map_eq_some_iff] at hc
      obtain ⟨x', hx, y', hy, ⟨z', hs2⟩, hz, hc⟩ := hc
      cases hc
      have hm1 : ∀ o ∈ ops1.toList, ∀ t, o.dst = some t → t ∈ dstsOf ops1 ++ dstsOf ops2 := fun o ho t ht => List.mem_append_left _ (dstsOf_mem ho ht)
      have hm2 : ∀ o ∈ ops2.toList, ∀ t, o.dst = some t → t ∈ dstsOf ops1 ++ dstsOf ops2 := fun o ho t ht => List.mem_append_right _ (dstsOf_mem ho ht)
      generalize dstsOf ops1 ++ dstsOf ops2 = ds at h hm1 hm2 hds
      have hF := hr.freezeL (st.objs.map (·.1))
      obtain ⟨η, h0⟩ := hr
      obtain ⟨ηF, h1⟩ := hF
      simp only [SC.wp] at h
      have h := (forceR_iff (K := fun ρ => x'.wp P (thenQ (fun st' => y'.wp P (thawQ ds st (thenQ (fun st' => z'.wp P Q st') Q)) st') (thawQ ds st (thenQ (fun st' => z'.wp P Q st') Q))) ⟨ρ, []⟩)).1 h
      refine wpIn_seq (wpIn_mono (compR_soundIn hF (w0 := w) (U := U) (E := fun _ => False) (D := (· ∈ ds)) (a0 := a) hx h hd ⟨ηF, h1.rebase⟩ hm1 hnd.1 (Frm.refl _ _)) fun e a1 w1 ⟨hd1, ⟨st1, hr1, hq1⟩, hf1⟩ => ?_)
      cases e with
      | normal =>
        refine wpIn_seq (wpIn_mono (compR_soundIn hF (w0 := w) (U := U) (E := fun _ => False) (D := (· ∈ ds)) (a0 := a) hy hq1 hd1 hr1 hm2 hnd.2.1 hf1) fun e a2 w2 ⟨hd2, ⟨st2, ⟨η2, hr2⟩, hq2⟩, hf2⟩ => ?_)
        cases e with
        | normal => exact ihz _ _ _ _ _ a2 w2 hz (mergeK_iff.1 hq2) hd2 ⟨η, h0.merged (a := a.bare) hr2 hf2⟩ (hf.join hf2 hds)
        | _ => exact hq2.elim
      | _ => exact hq1.elim
    case h_8 =>
      rename_i heq _
      cases heq
      simp only [Option.bind_eq_some_iff, Option.map_eq_some_iff] at hc
      obtain ⟨⟨x', hs1⟩, hx, ⟨y', hs2⟩, hy, hc⟩ := hc
      cases hc
      refine wpIn_seq (wpIn_mono (ihx _ _ _ _ st a w hx h hd hr hf) fun e a1 w1 ⟨hd1, ⟨st1, hr1, hq⟩, hf1⟩ => ?_)
      cases e with
      | normal => exact ihy _ _ _ _ st1 a1 w1 hy hq hd1 hr1 hf1
      | _ => exact ⟨hd1, ⟨st1, hr1, hq⟩, hf1⟩
    case h_12 => simp_all
    all_goals (rename_i heq; cases heq)
  | cond c x y =>
    simp only [codeND, Bool.and_eq_true] at hnd
    simp only [dstsC, List.mem_append] at hD
    have ihx := ih x (by simp at hn; omega) hnd.1 (fun t ht => hD t (.inl ht))
    have ihy := ih y (by simp at hn; omega) hnd.2 (fun t ht => hD t (.inr ht))
    intro hs hs' sc Q st a w hc h hd hr hf
    simp only [compile, Option.bind_eq_some_iff, Option.map_eq_some_iff] at hc
    obtain ⟨c', hcc, ⟨x', hs1⟩, hx, ⟨y', hs2⟩, hy, hc⟩ := hc
    cases hc
    simp only [SC.wp] at h
    split at h
    · rename_i p hp
      obtain ⟨η, hr'⟩ := hr
      have hrep := Opd.rep hr' hcc hp
      rw [eval_bare] at hrep
      generalize hv : a.eval c = v at hrep
      cases hrep with | v _ _ hrep =>
      cases hrep
      have h := h.get
      cases p
      · exact wpIn_cond_false hv (ihy _ _ _ _ st a w hy h hd ⟨η, hr'⟩ hf)
      · exact wpIn_cond_true hv (ihx _ _ _ _ st a w hx h hd ⟨η, hr'⟩ hf)
    · exact h.elim
  | block id x =>
    simp only [codeND] at hnd
    have ih := ih x (by simp at hn; omega) hnd hD
    intro hs hs' sc Q st a w hc h hd hr hf
    simp only [compile, Option.map_eq_some_iff] at hc
    obtain ⟨⟨x', hs1⟩, hx, hc⟩ := hc
    cases hc
    refine wpIn_block (wpIn_mono (ih _ _ _ _ st a w hx h hd hr hf) fun e a1 w1 ⟨hd1, ⟨st1, hr1, hq⟩, hf1⟩ => ?_)
    cases e with
    | exit id' =>
      unfold inBlockQ at hq
      by_cases hi : id' = id
      · simp only [hi, if_true] at hq
        simp only [Exit.inBlock, hi, if_true]
        exact ⟨hd1, ⟨st1, hr1, hq⟩, hf1⟩
      · simp only [hi, if_false] at hq
        simp only [Exit.inBlock, hi, if_false]
        exact ⟨hd1, ⟨st1, hr1, hq⟩, hf1⟩
    | _ => exact ⟨hd1, ⟨st1, hr1, hq⟩, hf1⟩
  | loop x =>
    simp only [codeND] at hnd
    have ih := ih x (by simp at hn; omega) hnd hD
    intro hs hs' sc Q st a w hc h hd hr hf
    cases hs with
    | nil => simp [compile] at hc
    | cons live hs =>
      simp only [compile, Option.map_eq_some_iff] at hc
      obtain ⟨⟨x', hs1⟩, hx, hc⟩ := hc
      cases hc
      refine LoopIn.wp ?_
      obtain ⟨h⟩ := keepK_iff.1 h
      refine h (fun s => ∀ (a : Act) (w : World), a.defers = df → RelX w0 U E nt s a.bare w → Frm D a0 a → LoopIn F n P x (liftG w0 U E nt D a0 df Q) a w) (fun s hs a1 w1 hd1 hr1 hf1 => ?_) a w hd (hr.keep live) hf
      refine LoopIn.unroll (wpIn_mono (ih _ _ _ _ s a1 w1 hx hs hd1 hr1 hf1) fun e a2 w2 ⟨hd2, ⟨st2, hr2, hq⟩, hf2⟩ => ?_)
      cases e with
      | normal => exact (keepK_iff (K := fun s => ∀ (a : Act) (w : World), a.defers = df → RelX w0 U E nt s a.bare w → Frm D a0 a → LoopIn F n P x (liftG w0 U E nt D a0 df Q) a w)).1 hq a2 w2 hd2 (hr2.keep live) hf2
      | _ => exact ⟨hd2, ⟨st2, hr2, hq⟩, hf2⟩
  | _ => intro hs hs' sc Q st a w hc h hd hr hf; cases hs <;> (simp only [compile, Option.some.injEq, Prod.mk.injEq] at hc; obtain ⟨rfl, _⟩ := hc; exact h.elim)

end
end Go.Proofs.YtljcbmnkjiogmaaDoor.Sv
/-! What is known of slots and objects abides the turn of blocks that are no rows of cells. -/
namespace Go.Proofs.YtljcbmnkjiogmaaDoor.Sv
open Go Go.RowKit
set_option linter.unusedVariables false
set_option linter.unusedSimpArgs false

/-- Rows of cells lie as they lay, and so does all below B. -/
structure Grew (B : Nat) (w w' : World) : Prop where
  os : w'.os = w.os
  tape : w'.tape = w.tape
  output : w'.output = w.output
  size : w.heap.size ≤ w'.heap.size
  same : ∀ (k : Nat) (o : Obj), w.heap[k]? = some o → o.isCells = true → w'.heap[k]? = some o
  low : ∀ k, k < B → k < w.heap.size → w'.heap[k]? = w.heap[k]?
theorem Grew.cell {B : Nat} {w w' : World} (h : Grew B w w') {b o : Nat} {v : Value} (hc : w.cell? ⟨b, o, none⟩ = some v) : w'.cell? ⟨b, o, none⟩ = some v := by
  simp only [World.cell?] at hc ⊢
  cases hb : w.heap[b]? with
  | none => simp [hb] at hc
  | some x =>
    cases x with
    | cells c e fr => rw [h.same b _ hb rfl]; rw [hb] at hc; exact hc
    | _ => rw [hb] at hc; cases hc
theorem RepV.grew {B : Nat} {w w' : World} {ok ok' : Nat → Prop} (ht : Grew B w w') (h : ∀ b, ok b → ok' b) {v : V} {u : Value} (hr : RepV w ok v u) : RepV w' ok' v u := by
  induction hr with
  | b x => exact .b x
  | n k x => exact .n k x
  | s x => exact .s x
  | nilp => exact .nilp
  | ip cells us bl off hok hc hr ih => exact .ip cells us bl off (h _ hok) (fun i v hi => ht.cell (hc i v hi)) ih
  | sl0 t a => exact .sl0 t a
  | sl len cells t us bl off cap hok hl htt hc hr ih => exact .sl len cells t us bl off cap (h _ hok) hl htt (fun i v hi => ht.cell (hc i v hi)) ih
  | agg xs us hl hr ih => exact .agg xs us hl ih
  | tup xs us hl hr ih => exact .tup xs us hl ih
  | clo fn first cap fs cs hl hl' hr hr' ih ih' => exact .clo fn first cap fs cs hl hl' ih ih'
  | nilf => exact .nilf
  | ifc t v u h ih => exact .ifc t v u ih
  | nili => exact .nili
theorem Grew.row {B : Nat} {w w' : World} (h : Grew B w w') (b : Nat) : rowSize w b ≤ rowSize w' b := by
  unfold rowSize
  cases hb : w.heap[b]? with
  | none => exact Nat.zero_le _
  | some x =>
    cases x with
    | cells c e fr => rw [h.same b _ hb rfl]; exact Nat.le_refl _
    | _ => exact Nat.zero_le _
section
variable {P : Program} {w w0 w' : World} {U E : Nat → Prop} {nt : Nat} {st st' : St} {a : Act} {η : Eta}
theorem Ok.grew {B : Nat} {objs : List (Nat × List V)} (ht : Grew B w w') (b : Nat) (h : Ok U objs η w b) : Ok U objs η w' b := ⟨Nat.lt_of_lt_of_le h.1 ht.size, h.2⟩
theorem RepD.grew {B : Nat} {objs : List (Nat × List V)} (ht : Grew B w w') {d : D} {u : Value} (h : RepD w (Ok U objs η w) η d u) : RepD w' (Ok U objs η w') η d u := by
  cases h with
  | v x u h => exact .v x _ (h.grew ht fun b hb => Ok.grew ht b hb)
  | ref s off b o h => exact .ref s off b o h
  | own0 s z off a => exact .own0 s z off a
  | own s z off len b o cap h hl hc => exact .own s z off len b o cap h hl (Nat.le_trans hc (ht.row b))
  | dead u => exact .dead _
theorem RepO.grew {B : Nat} {objs : List (Nat × List V)} (ht : Grew B w w') {s : Nat} {cs : List V} (h : RepO w (Ok U objs η w) η s cs) : RepO w' (Ok U objs η w') η s cs := by
  unfold RepO at h ⊢
  split at h
  · exact h
  · obtain ⟨c, e, fr, h1, h2, h3, h4⟩ := h
    exact ⟨c, e, fr, ht.same _ _ h1 rfl, h2, h3, fun i v hi => (h4 i v hi).grew ht fun b hb => Ok.grew ht b hb⟩
theorem Keeps.grew {B : Nat} (h : Keeps w0 E w) (hB : w0.heap.size ≤ B) (ht : Grew B w w') : Keeps w0 E w' := by
  have lo : ∀ k, k < w0.heap.size → w'.heap[k]? = w.heap[k]? := fun k hk => ht.low k (Nat.lt_of_lt_of_le hk hB) (Nat.lt_of_lt_of_le hk h.size)
  refine ⟨h.laid, h.apart, ht.os.trans h.os, ht.tape.trans h.tape, ht.output.trans h.output, Nat.le_trans h.size ht.size, fun k hk hE => (lo k hk).trans (h.block k hk hE), fun k hk => ?_⟩
  have := h.row k hk
  simp only [rowSize, lo k hk] at this ⊢
  exact this
theorem Rel.grew {B : Nat} (h : Rel w0 U E nt st a w η) (hB : w0.heap.size ≤ B) (ht : Grew B w w') : Rel w0 U E nt st a w' η where
  size := h.size
  defers := h.defers
  keeps := h.keeps.grew hB ht
  uold := h.uold
  slots t d hd := ⟨(h.slots t d hd).1, (h.slots t d hd).2.grew ht⟩
  objs s cs hs := (h.objs s cs hs).grew ht
  lies s cs b o h1 h2 := ⟨(h.lies s cs b o h1 h2).1, Nat.lt_of_lt_of_le (h.lies s cs b o h1 h2).2 ht.size⟩
  inj := h.inj
theorem Grew.of {B : Nat} {row : Option Nat} (hg : w.grownBy w' row) (hr : ∀ r, row = some r → B ≤ r ∧ ∃ o : Obj, w.heap[r]? = some o ∧ o.isCells = false) : Grew B w w' where
  os := hg.os
  tape := hg.tape
  output := hg.output
  size := hg.size
  same k o hk ho := by
    have hlt := (Array.getElem?_eq_some_iff.1 hk).1
    rw [hg.block k hlt fun e => ?_, hk]
    obtain ⟨_, o', h1, h2⟩ := hr k e.symm
    rw [hk] at h1
    cases h1
    rw [ho] at h2
    cases h2
  low k hk hlt := hg.block k hlt fun e => by have := (hr k e.symm).1; omega
/-- The blocks of the call's own objects. -/
def OwnB (st : St) (η : Eta) (b : Nat) : Prop := ∃ s cs o, look st.objs s = some cs ∧ η s = some (b, o)
/-- The world as it is serves as the one that the call found: the own objects may be written. -/
theorem Rel.rebaseE (h : Rel w0 U E nt st a w η) : Rel w U (OwnB st η) nt st a w η where
  size := h.size
  defers := h.defers
  keeps := ⟨h.keeps.now, fun b ⟨s, cs, o, h1, h2⟩ hl => by
    rcases (h.lies s cs b o h1 h2).1 with h3 | h3
    · have := h.keeps.laid.lt hl; omega
    · exact h.keeps.apart b h3 hl, rfl, rfl, rfl, Nat.le_refl _, fun _ _ _ => rfl, fun _ _ => rfl⟩
  uold b hb := ⟨Nat.lt_of_lt_of_le (h.uold b hb).1 h.keeps.size, fun ⟨s, cs, o, h1, h2⟩ => by
    rcases (h.lies s cs b o h1 h2).1 with h3 | h3
    · have := (h.uold b hb).1; omega
    · exact (h.uold b hb).2 h3⟩
  slots := h.slots
  objs := h.objs
  lies s cs b o h1 h2 := ⟨.inr ⟨s, cs, o, h1, h2⟩, (h.lies s cs b o h1 h2).2⟩
  inj := h.inj
/-- And back. -/
theorem Rel.back {st2 : St} {a2 : Act} {w2 : World} {η2 : Eta} (h : Rel w0 U E nt st a w η) (h2 : Rel w U (OwnB st η) nt st2 a2 w2 η2) : Rel w0 U E nt st2 a2 w2 η2 where
  size := h2.size
  defers := h2.defers
  keeps := by
    have ap : ∀ k, k < w0.heap.size → ¬ E k → ¬ OwnB st η k := fun k hk hE ⟨s, cs, o, h1, h3⟩ => by
      rcases (h.lies s cs k o h1 h3).1 with h4 | h4
      · omega
      · exact hE h4
    refine ⟨h.keeps.laid, h.keeps.apart, h2.keeps.os.trans h.keeps.os, h2.keeps.tape.trans h.keeps.tape, h2.keeps.output.trans h.keeps.output, Nat.le_trans h.keeps.size h2.keeps.size,
      fun k hk hE => (h2.keeps.block k (Nat.lt_of_lt_of_le hk h.keeps.size) (ap k hk hE)).trans (h.keeps.block k hk hE), fun k hk => ?_⟩
    exact (h2.keeps.row k (Nat.lt_of_lt_of_le hk h.keeps.size)).trans (h.keeps.row k hk)
  uold := h.uold
  slots := h2.slots
  objs := h2.objs
  lies s cs b o h1 h3 := by
    obtain ⟨h4, h5⟩ := h2.lies s cs b o h1 h3
    refine ⟨?_, h5⟩
    rcases h4 with h4 | ⟨s', cs', o', h6, h7⟩
    · exact .inl (Nat.le_trans h.keeps.size h4)
    · exact (h.lies s' cs' b o' h6 h7).1
  inj := h2.inj
/-- What is no row of cells lies behind such a piece as it lay. -/
theorem Rel.others {st2 : St} {a2 : Act} {w2 : World} {η2 : Eta} (h : Rel w0 U E nt st a w η) (h2 : Rel w U (OwnB st η) nt st2 a2 w2 η2) : KeepsOthers w w2 := by
  refine ⟨h2.keeps.size, fun k o hk ho => ?_⟩
  have hlt := (Array.getElem?_eq_some_iff.1 hk).1
  rw [h2.keeps.block k hlt fun ⟨s, cs, o', h1, h3⟩ => ?_]
  · exact hk
  · have h4 := h.objs s cs h1
    unfold RepO at h4
    rw [h3] at h4
    obtain ⟨c, e, fr, h5, _⟩ := h4
    rw [hk] at h5
    cases h5
    cases ho
end
end Go.Proofs.YtljcbmnkjiogmaaDoor.Sv
/-! Loops over iterators: the walk of one. -/
namespace Go.Proofs.YtljcbmnkjiogmaaDoor.Sv
open Go Go.RowKit
set_option linter.unusedVariables false
set_option linter.unusedSimpArgs false
abbrev markD (D : Nat) : Deferred := { target := .collected D, args := #[] }
/-- How a round may be left. -/
def roundQ (X : Nat → Prop) (I : World → Prop) (Ix : Code → World → Prop) (W W2 : World) : Exit → Act → World → Prop
  | .normal, _, W' => KeepsOthers W2 W' ∧ KpX X W W' ∧ I W'
  | .ret, _, W' => KeepsOthers W2 W' ∧ KpX X W W' ∧ Ix .ret W'
  | .exit id, _, W' => KeepsOthers W2 W' ∧ KpX X W W' ∧ Ix (.exit id) W'
  | _, _, _ => False
theorem Laid.cells {W W' : World} (h : Laid W) (hk : ∀ (k : Nat) (o : Obj), W.heap[k]? = some o → o.isCells = true → W'.heap[k]? = some o) : Laid W' := fun b c hb => let ⟨cs, e, fr, h0, h1⟩ := h b c hb; ⟨cs, e, fr, h0, hk _ _ h1 rfl⟩
theorem Grew.below {B : Nat} {W W' : World} (h : Below W.heap.size W W') : Grew B W W' :=
  ⟨h.os, h.tape, h.output, h.size, fun k o hk _ => (h.block k (Array.getElem?_eq_some_iff.1 hk).1).trans hk, fun k _ hk => h.block k hk⟩
theorem Grew.put {B l : Nat} {W : World} {o : Obj} (o' : Obj) (hl : B ≤ l) (h : W.heap[l]? = some o) (ho : o.isCells = false) : Grew B W (W.putObj l o') :=
  Grew.of (grownBy_putObj' W l o') fun r e => by cases e; exact ⟨hl, o, h, ho⟩
section
variable {P : Program}
theorem rangeFunc_idx {g : Operand} {ps : Array Tmp} {assign body : Code} {Q : Exit → Act → World → Prop} {a : Act} {w : World} {n : Nat} (h1 : 2 ≤ n) {gf : Nat} {lb : Array Value} (hg : a.eval g = .func (.func gf) #[] lb)
    {cap : List V} {xs : List (List V)} {X : Nat → Prop} (hX : ∀ b, X b → b < w.heap.size + 2) (hXl : X (w.heap.size + 1)) (hL : Laid w) (hit : IterOk P gf cap xs) (hcap : RepL w (okX X w) cap lb.toList) (hps : ∀ x ∈ xs, x.length = ps.size)
    (I : Nat → World → Prop) (Ix : Code → World → Prop) (hI : ∀ k W W', I k W → Grew w.heap.size W W' → I k W') (hIx : ∀ c W W', Ix c W → Grew w.heap.size W W' → Ix c W') (h0 : I 0 w)
    (hround : ∀ (l k : Nat) (W : World) (us : List Value) (x : List V), I k W → xs[k]? = some x → RepL W (okX X W) x us → assign.wpIn (Fence.wide.inRound l) (n - 1 - 1) P
      (Exit.then (fun a1 W1 => KeepsOthers W W1 ∧ ∀ W2, Grew w.heap.size W1 W2 → (∀ b, b < W1.heap.size → ¬ X b → W2.heap[b]? = W1.heap[b]?) → body.wpIn (Fence.wide.inRound l) (n - 1 - 1) P (roundQ X (I (k + 1)) Ix W W2) a1 W2) (fun _ _ _ => False))
      { tmps := (ps.zip us.toArray).foldl (fun t (p, v) => t.setIfInBounds p v) a.tmps, defers := [] } W)
    (hdone : ∀ (D : Nat) (W : World), w.heap.size ≤ D → I xs.length W → W.heap[D]? = some (.deferred (some [])) → Q .normal { a with defers := markD D :: a.defers } W)
    (hstop : ∀ (D : Nat) (c : Code) (W : World), w.heap.size ≤ D → Ix c W → W.heap[D]? = some (.deferred (some [])) → c.wpIn Fence.wide n P Q { a with defers := markD D :: a.defers } W) :
    (Code.rangeFunc g ps assign body).wpIn Fence.wide n P Q a w := by
  refine wpIn_rangeFunc fun fn hfn => ?_
  obtain ⟨rec, hrec⟩ : ∃ rec : LoopState → Option Code → Loop, rec = fun st pe => { state := st, pending := pe, fn, tmps := a.tmps, params := ps, assign, body, defers := w.heap.size } := ⟨_, rfl⟩
  obtain ⟨W1, hW1⟩ : ∃ W1, (w.alloc (.deferred (some []))).alloc (.loop (rec .ready none)) = W1 := ⟨_, rfl⟩
  have hL1 : W1.heap[w.heap.size + 1]? = some (.loop (rec .ready none)) := by
    rw [← hW1]; have := World.alloc_heap_new (w.alloc (.deferred (some []))) (.loop (rec .ready none)); rwa [World.size_alloc] at this
  have hK1 : W1.heap[w.heap.size]? = some (.deferred (some [])) := by
    rw [← hW1]; exact (Below.heap_alloc _ _ _ (by simp)).trans (World.alloc_heap_new w _)
  have hb1 : Below w.heap.size w W1 := by
    rw [← hW1]; exact (((Below.refl _ w).alloc (Nat.le_refl _) _).alloc (by simp) _)
  have hI1 : I 0 W1 := hI _ _ _ h0 (Grew.below hb1)
  have kept : ∀ {A B : World} {k : Nat} {o : Obj}, A.heap[k]? = some o → Below A.heap.size A B → B.heap[k]? = some o := fun hk hb => (hb.block _ (Array.getElem?_eq_some_iff.1 hk).1).trans hk
  refine ⟨w.heap.size + 1, [markD w.heap.size], W1, { target := .fn (.func gf) lb, args := #[.func (.yield (w.heap.size + 1)) #[] #[]] }, W1, gf, #[.func (.yield (w.heap.size + 1)) #[] #[]] ++ lb, W1, ?_, ?_, ?_, ?_, fun _ => by omega, ?_⟩
  · rw [← hW1, hrec]; exact run_enterLoop_outer _ _ _ _ _
  · simp only [resolve, hg]
    simp [go_sem]
  · intro f' hf'; trivial
  · simp [invoke, go_sem, hit.1]
  · have hcap1 : RepL W1 (okX X W1) cap lb.toList := hcap.mono fun b hb => ⟨⟨Nat.lt_of_lt_of_le hb.1 hb1.size, hb.2⟩, hb1.block b hb.1⟩
    have hX1 : ∀ b, X b → b < W1.heap.size := fun b hb => by have := hX b hb; rw [← hW1]; simp only [World.size_alloc]; omega
    have hL1' : Laid W1 := hL.cells fun k o hk ho => kept hk hb1
    have := hit.2 W1 X lb.toList (n - 1) (w.heap.size + 1)
      (fun k W => I k W ∧ W.heap[w.heap.size + 1]? = some (.loop (rec .ready none)) ∧ W.heap[w.heap.size]? = some (.deferred (some [])))
      (fun W => ∃ c, Ix c W ∧ W.heap[w.heap.size + 1]? = some (.loop (rec .done (some c))) ∧ W.heap[w.heap.size]? = some (.deferred (some [])))
      (by omega) hL1' hX1 hcap1 (fun k A B ⟨h2, h3, h4⟩ hb => ⟨hI _ _ _ h2 (Grew.below hb), kept h3 hb, kept h4 hb⟩) (fun A B ⟨c, h2, h3, h4⟩ hb => ⟨c, hIx _ _ _ h2 (Grew.below hb), kept h3 hb, kept h4 hb⟩) ?_ ⟨hI1, hL1, hK1⟩
    · simp only [Array.toArray_toList] at this
      refine this.mono ?_
      rintro e W2 ⟨⟨v, rfl⟩, (⟨hi, hl, hk⟩ | ⟨c, hi, hl, hk⟩)⟩
      · exact ⟨none, _, by have := run_endLoop (P := P) hl (by rw [hrec]; simp); rw [hrec] at this; exact this, hdone _ _ (Nat.le_refl _) (hI _ _ _ hi (Grew.put _ (by omega) hl rfl)) ((World.putObj_heap_other (by omega)).trans hk)⟩
      · exact ⟨some c, _, by have := run_endLoop (P := P) hl (by rw [hrec]; simp); rw [hrec] at this; exact this, hstop _ c _ (Nat.le_refl _) (hIx _ _ _ hi (Grew.put _ (by omega) hl rfl)) ((World.putObj_heap_other (by omega)).trans hk)⟩
    · rintro k W us x ⟨hi, hl, hk⟩ hx hus
      have hsz : us.toArray.size = ps.size := by have h2 := hus.1; have h3 := hps x (List.mem_of_getElem? hx); simp; omega
      have hy := run_yield (P := P) (args := us.toArray) hl (by rw [hrec]; exact hsz)
      rw [hrec] at hy
      refine ⟨fn, _, assign, body, hy, roundIn_of_wpIn hfn (wpIn_mono (hround (w.heap.size + 1) k W us x hi hx hus) fun e a1 Wa he => ?_)⟩
      clear hy
      cases e <;> first | exact he.elim | skip
      obtain ⟨hko, hbody⟩ := he
      have hla := hko.same _ _ hl rfl
      have hka := hko.same _ _ hk rfl
      have hlt : w.heap.size + 1 < Wa.heap.size := (Array.getElem?_eq_some_iff.1 hla).1
      refine ⟨_, run_beginRound hla (by rw [hrec]), ?_⟩
      have hl2 : (Wa.putObj (w.heap.size + 1) (.loop { rec .ready none with state := .busy })).heap[w.heap.size + 1]? = some (.loop { rec .ready none with state := .busy }) := World.putObj_heap_same hlt
      have hk2 : (Wa.putObj (w.heap.size + 1) (.loop { rec .ready none with state := .busy })).heap[w.heap.size]? = some (.deferred (some [])) := (World.putObj_heap_other (by omega)).trans hka
      have hgr : Grew w.heap.size Wa (Wa.putObj (w.heap.size + 1) (.loop { rec .ready none with state := .busy })) := Grew.put _ (by omega) hla rfl
      have hxp : ∀ (A : World) (o : Obj) (b : Nat), ¬ X b → (A.putObj (w.heap.size + 1) o).heap[b]? = A.heap[b]? := fun A o b hb => World.putObj_heap_other (fun e => hb (by rw [e]; exact hXl))
      refine wpIn_mono (hbody _ hgr fun b _ hb => hxp _ _ b hb) ?_
      have fin : ∀ (jump : Option Code) (W3 : World), KeepsOthers (Wa.putObj (w.heap.size + 1) (.loop { rec .ready none with state := .busy })) W3 → KpX X W W3 →
          (Instr.endRound (w.heap.size + 1) jump).run P W3 = .ok (.bool jump.isNone) (W3.putObj (w.heap.size + 1) (.loop (rec (if jump.isNone then .ready else .done) jump))) ∧
          W3.heap[w.heap.size + 1]? = some (.loop { rec .ready none with state := .busy }) ∧
          (W3.putObj (w.heap.size + 1) (.loop (rec (if jump.isNone then .ready else .done) jump))).heap[w.heap.size + 1]? = some (.loop (rec (if jump.isNone then .ready else .done) jump)) ∧
          (W3.putObj (w.heap.size + 1) (.loop (rec (if jump.isNone then .ready else .done) jump))).heap[w.heap.size]? = some (.deferred (some [])) ∧
          KpX X W (W3.putObj (w.heap.size + 1) (.loop (rec (if jump.isNone then .ready else .done) jump))) := fun jump W3 hk3 hx3 => by
        have hl3 := hk3.same _ _ hl2 rfl
        have := run_endRound (P := P) jump hl3
        have hg3 : ∀ o, Grew w.heap.size W3 (W3.putObj (w.heap.size + 1) o) := fun o => Grew.put o (by omega) hl3 rfl
        rw [hrec] at this ⊢
        refine ⟨this, by rw [hrec] at hl3; exact hl3, World.putObj_heap_same (Array.getElem?_eq_some_iff.1 hl3).1, (World.putObj_heap_other (by omega)).trans (hk3.same _ _ hk2 rfl), Nat.le_trans hx3.size (hg3 _).size, fun b hb hxb => (hxp _ _ b hxb).trans (hx3.same b hb hxb), hx3.laid.cells (hg3 _).same⟩
      rintro e a3 W3 hp
      cases e with
      | normal =>
        obtain ⟨hk3, hkp3, hi3⟩ := hp
        obtain ⟨hr, hl3, hl4, hk4, hx4⟩ := fin none W3 hk3 hkp3
        exact ⟨_, _, hr, .inl ⟨rfl, ⟨hI _ _ _ hi3 (Grew.put _ (by omega) hl3 rfl), hl4, hk4⟩, hx4⟩⟩
      | ret =>
        obtain ⟨hk3, hkp3, hi3⟩ := hp
        obtain ⟨hr, hl3, hl4, hk4, hx4⟩ := fin (some .ret) W3 hk3 hkp3
        exact ⟨_, _, hr, .inr ⟨rfl, ⟨.ret, hIx _ _ _ hi3 (Grew.put _ (by omega) hl3 rfl), hl4, hk4⟩, hx4⟩⟩
      | exit id =>
        obtain ⟨hk3, hkp3, hi3⟩ := hp
        obtain ⟨hr, hl3, hl4, hk4, hx4⟩ := fin (some (.exit id)) W3 hk3 hkp3
        exact ⟨_, _, hr, .inr ⟨rfl, ⟨.exit id, hIx _ _ _ hi3 (Grew.put _ (by omega) hl3 rfl), hl4, hk4⟩, hx4⟩⟩
      | goto t => exact hp.elim
      | panic ch => exact hp.elim
      | outgrown => exact hp.elim
end
end Go.Proofs.YtljcbmnkjiogmaaDoor.Sv
/-! Loops over iterators in code by structure. -/
namespace Go.Proofs.YtljcbmnkjiogmaaDoor.Sv
open Go Go.RowKit
set_option linter.unusedVariables false
set_option linter.unusedSimpArgs false
/-- What was kept in ok blocks at the loop's beginning is kept. -/
def KpOf (ok : Nat → Prop) (W W' : World) : Prop := ∀ b, ok b → W'.heap[b]? = W.heap[b]?
/-- What is put off: marks of loops over iterators, which nothing waits at. -/
def Marks (B : Nat) (ds : List Deferred) (w : World) : Prop := ∃ Ds : List Nat, ds = Ds.map markD ∧ Ds.Nodup ∧ ∀ D ∈ Ds, B ≤ D ∧ w.heap[D]? = some (.deferred (some []))
/-- Code in which loops over iterators may stand. -/
def compileG (P : Program) (ad : Ad) (nt : Nat) : Code → List (List Nat) → Option (SC × List (List Nat))
  | .seq x y, hs => (compileG P ad nt x hs).bind fun (x', hs) => (compileG P ad nt y hs).map fun (y', hs) => (.seq x' y', hs)
  | .cond c x y, hs => (cOpd c).bind fun c' => (compileG P ad nt x hs).bind fun (x', hs) => (compileG P ad nt y hs).map fun (y', hs) => (.cond c' x' y', hs)
  | .block id x, hs => (compileG P ad nt x hs).map fun (x', hs) => (.block id x', hs)
  | .loop x, live :: hs => (compileG P ad nt x hs).map fun (x', hs) => (.loop live x', hs)
  | .rangeFunc g ps as_ body, live :: hs => (cOpd g).bind fun g' => (compile P ad nt as_ hs).bind fun (x', hs) => (compile P ad nt body hs).bind fun (y', hs) =>
      if codeND as_ && codeND body && (ps.toList ++ dstsC as_ ++ dstsC body).all (fun t => !live.contains t) && ps.toList.all (fun t => decide (t < nt)) then some (.iter live g' ps.toList x' y', hs) else none
  | .skip, hs => some (.skip, hs)
  | .ret, hs => some (.ret, hs)
  | .exit id, hs => some (.exit id, hs)
  | .region id ops draw, live :: hs => if codeND (.region id ops draw) then (compR P ad nt ops draw live).map fun x => (x, hs) else none
  | .region _ _ _, [] => none
  | .loop _, [] => none
  | .rangeFunc _ _ _ _, [] => none
  | _, hs => some (.bad, hs)
section
variable {P : Program} {w w0 w' : World} {U E : Nat → Prop} {nt : Nat} {st st' : St} {a : Act} {η : Eta} {n : Nat}
def liftM (w0 : World) (U E : Nat → Prop) (nt : Nat) (Q : Exit → St → Prop) : Exit → Act → World → Prop := fun e a w => Marks w0.heap.size a.defers w ∧ ∃ st, RelX w0 U E nt st a.bare w ∧ Q e st
theorem Marks.keep {B : Nat} {ds : List Deferred} {W W' : World} (h : Marks B ds W) (hk : ∀ (k : Nat) (o : Obj), W.heap[k]? = some o → o.isCells = false → W'.heap[k]? = some o) : Marks B ds W' := by
  obtain ⟨Ds, h1, h2, h3⟩ := h
  exact ⟨Ds, h1, h2, fun D hD => ⟨(h3 D hD).1, hk _ _ (h3 D hD).2 rfl⟩⟩
theorem RepD.ref_inv {ok : Nat → Prop} {s off : Nat} {u : Value} (h : RepD w ok η (.ref s off) u) : ∃ b o, η s = some (b, o) ∧ u = .pointer (some ⟨b, o + off, none⟩) := by cases h with | ref _ _ b o e => exact ⟨b, o, e, rfl⟩
theorem bare_of (h : a.defers = []) : a.bare = a := by
  cases a
  simp only at h
  subst h
  rfl
theorem pinned_get {ρ ρ' : List (Nat × D)} {o : List (Nat × List V)} {s : Nat} (h : pinned ρ ρ' o s = true) : (∃ cs, look o s = some cs) ∧ ∃ t off, look ρ t = some (.ref s off) ∧ look ρ' t = some (.ref s off) := by
  unfold pinned at h
  simp only [Bool.and_eq_true, List.any_eq_true] at h
  obtain ⟨h1, x, hx, h2⟩ := h
  constructor
  · split at h1
    · rename_i cs e; exact ⟨cs, e⟩
    · cases h1
  · split at h2
    · rename_i s1 o1 s2 o2 e1 e2
      simp only [Bool.and_eq_true, beq_iff_eq] at h2
      obtain ⟨⟨h3, h4⟩, h5⟩ := h2
      subst h3; subst h4; subst h5
      exact ⟨_, _, e1, e2⟩
    · cases h2
theorem look_pinned {ρ ρ' : List (Nat × D)} {o l : List (Nat × List V)} {s : Nat} {cs : List V} (h : look (l.filter fun x => pinned ρ ρ' o x.1) s = some cs) : look l s = some cs ∧ pinned ρ ρ' o s = true := by
  refine ⟨look_filter (p := pinned ρ ρ' o) h, ?_⟩
  induction l with
  | nil => cases h
  | cons x l ih =>
    obtain ⟨k, c⟩ := x
    simp only [List.filter_cons] at h
    split at h
    · rename_i hp
      simp only [look] at h
      split at h
      · rename_i hk; subst hk; exact hp
      · exact ih h
    · exact ih h
theorem plainR_get {ρ : List (Nat × D)} (h : plainR ρ = true) {t : Nat} {d : D} (ht : look ρ t = some d) : (∃ v, d = .v v) ∨ (∃ s off, d = .ref s off) ∨ d = .dead := by
  induction ρ with
  | nil => cases ht
  | cons x ρ ih =>
    obtain ⟨k, e⟩ := x
    unfold plainR at h ih
    simp only [List.all_cons, Bool.and_eq_true] at h
    simp only [look] at ht
    split at ht
    · cases ht
      cases d with
      | v x => exact .inl ⟨x, rfl⟩
      | ref s o => exact .inr (.inl ⟨s, o, rfl⟩)
      | own s z o l => exact absurd h.1 (by simp)
      | dead => exact .inr (.inr rfl)
    · exact ih h.2 ht
theorem look_keepR_mem {live : List Nat} {ρ : List (Nat × D)} {t : Nat} {d : D} (h : look (keepR live ρ) t = some d) : t ∈ live := by
  induction live with
  | nil => cases h
  | cons k live ih =>
    unfold keepR at h ih
    simp only [List.filterMap_cons] at h
    cases hk : look ρ k with
    | none => rw [hk] at h; exact List.mem_cons_of_mem _ (ih h)
    | some e =>
      rw [hk] at h
      simp only [Option.map_some, look] at h
      split at h
      · rename_i ht; subst ht; exact List.mem_cons_self
      · exact List.mem_cons_of_mem _ (ih h)
/-- Behind a round: the slots are those of the loop's beginning, the objects are new. -/
theorem Rel.rounded {ρ : List (Nat × D)} {objs0 objs' : List (Nat × List V)} {st3 : St} {a3 : Act} {W3 : World} {η3 : Eta} {D0 : Nat → Prop} (h : Rel w0 U E nt ⟨ρ, objs0⟩ a w η) (hb : Rel w0 U E nt st3 a3 W3 η3) (hkp : KpOf (Ok U objs0 η w) w W3) (hsz : w.heap.size ≤ W3.heap.size) (hf : Frm D0 a a3)
    (hsub : ∀ s cs, look objs' s = some cs → ∃ cs0, look objs0 s = some cs0)
    (hp : ∀ s cs, look objs' s = some cs → look st3.objs s = some cs ∧ ∃ t off, look ρ t = some (.ref s off) ∧ look st3.ρ t = some (.ref s off) ∧ ¬ D0 t)
    (hρ : plainR ρ = true) : Rel w0 U E nt ⟨ρ, objs'⟩ a W3 η := by
  have pin : ∀ s cs, look objs' s = some cs → η3 s = η s := fun s cs hs => by
    obtain ⟨_, t, off, h3, h4, h5⟩ := hp s cs hs
    have k1 := (h.slots t _ h3).2
    have k2 := (hb.slots t _ h4).2
    rw [hf t h5] at k2
    obtain ⟨b, o, e1, e3⟩ := k1.ref_inv
    obtain ⟨b2, o2, e2, e4⟩ := k2.ref_inv
    rw [e3] at e4
    simp only [Value.pointer.injEq, Option.some.injEq, Addr.mk.injEq] at e4
    rw [e1, e2, e4.1, show o = o2 by omega]
  have okk : ∀ b, Ok U st3.objs η3 W3 b → Ok U objs' η W3 b := fun b hb => ⟨hb.1, hb.2.1, fun s cs o hs he => hb.2.2 s cs o (hp s cs hs).1 (by rw [pin s cs hs]; exact he)⟩
  have ok0 : ∀ b, Ok U objs0 η w b → Ok U objs' η W3 b := fun b hb => ⟨Nat.lt_of_lt_of_le hb.1 hsz, hb.2.1, fun s cs o hs he => let ⟨cs0, h0⟩ := hsub s cs hs; hb.2.2 s cs0 o h0 he⟩
  refine ⟨h.size, h.defers, hb.keeps, h.uold, fun t d ht => ⟨(h.slots t d ht).1, ?_⟩, fun s cs hs => ?_, fun s cs b o hs he => hb.lies s cs b o (hp s cs hs).1 (by rw [pin s cs hs]; exact he), fun s s' cs cs' b o o' hs hs' he he' => hb.inj s s' cs cs' b o o' (hp s cs hs).1 (hp s' cs' hs').1 (by rw [pin s cs hs]; exact he) (by rw [pin s' cs' hs']; exact he')⟩
  · have k := (h.slots t d ht).2
    rcases plainR_get hρ ht with ⟨v, rfl⟩ | ⟨s, off, rfl⟩ | rfl
    · generalize a.tmps.getD t undef = u at k ⊢
      cases k with | v _ _ k =>
      exact .v _ _ (k.mono fun b hk => ⟨ok0 b hk, hkp b hk⟩)
    · generalize a.tmps.getD t undef = u at k ⊢
      cases k with | ref _ _ b o e => exact .ref _ _ _ _ e
    · exact .dead _
  · have k := hb.objs s cs (hp s cs hs).1
    unfold RepO at k ⊢
    rw [pin s cs hs] at k
    split at k
    · exact k
    · obtain ⟨c, e, fr, h3, h4, h5, h6⟩ := k
      exact ⟨c, e, fr, h3, h4, h5, fun i v hi => (h6 i v hi).mono fun b hk => ⟨okk b hk, rfl⟩⟩
theorem setIf_getD (tmps : Array Value) (p : Nat) (u : Value) (t : Nat) : (tmps.setIfInBounds p u).getD t undef = if t = p ∧ p < tmps.size then u else tmps.getD t undef := by
  simp only [Array.getD_eq_getD_getElem?, Array.getElem?_setIfInBounds]
  by_cases h : p = t
  · subst h
    by_cases h' : p < tmps.size <;> simp [h']
  · have h' : ¬ t = p := fun e => h e.symm
    simp [h, h']
theorem zip_toList_foldl (ps : Array Tmp) (us : Array Value) (tmps : Array Value) : (ps.zip us).foldl (fun t (p, v) => t.setIfInBounds p v) tmps = (ps.toList.zip us.toList).foldl (fun t (x : Tmp × Value) => t.setIfInBounds x.1 x.2) tmps := by
  rw [← Array.foldl_toList, Array.toList_zip]
/-- The values that an iterator hands over stand in the loop's slots. -/
theorem Rel.setPs : ∀ {ps : List Nat} {vs : List V} {us : List Value} {ρ : List (Nat × D)} {objs : List (Nat × List V)} {a : Act}, Rel w0 U E nt ⟨ρ, objs⟩ a w η → RepL w (Ok U objs η w) vs us → (∀ p ∈ ps, p < nt) →
    Rel w0 U E nt ⟨setPs ps vs ρ, objs⟩ { tmps := (ps.zip us).foldl (fun t (x : Nat × Value) => t.setIfInBounds x.1 x.2) a.tmps, defers := a.defers } w η
  | [], vs, us, ρ, objs, a, h, _, _ => by simpa [Sv.setPs] using h
  | p :: ps, [], us, ρ, objs, a, h, hr, _ => by
    have : us = [] := by have := hr.1; simpa using this
    subst this
    simpa [Sv.setPs] using h
  | p :: ps, v :: vs, us, ρ, objs, a, h, hr, hp => by
    obtain ⟨u, us', rfl, h1, h2⟩ := hr.head
    have hlt := hp p (by simp)
    have hn : Rel w0 U E nt ⟨(p, .v v) :: ρ, objs⟩ { tmps := a.tmps.setIfInBounds p u, defers := a.defers } w η := by
      refine ⟨by simpa using h.size, h.defers, h.keeps, h.uold, fun t d ht => ?_, h.objs, h.lies, h.inj⟩
      simp only [look] at ht
      simp only [setIf_getD]
      split at ht
      · rename_i e; subst e; cases ht
        rw [if_pos ⟨rfl, by rw [h.size]; exact hlt⟩]
        exact ⟨hlt, .v _ _ h1⟩
      · rename_i e
        rw [if_neg (fun h => e h.1)]
        exact h.slots t d ht
    exact hn.setPs (ps := ps) h2 fun q hq => hp q (by simp [hq])
theorem frm_setPs : ∀ {ps : List Nat} {us : List Value} {tmps : Array Value} {D : Nat → Prop}, (∀ p ∈ ps, D p) → ∀ t, ¬ D t → ((ps.zip us).foldl (fun t (x : Nat × Value) => t.setIfInBounds x.1 x.2) tmps).getD t undef = tmps.getD t undef
  | [], us, tmps, D, _, t, _ => by simp
  | p :: ps, [], tmps, D, _, t, _ => by simp
  | p :: ps, u :: us, tmps, D, hp, t, ht => by
    simp only [List.zip_cons_cons, List.foldl_cons]
    rw [frm_setPs (fun q hq => hp q (by simp [hq])) t ht, setIf_getD, if_neg (fun (h : t = p ∧ p < tmps.size) => ht (h.1 ▸ hp p (by simp)))]
theorem Rel.marks {st2 : St} {a2 : Act} {w2 : World} {η2 : Eta} {B : Nat} {ds : List Deferred} (h : Rel w0 U E nt st a w η) (h2 : Rel w U (OwnB st η) nt st2 a2 w2 η2) (hm : Marks B ds w) : Marks B ds w2 := hm.keep fun k o hk ho => (h.others h2).same k o hk ho
theorem Ok.sub {objs objs' : List (Nat × List V)} (h : ∀ s cs, look objs' s = some cs → ∃ c, look objs s = some c) (b : Nat) (hb : Ok U objs η w b) : Ok U objs' η w b := ⟨hb.1, hb.2.1, fun s cs o hs he => let ⟨c, hc⟩ := h s cs hs; hb.2.2 s c o hc he⟩
theorem iter_sound {g : Operand} {ps : Array Tmp} {assign body : Code} {live : List Nat} {g' : Opd} {ca cb : SC} {ad : Ad} {hs hs1 hs2 : List (List Nat)} {Q : Exit → St → Prop} (h1 : 2 ≤ n) (hg : cOpd g = some g') (hca : compile P ad nt assign hs = some (ca, hs1)) (hcb : compile P ad nt body hs1 = some (cb, hs2))
    (hna : codeND assign = true) (hnb : codeND body = true) (hlive : (ps.toList ++ dstsC assign ++ dstsC body).all (fun t => !live.contains t) = true) (hps : ps.toList.all (fun t => decide (t < nt)) = true)
    (hm : Marks w0.heap.size a.defers w) (hr : RelX w0 U E nt st a.bare w) (h : (SC.iter live g' ps.toList ca cb).wp P Q st) : (Code.rangeFunc g ps assign body).wpIn Fence.wide n P (liftM w0 U E nt Q) a w := by
  unfold SC.wp at h
  split at h
  case h_2 => exact h.elim
  rename_i f cap hgv
  have h := keepK_iff.1 h
  split at h
  case h_2 => exact h.elim
  rename_i hpl
  obtain ⟨xs, hit, hlen, hk⟩ := h
  obtain ⟨η, hr⟩ := hr
  -- the closure
  have hrep := Opd.rep hr hg hgv
  rw [eval_bare] at hrep
  generalize hv : a.eval g = gv at hrep
  cases hrep with | v _ _ hrep =>
  cases hrep with | clo _ _ _ fs cs hl hl' hrf hrc =>
  have hfs : fs = #[] := by simpa using hl
  subst hfs
  -- what is kept
  have hr1 : Rel w0 U E nt (st.keep live) a.bare w η := hr.sub (fun t d ht => .inl (look_keepR ht)) (fun s cs hs => look_filter (p := fun s => (keepR live st.ρ).any fun y => y.2.ment s) hs)
  have hsubk : ∀ s cs, look (st.keep live).objs s = some cs → ∃ c, look st.objs s = some c := fun s cs hs => ⟨cs, look_filter (p := fun s => (keepR live st.ρ).any fun y => y.2.ment s) hs⟩
  have hkeys : ∀ t d, look (st.keep live).ρ t = some d → t ∈ live := fun t d ht => look_keepR_mem ht
  generalize st.keep live = st1 at hr1 hk hpl hsubk hkeys
  obtain ⟨ρ, objs0⟩ := st1
  simp only at hk hpl hsubk hkeys
  let D0 : Nat → Prop := fun t => t ∈ ps.toList ++ dstsC assign ++ dstsC body
  have hD0 : ∀ t d, look ρ t = some d → ¬ D0 t := fun t d ht hd => by
    have := List.all_eq_true.1 hlive t hd
    simp [List.contains_iff_mem, hkeys t d ht] at this
  let X : Nat → Prop := fun b => (U b ∨ OwnB ⟨ρ, objs0⟩ η b) ∨ b = w.heap.size + 1
  have hUw : ∀ b, U b → b < w.heap.size := fun b hb => Nat.lt_of_lt_of_le (hr1.uold b hb).1 hr1.keeps.size
  have hOw : ∀ b, OwnB ⟨ρ, objs0⟩ η b → b < w.heap.size := fun b ⟨s, cs, o, h5, h6⟩ => (hr1.lies s cs b o h5 h6).2
  have hX : ∀ b, X b → b < w.heap.size + 2 := fun b hb => by
    rcases hb with (hb | hb) | hb
    · have := hUw b hb; omega
    · have := hOw b hb; omega
    · omega
  have hcap : RepL w (okX X w) cap cs.toList := (RepL.of_array hl' hrc).mono fun b hb => ⟨⟨hb.1, fun hx => by
    rcases hx with (hx | ⟨s, cs, o, h5, h6⟩) | hx
    · exact hb.2.1 hx
    · obtain ⟨c, h7⟩ := hsubk s cs h5
      exact hb.2.2 s c o h7 h6
    · have := hb.1; omega⟩, rfl⟩
  have hpn : ∀ p ∈ ps.toList, p < nt := fun p hp => by simpa using List.all_eq_true.1 hps p hp
  let Com : World → Prop := fun W => KpOf (Ok U objs0 η w) w W ∧ w.heap.size ≤ W.heap.size ∧ ∀ (k : Nat) (o : Obj), w.heap[k]? = some o → o.isCells = false → W.heap[k]? = some o
  have hCom : ∀ W W', Com W → Grew w.heap.size W W' → Com W' := fun W W' ⟨c1, c2, c3⟩ hg => ⟨fun b hb => (hg.low b hb.1 (Nat.lt_of_lt_of_le hb.1 c2)).trans (c1 b hb), Nat.le_trans c2 hg.size, fun k o hk ho => by
    have hlt := (Array.getElem?_eq_some_iff.1 hk).1
    exact (hg.low k hlt (Nat.lt_of_lt_of_le hlt c2)).trans (c3 k o hk ho)⟩
  have hmk : ∀ {D : Nat} {W : World}, w.heap.size ≤ D → Com W → W.heap[D]? = some (.deferred (some [])) → Marks w0.heap.size (markD D :: a.defers) W := fun {D W} hD ⟨_, _, c3⟩ hK => by
    obtain ⟨Ds, e1, e2, e3⟩ := hm
    refine ⟨D :: Ds, by rw [e1]; rfl, List.nodup_cons.2 ⟨fun hm => ?_, e2⟩, fun D' hD' => ?_⟩
    · have := (Array.getElem?_eq_some_iff.1 (e3 D hm).2).1; omega
    · rcases List.mem_cons.1 hD' with rfl | hD'
      · exact ⟨Nat.le_trans hr1.keeps.size hD, hK⟩
      · exact ⟨(e3 D' hD').1, c3 _ _ (e3 D' hD').2 rfl⟩
  refine rangeFunc_idx h1 hv hX (.inr rfl) hr1.keeps.now hit hcap (fun x hx => by simpa using hlen x hx)
    (fun k W => ∃ objs, Rel w0 U E nt ⟨ρ, objs⟩ a.bare W η ∧ (∀ s cs, look objs s = some cs → ∃ cs0, look objs0 s = some cs0) ∧ Com W ∧ iterW (fun Q s => ca.wp P (thenQ (fun st' => cb.wp P Q st') (fun _ _ => False)) s) ps.toList Q ρ (xs.drop k) objs)
    (fun c W => ∃ e objs, (c = .ret ∧ e = .ret ∨ ∃ id, c = .exit id ∧ e = .exit id) ∧ Rel w0 U E nt ⟨ρ, objs⟩ a.bare W η ∧ Com W ∧ Q e ⟨ρ, objs⟩)
    (fun k W W' ⟨objs, k1, k2, k3, k4⟩ hg => ⟨objs, k1.grew hr1.keeps.size hg, k2, hCom _ _ k3 hg, k4⟩) (fun c W W' ⟨e, objs, k0, k1, k3, k4⟩ hg => ⟨e, objs, k0, k1.grew hr1.keeps.size hg, hCom _ _ k3 hg, k4⟩)
    ⟨objs0, hr1, fun s cs h => ⟨cs, h⟩, ⟨fun _ _ => rfl, Nat.le_refl _, fun _ _ h _ => h⟩, hk⟩ ?_ ?_ ?_
  · -- a round
    rintro l k W us x ⟨objs, k1, k2, ⟨c1, c2, c3⟩, k4⟩ hxk hus
    obtain ⟨hlt, rfl⟩ := List.getElem?_eq_some_iff.1 hxk
    rw [List.drop_eq_getElem_cons hlt] at k4
    simp only [iterW] at k4
    have hx : RepL W (Ok U objs η W) xs[k] us := hus.mono fun b hb => ⟨⟨hb.1, fun hu => hb.2 (.inl (.inl hu)), fun s cs o hs he => let ⟨cs0, h0⟩ := k2 s cs hs; hb.2 (.inl (.inr ⟨s, cs0, o, h0, he⟩))⟩, rfl⟩
    have hst := k1.setPs (ps := ps.toList) hx hpn
    rw [zip_toList_foldl, List.toList_toArray]
    have hfr0 : Frm D0 a.bare { tmps := (ps.toList.zip us).foldl (fun t (x : Tmp × Value) => t.setIfInBounds x.1 x.2) a.tmps, defers := [] } := fun t ht => frm_setPs (D := D0) (fun p hp => by simp only [D0, List.mem_append]; exact .inl (.inl hp)) t ht
    generalize hA : ({ tmps := (ps.toList.zip us).foldl (fun t (x : Tmp × Value) => t.setIfInBounds x.1 x.2) a.tmps, defers := [] } : Act) = a0 at hfr0
    have ha0 : a0.defers = [] := by rw [← hA]
    have hst : Rel w0 U E nt ⟨setPs ps.toList xs[k] ρ, objs⟩ a0 W η := by rw [← hA]; exact hst
    have nown : ∀ b, Ok U objs0 η w b → ¬ OwnB ⟨setPs ps.toList xs[k] ρ, objs⟩ η b := fun b hb ⟨s, cs, o, h5, h6⟩ => by
      obtain ⟨cs0, h7⟩ := k2 s cs h5
      exact hb.2.2 s cs0 o h7 h6
    have hsa := compile_soundIn (Fen.round l) (n := n - 1 - 1) (df := []) (D := D0) (a0 := a.bare) (ad := ad) _ assign (Nat.le_refl _) hna (fun t ht => by simp only [D0, List.mem_append]; exact .inl (.inr ht)) hs hs1 ca _ _ a0 W hca k4 ha0 ⟨η, by rw [bare_of ha0]; exact hst.rebaseE⟩ hfr0
    refine wpIn_mono hsa fun e a1 W1 ⟨hd1, ⟨st2, ⟨η2, hr2⟩, hq⟩, hf1⟩ => ?_
    cases e with
    | normal =>
      have hb2 := hst.back hr2
      refine ⟨hst.others hr2, fun W2 hgr hkx => ?_⟩
      have hb3 := (hb2.grew hr1.keeps.size hgr)
      have hsb := compile_soundIn (Fen.round l) (n := n - 1 - 1) (df := []) (D := D0) (a0 := a.bare) (ad := ad) _ body (Nat.le_refl _) hnb (fun t ht => by simp only [D0, List.mem_append]; exact .inr ht) hs1 hs2 cb _ _ a1 W2 hcb hq hd1 ⟨η2, hb3.rebaseE⟩ hf1
      have nown2 : ∀ b, Ok U objs0 η w b → ¬ OwnB st2 η2 b := fun b hb ⟨s, cs, o, h5, h6⟩ => by
        rcases (hr2.lies s cs b o h5 h6).1 with h7 | h7
        · have := hb.1; omega
        · exact nown b hb h7
      have low2 : ∀ b, Ok U objs0 η w b → W2.heap[b]? = w.heap[b]? := fun b hb => ((hgr.low b hb.1 (Nat.lt_of_lt_of_le hb.1 (Nat.le_trans c2 hr2.keeps.size))).trans (hr2.keeps.block b (Nat.lt_of_lt_of_le hb.1 c2) (nown b hb))).trans (c1 b hb)
      have size2 : w.heap.size ≤ W2.heap.size := Nat.le_trans (Nat.le_trans c2 hr2.keeps.size) hgr.size
      refine wpIn_mono hsb fun e a3 W3 ⟨hd3, ⟨st3, ⟨η3, hr3⟩, hq3⟩, hf3⟩ => ?_
      have hoth : KeepsOthers W2 W3 := hb3.others hr3
      have kp23 : KpOf (Ok U objs0 η w) W2 W3 := fun b hb => hr3.keeps.block b (Nat.lt_of_lt_of_le hb.1 size2) (nown2 b hb)
      have com3 : Com W3 := ⟨fun b hb => (kp23 b hb).trans (low2 b hb), Nat.le_trans size2 hr3.keeps.size, fun k' o hk ho => by
        have hlt' := (Array.getElem?_eq_some_iff.1 hk).1
        exact hoth.same _ _ ((hgr.low k' hlt' (Nat.lt_of_lt_of_le hlt' (Nat.le_trans c2 hr2.keeps.size))).trans ((hst.others hr2).same _ _ (c3 _ _ hk ho) ho)) ho⟩
      have hbk := hb3.back hr3
      have nX : ∀ b, ¬ X b → ¬ OwnB ⟨setPs ps.toList xs[k] ρ, objs⟩ η b := fun b hb ⟨s, cs, o, h5, h6⟩ => by
        obtain ⟨cs0, h7⟩ := k2 s cs h5
        exact hb (.inl (.inr ⟨s, cs0, o, h7, h6⟩))
      have kx3 : KpX X W W3 := ⟨Nat.le_trans hr2.keeps.size (Nat.le_trans hgr.size hr3.keeps.size), fun b hb hxb => by
        have hb1 : b < W1.heap.size := Nat.lt_of_lt_of_le hb hr2.keeps.size
        refine ((hr3.keeps.block b (Nat.lt_of_lt_of_le hb1 hgr.size) fun ⟨s, cs, o, h5, h6⟩ => ?_).trans (hkx b hb1 hxb)).trans (hr2.keeps.block b hb (nX b hxb))
        rcases (hr2.lies s cs b o h5 h6).1 with h7 | h7
        · omega
        · exact nX b hxb h7, hbk.keeps.now⟩
      have fin : ∀ {K : List (Nat × List V) → Prop}, pinK ρ st3.ρ objs st3.objs K → ∃ objs', K objs' ∧ Rel w0 U E nt ⟨ρ, objs'⟩ a.bare W3 η ∧ ∀ s cs, look objs' s = some cs → ∃ cs0, look objs0 s = some cs0 := fun {K} hp => by
        obtain ⟨r, h5, h6⟩ := pinK_get hp
        have h6 : ∀ s cs, look r s = some cs → look st3.objs s = some cs ∧ pinned ρ st3.ρ objs s = true := fun s cs hs => by
          obtain ⟨_, h7, rfl⟩ := h6 s cs hs
          exact look_pinned h7
        have hsub : ∀ s cs, look r s = some cs → ∃ cs0, look objs0 s = some cs0 := fun s cs hs => by
          obtain ⟨⟨c, h7⟩, _⟩ := pinned_get (h6 s cs hs).2
          exact k2 s c h7
        refine ⟨r, h5, Rel.rounded (w := w) (objs0 := objs0) hr1 hbk com3.1 com3.2.1 hf3 hsub (fun s cs hs => ?_) hpl, hsub⟩
        obtain ⟨_, t, off, h8, h9⟩ := pinned_get (h6 s cs hs).2
        exact ⟨(h6 s cs hs).1, t, off, h8, h9, hD0 t _ h8⟩
      cases e with
      | normal =>
        obtain ⟨objs', h5, h6, h7⟩ := fin hq3
        exact ⟨hoth, kx3, objs', h6, h7, com3, h5⟩
      | ret =>
        obtain ⟨objs', h5, h6, h7⟩ := fin hq3
        exact ⟨hoth, kx3, .ret, objs', .inl ⟨rfl, rfl⟩, h6, com3, h5⟩
      | exit id =>
        obtain ⟨objs', h5, h6, h7⟩ := fin hq3
        exact ⟨hoth, kx3, .exit id, objs', .inr ⟨id, rfl, rfl⟩, h6, com3, h5⟩
      | _ => exact hq3.elim
    | _ => exact hq.elim
  · rintro D W hD ⟨objs, k1, k2, k3, k4⟩ hK
    rw [List.drop_length] at k4
    exact ⟨hmk hD k3 hK, _, ⟨η, k1⟩, k4⟩
  · rintro D c W hD ⟨e, objs, k0, k1, k3, k4⟩ hK
    rcases k0 with ⟨rfl, rfl⟩ | ⟨id, rfl, rfl⟩
    · exact wpIn_ret ⟨hmk hD k3 hK, _, ⟨η, k1⟩, k4⟩
    · exact wpIn_exit ⟨hmk hD k3 hK, _, ⟨η, k1⟩, k4⟩
theorem compileG_sound {ad : Ad} (hn : 2 ≤ n) : ∀ (m : Nat) (c : Code), SizeOf.sizeOf c ≤ m → ∀ (hs hs' : List (List Nat)) (sc : SC) (Q : Exit → St → Prop) (st : St) (a : Act) (w : World), compileG P ad nt c hs = some (sc, hs') → sc.wp P Q st → Marks w0.heap.size a.defers w → RelX w0 U E nt st a.bare w → c.wpIn Fence.wide n P (liftM w0 U E nt Q) a w := by
  intro m
  induction m with
  | zero => intro c hm; cases c <;> simp at hm
  | succ m ih =>
  intro c hm
  cases c with
  | skip => intro hs hs' sc Q st a w hc h hd hr; simp only [compileG] at hc; cases hc; exact wpIn_skip ⟨hd, ⟨st, hr, h⟩⟩
  | ret => intro hs hs' sc Q st a w hc h hd hr; simp only [compileG] at hc; cases hc; exact wpIn_ret ⟨hd, ⟨st, hr, h⟩⟩
  | exit id => intro hs hs' sc Q st a w hc h hd hr; simp only [compileG] at hc; cases hc; exact wpIn_exit ⟨hd, ⟨st, hr, h⟩⟩
  | region id ops draw =>
    intro hs hs' sc Q st a w hc h hd hr
    cases hs with
    | nil => simp [compileG] at hc
    | cons live hs =>
      simp only [compileG] at hc
      split at hc
      · rename_i hnd
        simp only [Option.map_eq_some_iff] at hc
        obtain ⟨x, hx, hc⟩ := hc
        cases hc
        obtain ⟨η, hr⟩ := hr
        refine wpIn_mono (compR_soundIn Fen.wide (D := fun _ => True) (a0 := a) (df := a.defers) hx h rfl ⟨η, hr.rebaseE⟩ (fun _ _ _ _ => trivial) hnd (Frm.refl _ _)) fun e a1 w1 ⟨hd1, ⟨st1, ⟨η1, hr1⟩, hq⟩, _⟩ => ?_
        exact ⟨by rw [hd1]; exact hr.marks hr1 hd, st1, ⟨η1, hr.back hr1⟩, hq⟩
      · cases hc
  | seq x y =>
    have ihx := ih x (by simp at hm; omega)
    have ihy := ih y (by simp at hm; omega)
    intro hs hs' sc Q st a w hc h hd hr
    simp only [compileG, Option.bind_eq_some_iff, Option.map_eq_some_iff] at hc
    obtain ⟨⟨x', hs1⟩, hx, ⟨y', hs2⟩, hy, hc⟩ := hc
    cases hc
    refine wpIn_seq (wpIn_mono (ihx _ _ _ _ st a w hx h hd hr) fun e a1 w1 ⟨hd1, st1, hr1, hq⟩ => ?_)
    cases e with
    | normal => exact ihy _ _ _ _ st1 a1 w1 hy hq hd1 hr1
    | _ => exact ⟨hd1, st1, hr1, hq⟩
  | cond c x y =>
    have ihx := ih x (by simp at hm; omega)
    have ihy := ih y (by simp at hm; omega)
    intro hs hs' sc Q st a w hc h hd hr
    simp only [compileG, Option.bind_eq_some_iff, Option.map_eq_some_iff] at hc
    obtain ⟨c', hcc, ⟨x', hs1⟩, hx, ⟨y', hs2⟩, hy, hc⟩ := hc
    cases hc
    simp only [SC.wp] at h
    split at h
    · rename_i p hp
      obtain ⟨η, hr'⟩ := hr
      have hrep := Opd.rep hr' hcc hp
      rw [eval_bare] at hrep
      generalize hv : a.eval c = v at hrep
      cases hrep with | v _ _ hrep =>
      cases hrep
      have h := h.get
      cases p
      · exact wpIn_cond_false hv (ihy _ _ _ _ st a w hy h hd ⟨η, hr'⟩)
      · exact wpIn_cond_true hv (ihx _ _ _ _ st a w hx h hd ⟨η, hr'⟩)
    · exact h.elim
  | block id x =>
    have ih := ih x (by simp at hm; omega)
    intro hs hs' sc Q st a w hc h hd hr
    simp only [compileG, Option.map_eq_some_iff] at hc
    obtain ⟨⟨x', hs1⟩, hx, hc⟩ := hc
    cases hc
    refine wpIn_block (wpIn_mono (ih _ _ _ _ st a w hx h hd hr) fun e a1 w1 ⟨hd1, st1, hr1, hq⟩ => ?_)
    cases e with
    | exit id' =>
      unfold inBlockQ at hq
      by_cases hi : id' = id
      · simp only [hi, if_true] at hq
        simp only [Exit.inBlock, hi, if_true]
        exact ⟨hd1, st1, hr1, hq⟩
      · simp only [hi, if_false] at hq
        simp only [Exit.inBlock, hi, if_false]
        exact ⟨hd1, st1, hr1, hq⟩
    | _ => exact ⟨hd1, st1, hr1, hq⟩
  | loop x =>
    have ih := ih x (by simp at hm; omega)
    intro hs hs' sc Q st a w hc h hd hr
    cases hs with
    | nil => simp [compileG] at hc
    | cons live hs =>
      simp only [compileG, Option.map_eq_some_iff] at hc
      obtain ⟨⟨x', hs1⟩, hx, hc⟩ := hc
      cases hc
      refine LoopIn.wp ?_
      obtain ⟨h⟩ := keepK_iff.1 h
      refine h (fun s => ∀ (a : Act) (w : World), Marks w0.heap.size a.defers w → RelX w0 U E nt s a.bare w → LoopIn Fence.wide n P x (liftM w0 U E nt Q) a w) (fun s hs a1 w1 hd1 hr1 => ?_) a w hd (hr.keep live)
      refine LoopIn.unroll (wpIn_mono (ih _ _ _ _ s a1 w1 hx hs hd1 hr1) fun e a2 w2 ⟨hd2, st2, hr2, hq⟩ => ?_)
      cases e with
      | normal => exact (keepK_iff (K := fun s => ∀ (a : Act) (w : World), Marks w0.heap.size a.defers w → RelX w0 U E nt s a.bare w → LoopIn Fence.wide n P x (liftM w0 U E nt Q) a w)).1 hq a2 w2 hd2 (hr2.keep live)
      | _ => exact ⟨hd2, st2, hr2, hq⟩
  | rangeFunc g ps as_ body =>
    intro hs hs' sc Q st a w hc h hd hr
    cases hs with
    | nil => simp [compileG] at hc
    | cons live hs =>
      simp only [compileG, Option.bind_eq_some_iff] at hc
      obtain ⟨g', hg, ⟨x', hs1⟩, hx, ⟨y', hs2⟩, hy, hc⟩ := hc
      split at hc
      · rename_i hb
        cases hc
        simp only [Bool.and_eq_true] at hb
        obtain ⟨⟨⟨h3, h4⟩, h5⟩, h6⟩ := hb
        exact iter_sound hn hg hx hy h3 h4 h5 h6 hd hr h
      · cases hc
  | _ => intro hs hs' sc Q st a w hc h hd hr; cases hs <;> (simp only [compileG, Option.some.injEq, Prod.mk.injEq] at hc; obtain ⟨rfl, _⟩ := hc; exact h.elim)
end
/-- The rounds of a loop over an iterator, by what holds ahead of round k. -/
theorem iter_by {P : Program} {x y : SC} {ps : List Nat} {Q : Exit → St → Prop} {ρ : List (Nat × D)} {xs : List (List V)} {α : Type} (S : α → List (Nat × List V)) (I : Nat → α → Prop) (a : α) (ha : I 0 a)
    (h : ∀ k v a, xs[k]? = some v → I k a → ∀ N : List (Nat × List V) → Prop, (∀ a', I (k + 1) a' → N (S a')) → x.wp P (thenQ (fun st' => y.wp P (iterQ ρ (S a) N Q) st') (fun _ _ => False)) ⟨setPs ps v ρ, S a⟩)
    (he : ∀ a, I xs.length a → Q .normal ⟨ρ, S a⟩) : iterW (fun Q s => x.wp P (thenQ (fun st' => y.wp P Q st') (fun _ _ => False)) s) ps Q ρ xs (S a) :=
  iter_ind (step := fun Q s => x.wp P (thenQ (fun st' => y.wp P Q st') (fun _ _ => False)) s) (fun _ _ _ hq h => SC.wp_mono x (thenQ_mono (fun _ h => SC.wp_mono y hq h) (fun _ _ h => h)) h) S I a ha
    (fun k a hk hI => h k _ a (List.getElem?_eq_getElem hk) hI _ fun a' h' => ⟨a', rfl, h'⟩) he
/-- A function with loops over iterators, put for what it does. -/
def Fn1.ofG (P : Program) (f : FuncId) (ad : Ad) (hs : List (List Nat)) : Option Fn1 :=
  match P.funcs[f]? with
  | some fn => match fn.body with
    | some c => match compileG P ad fn.ntmps c hs, allSome (fn.results.toList.map (cRes1 P)) with
      | some (sc, []), some rs => if fn.name == "runtime.NumGoroutine" then none else some ⟨fn.ntmps, sc, rs⟩
      | _, _ => none
    | none => none
  | none => none
section
variable {P : Program} {w w0 w' : World} {U E : Nat → Prop} {nt : Nat} {st st' : St} {a : Act} {η : Eta} {n : Nat}
theorem marks_leave {fn : Func} {tmps : Array Value} {R : Ending → World → Prop} {B : Nat} : ∀ (Ds : List Nat) (W : World), Ds.Nodup → (∀ D ∈ Ds, B ≤ D ∧ W.heap[D]? = some (.deferred (some []))) → (∀ W', Grew B W W' → LeavesIn Fence.wide n P fn tmps R [] .returning W') → LeavesInM Fence.wide n P fn tmps R (Ds.map markD) .returning W
  | [], W, _, _, h => h W ⟨rfl, rfl, rfl, Nat.le_refl _, fun _ _ h _ => h, fun _ _ _ => rfl⟩
  | D :: Ds, W, hnd, hm, h => by
    obtain ⟨h1, h2⟩ := List.nodup_cons.1 hnd
    obtain ⟨h3, h4⟩ := hm D (by simp)
    have hg : Grew B W (W.putObj D (.deferred none)) := Grew.put _ h3 h4 rfl
    refine ⟨by simp, .inl ⟨D, _, rfl, run_takeDeferred h4, marks_leave Ds _ h2 (fun D' hD' => ⟨(hm D' (by simp [hD'])).1, ?_⟩) fun W' hg' => h W' ⟨hg'.os.trans hg.os, hg'.tape.trans hg.tape, hg'.output.trans hg.output, Nat.le_trans hg.size hg'.size, fun k o hk ho => hg'.same _ _ (hg.same _ _ hk ho) ho, fun k hk hl => (hg'.low k hk (Nat.lt_of_lt_of_le hl hg.size)).trans (hg.low k hk hl)⟩⟩⟩
    have hne : D' ≠ D := fun e => h1 (by rw [← e]; exact hD')
    exact (World.putObj_heap_other hne).trans (hm D' (by simp [hD'])).2
theorem pure_of_wpG {f : FuncId} {ad : Ad} {hs : List (List Nat)} {F : Fn1} {args : List V} {r : V} (hF : Fn1.ofG P f ad hs = some F) (hn : args.length ≤ F.nt) (h : F.sc.wp P (endQ F.rs r) ⟨initR 0 args, []⟩) : Pure P f args r := by
  unfold Fn1.ofG at hF
  split at hF
  case h_2 => cases hF
  rename_i fn hfn
  split at hF
  case h_2 => cases hF
  rename_i c hb
  split at hF
  case h_2 => cases hF
  rename_i sc rs hc hrs
  split at hF
  · cases hF
  rename_i hname
  cases hF
  simp only at hn h
  intro w U us hL hU hus
  unfold CallOk
  have hcf : (callFunc f us.toArray).run P w = .ok (.enter f us.toArray) w := by
    simp only [callFunc, Sem.run_bind, run_program, Result.andThen_ok, hfn]
    rw [if_neg hname]
    simp [hb]
  rw [hcf]
  refine ⟨rfl, rfl, rfl, (callsIn_wide (n := 2)).1 (callsIn_of_wp_marks hfn hb trivial ?_)⟩
  have hsz : (us.toArray ++ Array.replicate (fn.ntmps - us.toArray.size) undef).size = fn.ntmps := by
    have := hus.1
    simp; omega
  have hrel : Rel w U (fun _ => False) fn.ntmps ⟨initR 0 args, []⟩ { tmps := us.toArray ++ Array.replicate (fn.ntmps - us.toArray.size) undef, defers := [] } w (fun _ => none) := by
    refine ⟨hsz, rfl, ⟨hL, fun _ h => h.elim, rfl, rfl, rfl, Nat.le_refl _, fun _ _ _ => rfl, fun _ _ => rfl⟩, fun b hb => ⟨hU b hb, fun h => h⟩, fun t d ht => ?_, fun s cs hs => (by cases hs), fun s cs b o h1 => (by cases h1), fun s s' cs cs' b o o' h1 => (by cases h1)⟩
    obtain ⟨_, v, hv, rfl⟩ := look_initR args 0 t d ht
    simp only [Nat.sub_zero] at hv
    obtain ⟨u, hu, hr⟩ := hus.2 t v hv
    have hlt : t < us.length := (List.getElem?_eq_some_iff.1 hu).1
    refine ⟨by have := hus.1; omega, .v _ _ ?_⟩
    have : (us.toArray ++ Array.replicate (fn.ntmps - us.toArray.size) undef).getD t undef = u := by
      rw [Array.getD_eq_getD_getElem?, Array.getElem?_append_left (by simpa using hlt)]
      simp [hu]
    rw [this]
    exact hr.mono fun b hb => ⟨⟨hb.1, hb.2, fun s cs o h1 => (by cases h1)⟩, rfl⟩
  refine wpIn_mono (compileG_sound (w0 := w) (U := U) (E := fun _ => False) (n := 2) (Nat.le_refl _) _ c (Nat.le_refl _) hs [] sc _ _ _ _ hc h ⟨[], rfl, List.nodup_nil, fun D hD => by cases hD⟩ ⟨_, hrel⟩) fun e a1 w1 ⟨⟨Ds, e1, e2, e3⟩, st1, ⟨η, hr1⟩, hq⟩ => ?_
  have fin : resV st1 rs = some r → LeavesInM Fence.wide 2 P fn a1.tmps (fun e w' => ∃ u, e = .returned u ∧ RepV w' (fun b => b < w'.heap.size ∧ ¬ U b) r u ∧ Below w.heap.size w w') a1.defers .returning w1 := fun hres => by
    rw [e1]
    refine marks_leave Ds w1 e2 e3 fun W2 hg => ?_
    have hr2 := hr1.grew (Nat.le_refl _) hg
    obtain ⟨u, h1, h2⟩ := resV_run (P := P) hr2 hrs hres
    exact ⟨u, h1, u, rfl, h2, ⟨hr2.keeps.os, hr2.keeps.tape, hr2.keeps.output, hr2.keeps.size, fun k hk => hr2.keeps.block k hk (fun h => h)⟩⟩
  cases e <;> first | exact fin hq | exact hq.elim
end
end Go.Proofs.YtljcbmnkjiogmaaDoor.Sv
/-! Iterators: functions that hand over things one by one, from their code. -/
namespace Go.Proofs.YtljcbmnkjiogmaaDoor.Sv
open Go Go.RowKit
set_option linter.unusedVariables false
set_option linter.unusedSimpArgs false
/-- Code in which values are handed over. -/
inductive SY where
  | sc (x : SC)
  | yield (dst g : Nat) (args : List Opd)
  | seq (x y : SY)
  | cond (c : Opd) (x y : SY)
  | block (id : Nat) (x : SY)
  | loop (live : List Nat) (x : SY)
/-- The next thing is handed over. -/
inductive YieldK (xs : List (List V)) (k l l' : Nat) (o : Option (List V)) (K : Bool → Prop) : Prop
  | mk (x : List V) (hl : l' = l) (ho : o = some x) (hx : xs[k]? = some x) (t : K true) (f : K false)
/-- Only values are kept. -/
def vsK : List (Nat × D) → (List (Nat × D) → Prop) → Prop
  | [], K => K []
  | (t, d) :: l, K => match d with
    | .v x => vsK l fun r => K ((t, .v x) :: r)
    | _ => vsK l fun r => K ((t, .dead) :: r)
def vsR : List (Nat × D) → List (Nat × D)
  | [] => []
  | (t, d) :: l => (t, match d with
    | .v x => .v x
    | _ => .dead) :: vsR l
theorem vsK_iff : ∀ {l : List (Nat × D)} {K : List (Nat × D) → Prop}, vsK l K ↔ K (vsR l)
  | [], _ => Iff.rfl
  | (t, d) :: l, K => by cases d <;> exact vsK_iff (l := l) (K := fun r => K ((t, _) :: r))
theorem look_vsR {t : Nat} {d : D} : ∀ {l : List (Nat × D)}, look (vsR l) t = some d → d = .dead ∧ (∃ d', look l t = some d') ∨ ∃ x, d = .v x ∧ look l t = some (.v x)
  | (k, e) :: l, h => by
    simp only [vsR, look] at h ⊢
    split at h
    · rename_i hk
      cases e <;> cases h
      · exact .inr ⟨_, rfl, by simp [hk]⟩
      all_goals exact .inl ⟨rfl, _, by rw [if_pos hk]⟩
    · rename_i hk
      simp only [if_neg hk]
      exact look_vsR h
inductive LoopY (step : (Option Nat → St → Prop) → Option Nat → St → Prop) (m : Option Nat) (st : St) : Prop
  | mk (h : ∀ I : Option Nat → St → Prop, (∀ m s, step I m s → I m s) → I m st)
def thenY (K : Option Nat → St → Prop) (Q : Exit → Option Nat → St → Prop) : Exit → Option Nat → St → Prop
  | .normal, m, st => K m st
  | e, m, st => Q e m st
def blockY (id : Nat) (Q : Exit → Option Nat → St → Prop) : Exit → Option Nat → St → Prop
  | .exit id', m, st => if id' = id then Q .normal m st else Q (.exit id') m st
  | e, m, st => Q e m st
/-- m: how many were handed over; none: it was enough. -/
def SY.wp (P : Program) (l : Nat) (xs : List (List V)) : SY → (Exit → Option Nat → St → Prop) → Option Nat → St → Prop
  | .sc x, Q, m, st => x.wp P (fun e st' => Q e m st') st
  | .yield dst g args, Q, m, st => match m, look st.ρ g with
    | some k, some (.v (.clo (.yield l') [] [])) => YieldK xs k l l' ((evs st args).bind (snapL st.objs)) fun b => vsK (st.freezeL (st.objs.map (·.1))).ρ fun ρ => match b with
      | true => Q .normal (some (k + 1)) ⟨(dst, .v (.b true)) :: ρ, []⟩
      | false => Q .normal none ⟨(dst, .v (.b false)) :: ρ, []⟩
    | _, _ => False
  | .seq x y, Q, m, st => x.wp P l xs (thenY (fun m st' => y.wp P l xs Q m st') Q) m st
  | .cond c x y, Q, m, st => match c.ev st with
    | some (.v (.b p)) => DecK p fun b => if b then x.wp P l xs Q m st else y.wp P l xs Q m st
    | _ => False
  | .block id x, Q, m, st => x.wp P l xs (blockY id Q) m st
  | .loop live x, Q, m, st => keepK live st fun st => LoopY (fun I m s => x.wp P l xs (thenY (fun m st' => keepK live st' (I m)) Q) m s) m st
def isYield (o : Oper) : Bool := match o.op with
  | .call c => match c.callee with
    | .value (.tmp _) => true
    | _ => false
  | _ => false
def cYield (nt : Nat) (o : Oper) : Option SY := match o.op, o.dst, o.guard with
  | .call c, some d, none => match c.callee with
    | .value (.tmp g) => if d < nt then (allSome (c.args.toList.map cOpd)).map fun args => .yield d g args else none
    | _ => none
  | _, _, _ => none
/-- A region, cut at the operation that hands over. -/
def cutY : List Oper → Option (List Oper × Oper × List Oper)
  | [] => none
  | o :: l => if isYield o then some ([], o, l) else (cutY l).map fun (a, y, b) => (o :: a, y, b)
def compRY (P : Program) (ad : Ad) (nt : Nat) (id : Nat) (ops : Array Oper) (draw : Bool) (live : List Nat) (hs : List (List Nat)) : Option (SY × List (List Nat)) :=
  match cutY ops.toList with
  | none => if codeND (.region id ops draw) then (compR P ad nt ops draw live).map fun x => (.sc x, hs) else none
  | some (a, y, b) => match hs with
    | live2 :: hs => (allSome (a.map (cSOp P nt ad ops))).bind fun a' => (cYield nt y).bind fun y' => (allSome (b.map (cSOp P nt ad ops))).bind fun b' =>
        if !draw && a.all noDefer && b.all noDefer then some (.seq (.sc (.reg a' live)) (.seq y' (.sc (.reg b' live2))), hs) else none
    | [] => none
def compileY (P : Program) (ad : Ad) (nt : Nat) : Code → List (List Nat) → Option (SY × List (List Nat))
  | .region id ops draw, live :: hs => compRY P ad nt id ops draw live hs
  | .seq x y, hs => (compileY P ad nt x hs).bind fun r => (compileY P ad nt y r.2).map fun r' => (.seq r.1 r'.1, r'.2)
  | .cond c x y, hs => (cOpd c).bind fun c' => (compileY P ad nt x hs).bind fun r => (compileY P ad nt y r.2).map fun r' => (.cond c' r.1 r'.1, r'.2)
  | .block id x, hs => (compileY P ad nt x hs).map fun r => (.block id r.1, r.2)
  | .loop x, live :: hs => (compileY P ad nt x hs).map fun r => (.loop live r.1, r.2)
  | .skip, hs => some (.sc .skip, hs)
  | .ret, hs => some (.sc .ret, hs)
  | .exit id, hs => some (.sc (.exit id), hs)
  | .region _ _ _, [] => none
  | .loop _, [] => none
  | .rangeFunc _ _ _ _, _ => none
  | .label _, _ => none
  | .goto _, _ => none
  | .scope _, _ => none
  | .refuse _, _ => none
theorem cutY_eq : ∀ {l a b : List Oper} {y : Oper}, cutY l = some (a, y, b) → l = a ++ y :: b ∧ isYield y = true
  | [], a, b, y, h => by cases h
  | o :: l, a, b, y, h => by
    simp only [cutY] at h
    split at h
    · rename_i hy; cases h; exact ⟨rfl, hy⟩
    · simp only [Option.map_eq_some_iff] at h
      obtain ⟨⟨a', y', b'⟩, h1, h2⟩ := h
      cases h2
      obtain ⟨h3, h4⟩ := cutY_eq h1
      exact ⟨by rw [h3]; rfl, h4⟩
section
variable {P : Program} {w w0 w' : World} {U E : Nat → Prop} {nt : Nat} {st st' : St} {a : Act} {η : Eta} {n : Nat}
theorem thenY_mono {K K' : Option Nat → St → Prop} {Q Q' : Exit → Option Nat → St → Prop} (hk : ∀ m st, K m st → K' m st) (hq : ∀ e m st, Q e m st → Q' e m st) (e : Exit) (m : Option Nat) (st : St) (h : thenY K Q e m st) : thenY K' Q' e m st := by
  cases e <;> first | exact hk _ _ h | exact hq _ _ _ h
theorem blockY_mono {id : Nat} {Q Q' : Exit → Option Nat → St → Prop} (hq : ∀ e m st, Q e m st → Q' e m st) (e : Exit) (m : Option Nat) (st : St) (h : blockY id Q e m st) : blockY id Q' e m st := by
  cases e with
  | exit id' =>
    unfold blockY at h ⊢
    by_cases hi : id' = id
    · simp only [hi, if_true] at h ⊢; exact hq _ _ _ h
    · simp only [hi, if_false] at h ⊢; exact hq _ _ _ h
  | _ => exact hq _ _ _ h
theorem SY.wp_mono {l : Nat} {xs : List (List V)} : ∀ (c : SY) {Q Q' : Exit → Option Nat → St → Prop} {m : Option Nat} {st : St}, (∀ e m st, Q e m st → Q' e m st) → c.wp P l xs Q m st → c.wp P l xs Q' m st
  | .sc x, _, _, _, _, hq, h => SC.wp_mono x (fun _ _ h => hq _ _ _ h) h
  | .yield dst g args, Q, Q', m, st, hq, h => by
    unfold SY.wp at h ⊢
    split at h
    · obtain ⟨x, h1, h2, h3, h4, h5⟩ := h
      have h4 := (vsK_iff (K := fun ρ => Q .normal _ ⟨(dst, .v (.b true)) :: ρ, []⟩)).1 h4
      have h5 := (vsK_iff (K := fun ρ => Q .normal _ ⟨(dst, .v (.b false)) :: ρ, []⟩)).1 h5
      exact ⟨x, h1, h2, h3, (vsK_iff (K := fun ρ => Q' .normal _ ⟨(dst, .v (.b true)) :: ρ, []⟩)).2 (hq _ _ _ h4), (vsK_iff (K := fun ρ => Q' .normal _ ⟨(dst, .v (.b false)) :: ρ, []⟩)).2 (hq _ _ _ h5)⟩
    · exact h
  | .seq x y, _, _, _, _, hq, h => SY.wp_mono x (thenY_mono (fun _ _ h => SY.wp_mono y hq h) hq) h
  | .cond c x y, _, _, m, st, hq, h => by
    unfold SY.wp at h ⊢
    split at h
    · refine h.mono fun b h => ?_
      cases b
      · exact SY.wp_mono y hq h
      · exact SY.wp_mono x hq h
    · exact h
  | .block id x, _, _, _, _, hq, h => SY.wp_mono x (blockY_mono hq) h
  | .loop live x, _, _, _, _, hq, h => by
    obtain ⟨h⟩ := keepK_iff.1 h
    exact keepK_iff.2 ⟨fun I hI => h I fun m s hs => hI m s (SY.wp_mono x (thenY_mono (fun _ _ h => h) hq) hs)⟩
abbrev loopY (P : Program) (l : Nat) (xs : List (List V)) (live : List Nat) (x : SY) (Q : Exit → Option Nat → St → Prop) (m : Option Nat) (st : St) : Prop := LoopY (fun I m s => x.wp P l xs (thenY (fun m st' => keepK live st' (I m)) Q) m s) m st
theorem loopY_unroll {l : Nat} {xs : List (List V)} {live : List Nat} {x : SY} {Q : Exit → Option Nat → St → Prop} {m : Option Nat} (h : x.wp P l xs (thenY (fun m st' => keepK live st' fun st => loopY P l xs live x Q m st) Q) m st) : loopY P l xs live x Q m st := by
  refine ⟨fun I hI => hI _ _ (SY.wp_mono x (thenY_mono (fun m st' h' => ?_) (fun _ _ _ h => h)) h)⟩
  exact keepK_iff.2 ((keepK_iff.1 h').1 I hI)
theorem loopY_ind {l : Nat} {xs : List (List V)} {live : List Nat} {x : SY} {Q : Exit → Option Nat → St → Prop} {α : Type} (M : α → Option Nat) (S : α → St) (μ : α → Nat) (I : α → Prop) (a : α) (ha : I a)
    (h : ∀ a, I a → (∀ a', I a' → μ a' < μ a → loopY P l xs live x Q (M a') (S a')) → x.wp P l xs (thenY (fun m st' => keepK live st' fun st => loopY P l xs live x Q m st) Q) (M a) (S a)) : loopY P l xs live x Q (M a) (S a) := by
  have main : ∀ n a, I a → μ a < n → loopY P l xs live x Q (M a) (S a) := by
    intro n
    induction n with
    | zero => intro a _ hlt; omega
    | succ n ih => intro a hI hlt; exact loopY_unroll (h a hI fun a' hI' hlt' => ih a' hI' (by omega))
  exact main (μ a + 1) a ha (by omega)
/-- What the model knows at a point of an iterator's code: how far it is. -/
def RelY (X : Nat → Prop) (J : Nat → World → Prop) (Jx : World → Prop) (nt : Nat) (m : Option Nat) (st : St) (a : Act) (w : World) : Prop := ∃ w0, RelX w0 X (fun _ => False) nt st a w ∧ match m with
  | some k => J k w0
  | none => Jx w0
theorem RelX.defers (h : RelX w0 U E nt st a w) : a.defers = [] := let ⟨_, h⟩ := h; h.defers
def liftY (X : Nat → Prop) (J : Nat → World → Prop) (Jx : World → Prop) (nt : Nat) (Q : Exit → Option Nat → St → Prop) : Exit → Act → World → Prop := fun e a w => ∃ m st, RelY X J Jx nt m st a w ∧ Q e m st
theorem sc_liftY {X : Nat → Prop} {J : Nat → World → Prop} {Jx : World → Prop} {Q : Exit → Option Nat → St → Prop} {m : Option Nat} {D : Nat → Prop} {a0 : Act} (hj : match m with | some k => J k w0 | none => Jx w0) {e : Exit} {a1 : Act} {w1 : World}
    (h : liftG w0 X (fun _ => False) nt D a0 [] (fun e st' => Q e m st') e a1 w1) : liftY X J Jx nt Q e a1 w1 := by
  obtain ⟨hd, ⟨st1, hr1, hq⟩, _⟩ := h
  rw [bare_of hd] at hr1
  exact ⟨m, st1, ⟨w0, hr1, hj⟩, hq⟩
theorem RelX.allFrozen (h : RelX w0 U (fun _ => False) nt st a w) : RelX w U (fun _ => False) nt ⟨(st.freezeL (st.objs.map (·.1))).ρ, []⟩ a w := let ⟨η, h⟩ := h.freezeL (st.objs.map (·.1)); ⟨η, h.rebase⟩
/-- A round of the loop has come and gone. -/
theorem RelX.yielded {ρ : List (Nat × D)} {d : Nat} {b : Bool} (h : RelX w U (fun _ => False) nt ⟨ρ, []⟩ a w) (hk : KpX U w w') (hd : d < nt) : RelX w' U (fun _ => False) nt ⟨(d, .v (.b b)) :: vsR ρ, []⟩ (a.put (some d) (.bool b)) w' := by
  obtain ⟨η, h⟩ := h
  have hm : ∀ b, Ok U [] η w b → Ok U [] η w' b ∧ w'.heap[b]? = w.heap[b]? := fun b hb => ⟨⟨Nat.lt_of_lt_of_le hb.1 hk.size, hb.2⟩, hk.same b hb.1 hb.2.1⟩
  have h2 : Rel w' U (fun _ => False) nt ⟨vsR ρ, []⟩ a w' η := by
    refine ⟨h.size, h.defers, ⟨hk.laid, fun _ h => h.elim, rfl, rfl, rfl, Nat.le_refl _, fun _ _ _ => rfl, fun _ _ => rfl⟩, fun b hb => ⟨Nat.lt_of_lt_of_le (h.uold b hb).1 hk.size, fun h => h⟩, fun t dd ht => ?_, fun s cs hs => (by cases hs), fun s cs b o h1 => (by cases h1), fun s s' cs cs' b o o' h1 => (by cases h1)⟩
    rcases look_vsR ht with ⟨rfl, d', h3⟩ | ⟨x, rfl, h3⟩
    · exact ⟨(h.slots t _ h3).1, .dead _⟩
    · obtain ⟨h4, h5⟩ := h.slots t _ h3
      refine ⟨h4, ?_⟩
      generalize a.tmps.getD t undef = u at h5 ⊢
      cases h5 with | v _ _ h5 =>
      exact .v _ _ (h5.mono hm)
  exact ⟨η, h2.put (dst := some d) (.v _ _ (.b b)) (fun t ht => by cases ht; exact hd)⟩
/-- The operation that hands over. -/
theorem yield_sound {X : Nat → Prop} {J : Nat → World → Prop} {Jx : World → Prop} {l : Nat} {xs : List (List V)} {y : Oper} {y' : SY} {Q : Exit → Option Nat → St → Prop} {m : Option Nat} {next : Act → World → Prop} {Q0 : Exit → Act → World → Prop} (hn : 1 ≤ n)
    (hJ : ∀ k W1 W2, J k W1 → Below W1.heap.size W1 W2 → J k W2) (hyy : isYield y = true) (hc : cYield nt y = some y')
    (hy : ∀ k W1 us x, J k W1 → xs[k]? = some x → RepL W1 (okX X W1) x us → YieldAt Fence.wide (n - 1) P l us.toArray W1 fun e W' =>
      (e = .returned (.bool true) ∧ J (k + 1) W' ∧ KpX X W1 W') ∨ (e = .returned (.bool false) ∧ Jx W' ∧ KpX X W1 W'))
    (h : y'.wp P l xs Q m st) (hr : RelY X J Jx nt m st a w) (hk : ∀ m st a w, Q .normal m st → RelY X J Jx nt m st a w → next a w) : y.wpIn Fence.wide n P a w next Q0 := by
  obtain ⟨dst, op, type, pos, after, guard⟩ := y
  unfold cYield at hc
  simp only at hc
  split at hc
  case h_2 => cases hc
  rename_i c d
  split at hc
  case h_2 => cases hc
  rename_i g hcal
  split at hc
  case isFalse => cases hc
  rename_i hd
  simp only [Option.map_eq_some_iff] at hc
  obtain ⟨args, hargs, rfl⟩ := hc
  unfold SY.wp at h
  split at h
  case h_2 => exact h.elim
  rename_i k l' hg
  obtain ⟨x, rfl, ho, hx, ht, hf⟩ := h
  obtain ⟨w0, hr, hj⟩ := hr
  have hr' := hr
  obtain ⟨η, hr⟩ := hr
  simp only [Option.bind_eq_some_iff] at ho
  obtain ⟨ds, hds, hsn⟩ := ho
  have hrd := evs_rep hr hargs hds
  have hus := snapL_rep hr hrd hsn
  have hgv := (hr.slots g _ hg).2
  generalize hgt : a.tmps.getD g undef = gv at hgv
  cases hgv with | v _ _ hgv =>
  cases hgv with | clo _ _ _ fs cs hl hl' _ _ =>
  obtain rfl : cs = #[] := by simpa using hl'
  obtain rfl : fs = #[] := by simpa using hl
  have hjw : J k w := hJ _ _ _ hj ⟨hr.keeps.os, hr.keeps.tape, hr.keeps.output, hr.keeps.size, fun b hb => hr.keeps.block b hb (fun h => h)⟩
  obtain ⟨fn, tmps, as_, body, hyr, hR⟩ := hy k w _ x hjw hx hus
  refine ⟨fun _ _ => trivial, ?_⟩
  have hrun : ((Oper.semAt Fence.wide.round a.eval ⟨some d, .call c, type, pos, after, none⟩).run P w) = .ok (.round l' fn tmps as_ body) w := by
    rw [Oper.semAt_eq _ _ _ (fun c e => by cases e)]
    have hev : a.eval (.tmp g) = .func (.yield l') #[] #[] := hgt
    have e1 : c.args.map a.eval = (c.args.toList.map a.eval).toArray := by apply Array.ext'; simp
    simp only [execOp, resolve, hcal, hev, Deferred.ofValue, pure_bind, invoke, Array.empty_append, e1]
    exact hyr
  rw [hrun, Oper.uponIn_round]
  refine ⟨fun _ => by omega, hR.mono fun e W' he => ?_⟩
  rcases he with ⟨rfl, hj', hkx⟩ | ⟨rfl, hj', hkx⟩
  · exact hk _ _ _ _ (vsK_iff.1 ht) ⟨W', hr'.allFrozen.yielded hkx hd, hj'⟩
  · exact hk _ _ _ _ (vsK_iff.1 hf) ⟨W', hr'.allFrozen.yielded hkx hd, hj'⟩
theorem compileY_sound {X : Nat → Prop} {J : Nat → World → Prop} {Jx : World → Prop} {l : Nat} {xs : List (List V)} {ad : Ad} (hn : 1 ≤ n) (hJ : ∀ k W1 W2, J k W1 → Below W1.heap.size W1 W2 → J k W2)
    (hy : ∀ k W1 us x, J k W1 → xs[k]? = some x → RepL W1 (okX X W1) x us → YieldAt Fence.wide (n - 1) P l us.toArray W1 fun e W' =>
      (e = .returned (.bool true) ∧ J (k + 1) W' ∧ KpX X W1 W') ∨ (e = .returned (.bool false) ∧ Jx W' ∧ KpX X W1 W')) :
    ∀ (s : Nat) (c : Code), SizeOf.sizeOf c ≤ s → ∀ (hs hs' : List (List Nat)) (sy : SY) (Q : Exit → Option Nat → St → Prop) (m : Option Nat) (st : St) (a : Act) (w : World), compileY P ad nt c hs = some (sy, hs') → sy.wp P l xs Q m st → RelY X J Jx nt m st a w → c.wpIn Fence.wide n P (liftY X J Jx nt Q) a w := by
  intro s
  induction s with
  | zero => intro c hm; cases c <;> simp at hm
  | succ s ih =>
  intro c hm
  cases c with
  | skip => intro hs hs' sc Q m st a w hc h hr; simp only [compileY] at hc; cases hc; exact wpIn_skip ⟨m, st, hr, h⟩
  | ret => intro hs hs' sc Q m st a w hc h hr; simp only [compileY] at hc; cases hc; exact wpIn_ret ⟨m, st, hr, h⟩
  | exit id => intro hs hs' sc Q m st a w hc h hr; simp only [compileY] at hc; cases hc; exact wpIn_exit ⟨m, st, hr, h⟩
  | region id ops draw =>
    intro hs hs' sc Q m st a w hc h hr
    cases hs with
    | nil => simp [compileY] at hc
    | cons live hs =>
      simp only [compileY] at hc
      unfold compRY at hc
      split at hc
      · split at hc
        · rename_i hnd
          simp only [Option.map_eq_some_iff] at hc
          obtain ⟨x, hx, hc⟩ := hc
          cases hc
          obtain ⟨w0, hr, hj⟩ := hr
          exact wpIn_mono (compR_soundIn Fen.wide (D := fun _ => True) (a0 := a) (df := []) hx h hr.defers (by rw [bare_of hr.defers]; exact hr) (fun _ _ _ _ => trivial) hnd (Frm.refl _ _)) fun e a1 w1 h1 => sc_liftY hj h1
        · cases hc
      · rename_i la y lb hcut
        obtain ⟨hl, hyy⟩ := cutY_eq hcut
        split at hc
        case h_2 => cases hc
        rename_i live2 hs2
        simp only [Option.bind_eq_some_iff] at hc
        obtain ⟨a', ha', y', hy', b', hb', hc⟩ := hc
        split at hc
        case isFalse => cases hc
        rename_i hnd
        cases hc
        simp only [Bool.and_eq_true, Bool.not_eq_true'] at hnd
        obtain ⟨⟨hdr, hna⟩, hnb⟩ := hnd
        subst hdr
        refine wpIn_region_list ?_
        rw [hl]
        obtain ⟨w0, hr, hj⟩ := hr
        simp only [SY.wp] at h
        refine ops_soundIn' (w0 := w0) (U := X) (E := fun _ => False) Fen.wide (df := []) (D := fun _ => True) (a0 := a) (rest := y :: lb) (fun st1 a1 w1 h1 hd1 hr1 _ => ?_) la a' st a w [] ha' h hr.defers (by rw [bare_of hr.defers]; exact hr) (fun _ _ _ _ => trivial) hna (Frm.refl _ _)
        rw [bare_of hd1] at hr1
        have h1 := keepK_iff.1 h1
        simp only [thenY] at h1
        have hg : y.guard = none := by
          unfold cYield at hy'
          split at hy'
          · rename_i hg; exact hg
          · cases hy'
        simp only [wpListIn, Region.wanted, hg, if_true]
        refine yield_sound hn hJ hyy hy' hy h1 ⟨w0, hr1.keep live, hj⟩ fun m2 st2 a2 w2 h2 hr2 => ?_
        obtain ⟨w02, hr2, hj2⟩ := hr2
        simp only [thenY] at h2
        exact ops_soundIn (w0 := w02) (U := X) (E := fun _ => False) Fen.wide (df := []) (D := fun _ => True) (a0 := a2) (fun st3 a3 w3 h3 hd3 hr3 _ => by
          rw [bare_of hd3] at hr3
          exact ⟨m2, _, ⟨w02, hr3.keep live2, hj2⟩, keepK_iff.1 h3⟩) lb b' st2 a2 w2 [] hb' h2 hr2.defers (by rw [bare_of hr2.defers]; exact hr2) (fun _ _ _ _ => trivial) hnb (Frm.refl _ _)
  | seq x y =>
    have ihx := ih x (by simp at hm; omega)
    have ihy := ih y (by simp at hm; omega)
    intro hs hs' sc Q m st a w hc h hr
    simp only [compileY, Option.bind_eq_some_iff, Option.map_eq_some_iff] at hc
    obtain ⟨⟨x', hs1⟩, hx, ⟨y', hs2⟩, hy, hc⟩ := hc
    cases hc
    refine wpIn_seq (wpIn_mono (ihx _ _ _ _ m st a w hx h hr) fun e a1 w1 ⟨m1, st1, hr1, hq⟩ => ?_)
    cases e with
    | normal => exact ihy _ _ _ _ m1 st1 a1 w1 hy hq hr1
    | _ => exact ⟨m1, st1, hr1, hq⟩
  | cond c x y =>
    have ihx := ih x (by simp at hm; omega)
    have ihy := ih y (by simp at hm; omega)
    intro hs hs' sc Q m st a w hc h hr
    simp only [compileY, Option.bind_eq_some_iff, Option.map_eq_some_iff] at hc
    obtain ⟨c', hcc, ⟨x', hs1⟩, hx, ⟨y', hs2⟩, hy, hc⟩ := hc
    cases hc
    simp only [SY.wp] at h
    split at h
    · rename_i p hp
      have hr0 := hr
      obtain ⟨w0, ⟨η, hr'⟩, hj⟩ := hr
      have hrep := Opd.rep hr' hcc hp
      generalize hv : a.eval c = v at hrep
      cases hrep with | v _ _ hrep =>
      cases hrep
      have h := h.get
      cases p
      · exact wpIn_cond_false hv (ihy _ _ _ _ m st a w hy h hr0)
      · exact wpIn_cond_true hv (ihx _ _ _ _ m st a w hx h hr0)
    · exact h.elim
  | block id x =>
    have ih := ih x (by simp at hm; omega)
    intro hs hs' sc Q m st a w hc h hr
    simp only [compileY, Option.map_eq_some_iff] at hc
    obtain ⟨⟨x', hs1⟩, hx, hc⟩ := hc
    cases hc
    refine wpIn_block (wpIn_mono (ih _ _ _ _ m st a w hx h hr) fun e a1 w1 ⟨m1, st1, hr1, hq⟩ => ?_)
    cases e with
    | exit id' =>
      unfold blockY at hq
      by_cases hi : id' = id
      · simp only [hi, if_true] at hq
        simp only [Exit.inBlock, hi, if_true]
        exact ⟨m1, st1, hr1, hq⟩
      · simp only [hi, if_false] at hq
        simp only [Exit.inBlock, hi, if_false]
        exact ⟨m1, st1, hr1, hq⟩
    | _ => exact ⟨m1, st1, hr1, hq⟩
  | loop x =>
    have ih := ih x (by simp at hm; omega)
    intro hs hs' sc Q m st a w hc h hr
    cases hs with
    | nil => simp [compileY] at hc
    | cons live hs =>
      simp only [compileY, Option.map_eq_some_iff] at hc
      obtain ⟨⟨x', hs1⟩, hx, hc⟩ := hc
      cases hc
      refine LoopIn.wp ?_
      obtain ⟨h⟩ := keepK_iff.1 h
      have kp : ∀ {m st a w}, RelY X J Jx nt m st a w → RelY X J Jx nt m (st.keep live) a w := fun ⟨w0, hr, hj⟩ => ⟨w0, hr.keep live, hj⟩
      refine h (fun m s => ∀ (a : Act) (w : World), RelY X J Jx nt m s a w → LoopIn Fence.wide n P x (liftY X J Jx nt Q) a w) (fun m s hs a1 w1 hr1 => ?_) a w (kp hr)
      refine LoopIn.unroll (wpIn_mono (ih _ _ _ _ m s a1 w1 hx hs hr1) fun e a2 w2 ⟨m2, st2, hr2, hq⟩ => ?_)
      cases e with
      | normal => exact (keepK_iff (K := fun s => ∀ (a : Act) (w : World), RelY X J Jx nt m2 s a w → LoopIn Fence.wide n P x (liftY X J Jx nt Q) a w)).1 hq a2 w2 (kp hr2)
      | _ => exact ⟨m2, st2, hr2, hq⟩
  | _ => intro hs hs' sc Q m st a w hc h hr; simp [compileY] at hc
end
/-- An iterator's code, put for what it does. -/
structure FnY where
  nt : Nat
  sy : SY
def FnY.of (P : Program) (f : FuncId) (ad : Ad) (hs : List (List Nat)) : Option FnY :=
  match P.funcs[f]? with
  | some fn => match fn.body with
    | some c => match compileY P ad fn.ntmps c hs, fn.results.toList with
      | some (sy, []), [] => if fn.name == "runtime.NumGoroutine" then none else some ⟨fn.ntmps, sy⟩
      | _, _ => none
    | none => none
  | none => none
/-- At its end it has handed over all, or it was told that it is enough. -/
def endY (N : Nat) : Exit → Option Nat → St → Prop
  | .normal, m, _ | .ret, m, _ => m = some N ∨ m = none
  | _, _, _ => False
theorem iter_of_wp {P : Program} {f : FuncId} {ad : Ad} {hs : List (List Nat)} {F : FnY} {cap : List V} {xs : List (List V)} (hF : FnY.of P f ad hs = some F) (hn : cap.length + 1 ≤ F.nt)
    (h : ∀ l, F.sy.wp P l xs (endY xs.length) (some 0) ⟨initR 0 (.clo (.yield l) [] [] :: cap), []⟩) : IterOk P f cap xs := by
  unfold FnY.of at hF
  split at hF
  case h_2 => cases hF
  rename_i fn hfn
  split at hF
  case h_2 => cases hF
  rename_i c hb
  split at hF
  case h_2 => cases hF
  rename_i sy hc hrs
  split at hF
  · cases hF
  rename_i hname
  cases hF
  simp only at hn h
  refine ⟨fun args w => by
    simp only [callFunc, Sem.run_bind, run_program, Result.andThen_ok, hfn]
    rw [if_neg hname]
    simp [hb], fun W X lb n l J Jx h1 hL hX hcap hJ hJx hy h0 => ?_⟩
  refine callsIn_of_wp hfn hb trivial ?_
  have hus : RepL W (fun b => b < W.heap.size ∧ ¬ X b) (.clo (.yield l) [] [] :: cap) (.func (.yield l) #[] #[] :: lb) := .cons (.clo _ _ _ _ _ rfl rfl (fun i v h => by simp at h) (fun i v h => by simp at h)) hcap
  have e1 : #[.func (.yield l) #[] #[]] ++ lb.toArray = (Value.func (.yield l) #[] #[] :: lb).toArray := by apply Array.ext'; simp
  rw [e1]
  generalize (Value.func (.yield l) #[] #[] :: lb) = us at hus
  have hn' : (V.clo (.yield l) [] [] :: cap).length ≤ fn.ntmps := by simpa using hn
  have h := h l
  generalize (V.clo (.yield l) [] [] :: cap) = args at hus hn' h
  have hsz : (us.toArray ++ Array.replicate (fn.ntmps - us.toArray.size) undef).size = fn.ntmps := by
    have := hus.1
    simp; omega
  have hrel : Rel W X (fun _ => False) fn.ntmps ⟨initR 0 args, []⟩ { tmps := us.toArray ++ Array.replicate (fn.ntmps - us.toArray.size) undef, defers := [] } W (fun _ => none) := by
    refine ⟨hsz, rfl, ⟨hL, fun _ h => h.elim, rfl, rfl, rfl, Nat.le_refl _, fun _ _ _ => rfl, fun _ _ => rfl⟩, fun b hb => ⟨hX b hb, fun h => h⟩, fun t d ht => ?_, fun s cs hs => (by cases hs), fun s cs b o h1 => (by cases h1), fun s s' cs cs' b o o' h1 => (by cases h1)⟩
    obtain ⟨_, v, hv, rfl⟩ := look_initR args 0 t d ht
    simp only [Nat.sub_zero] at hv
    obtain ⟨u, hu, hr⟩ := hus.2 t v hv
    have hlt : t < us.length := (List.getElem?_eq_some_iff.1 hu).1
    refine ⟨by have := hus.1; omega, .v _ _ ?_⟩
    have : (us.toArray ++ Array.replicate (fn.ntmps - us.toArray.size) undef).getD t undef = u := by
      rw [Array.getD_eq_getD_getElem?, Array.getElem?_append_left (by simpa using hlt)]
      simp [hu]
    rw [this]
    exact hr.mono fun b hb => ⟨⟨hb.1, hb.2, fun s cs o h1 => (by cases h1)⟩, rfl⟩
  refine wpIn_mono (compileY_sound h1 hJ hy _ c (Nat.le_refl _) hs [] sy _ _ _ _ _ hc h ⟨W, ⟨_, hrel⟩, h0⟩) fun e a1 w1 ⟨m, st, ⟨w0, ⟨η, hr⟩, hj⟩, hq⟩ => ?_
  have fin : (m = some xs.length ∨ m = none) → a1.defers = [] ∧ ∃ v, (results fn a1.tmps).run P w1 = .ok v w1 ∧ ((∃ u, Ending.returned v = .returned u) ∧ (J xs.length w1 ∨ Jx w1)) := fun hm => by
    have hbw : Below w0.heap.size w0 w1 := ⟨hr.keeps.os, hr.keeps.tape, hr.keeps.output, hr.keeps.size, fun b hb => hr.keeps.block b hb (fun h => h)⟩
    refine ⟨hr.defers, .tuple #[], ?_, ⟨_, rfl⟩, ?_⟩
    · have : fn.results = #[] := by apply Array.ext'; simpa using hrs
      simp [results, this]
    · rcases hm with rfl | rfl
      · exact .inl (hJ _ _ _ hj hbw)
      · exact .inr (hJx _ _ hj hbw)
  cases e <;> first | exact fin hq | exact hq.elim
end Go.Proofs.YtljcbmnkjiogmaaDoor.Sv
