/- The program's code, put for what it does; and what a function's body must show so that its calls are known. No condition. -/
import Derived.Test.YtdceakejbnolpaaSv20
namespace Go.Proofs.Ytdceakejbnolpaa.Sv
open Go Go.RowKit
set_option linter.unusedVariables false
set_option linter.unusedSimpArgs false

/-- In a region that draws its order an append is one onto a value by itself. -/
def SOp.toD (s : SOp) : SOp := match s.so with
  | .app z b => ⟨s.dst, s.guard, .appv z b, s.args⟩
  | _ => s
def drawOk (P : Program) (ops : Array Oper) (ss : List SOp) : Bool :=
  P.follows .mixedOrders && Region.noSelect ops && ss.length == ops.size && lexD ops ss (clos ops) (pairsOf ss (clos ops)) ops.size 0 (Array.replicate ops.size false) && distB (newSites ss)
/-- One region. -/
def compR (P : Program) (ad : Ad) (nt : Nat) (ops : Array Oper) (draw : Bool) (live : List Nat) : Option SC :=
  (allSome (ops.toList.map (cSOp P nt (ad.at draw) ops))).bind fun ss =>
      if draw then (if ad.d && drawOk P ops ss then some (.dreg ss (pairsOf ss (clos ops)) live) else if drawOk P ops (ss.map SOp.toD) then some (.dreg (ss.map SOp.toD) (pairsOf (ss.map SOp.toD) (clos ops)) live) else some .bad) else some (.reg ss live)
def dstsOf (ops : Array Oper) : List Nat := ops.toList.filterMap (·.dst)
/-- hs: for each region and loop in the order of the text the slots that are wanted later; [0, 0] ahead of two regions: what they make beside flat values is forgotten behind them, and what was there may be written again. -/
def compile (P : Program) (ad : Ad) (nt : Nat) : Code → List (List Nat) → Option (SC × List (List Nat))
  | .skip, hs => some (.skip, hs)
  | .ret, hs => some (.ret, hs)
  | .exit id, hs => some (.exit id, hs)
  | .region _ ops draw, live :: hs => (compR P ad nt ops draw live).map fun x => (x, hs)
  | .region _ _ _, [] => none
  | .loop _, [] => none
  | .seq (.region _ ops1 d1) (.seq (.region _ ops2 d2) z), [0, 0] :: l1 :: l2 :: hs => (compR P ad nt ops1 d1 l1).bind fun x => (compR P ad nt ops2 d2 l2).bind fun y => (compile P ad nt z hs).map fun (z', hs) => (.seq (.thaw (dstsOf ops1 ++ dstsOf ops2) (.seq x y)) z', hs)
  | .seq x y, hs => (compile P ad nt x hs).bind fun (x', hs) => (compile P ad nt y hs).map fun (y', hs) => (.seq x' y', hs)
  | .cond c x y, hs => (cOpd c).bind fun c' => (compile P ad nt x hs).bind fun (x', hs) => (compile P ad nt y hs).map fun (y', hs) => (.cond c' x' y', hs)
  | .block id x, hs => (compile P ad nt x hs).map fun (x', hs) => (.block id x', hs)
  | .loop x, live :: hs => (compile P ad nt x hs).map fun (x', hs) => (.loop live x', hs)
  | _, hs => some (.bad, hs)
section
variable {P : Program} {w w0 w' : World} {U E : Nat → Prop} {nt : Nat} {st st' : St} {a : Act} {η : Eta} {ok : Nat → Prop}
theorem toD_gstep {s : SOp} (h : GStep P s.toD st st') : GStep P s st st' := by
  obtain ⟨dst, guard, so, args⟩ := s
  cases so
  case app z b =>
    cases h with
    | no g want hg h => exact .no g want hg h
    | yes _ h hg =>
      refine .yes _ ?_ hg
      cases h with
      | rd ds d h1 h2 => exact .rd ds d h1 h2
      | ef ds _ h1 h2 => simp [SOp.toD, SO.ef] at h2
      | call f ds vs r hf => simp [SOp.toD] at hf
      | callD f first cap ds vs r hf => simp [SOp.toD] at hf
      | callM f pre post d s0 cs cs' r hf => simp [SOp.toD] at hf
  all_goals exact h
theorem allSome_get {α : Type} : ∀ {l : List (Option α)} {r : List α}, allSome l = some r → r.length = l.length ∧ ∀ (i : Nat) x, l[i]? = some x → ∃ y, x = some y ∧ r[i]? = some y
  | [], r, h => by cases h; simp
  | none :: l, r, h => by cases h
  | some x :: l, r, h => by
    simp only [allSome, Option.map_eq_some_iff] at h
    obtain ⟨r', h1, rfl⟩ := h
    obtain ⟨h2, h3⟩ := allSome_get h1
    refine ⟨by simp [h2], fun i y hy => ?_⟩
    cases i with
    | zero => simp at hy; subst hy; exact ⟨x, rfl, rfl⟩
    | succ i => simp at hy; simpa using h3 i y (by simpa using hy)
theorem clean_none (ss : List Nat) : ∀ (ρ : List (Nat × D)) (t : Nat), t ∈ ss → ∀ k d, look (ss.foldl (fun ρ s => killR s ρ) ρ) k = some d → d.ment t = false := by
  have keep : ∀ (ss : List Nat) (ρ : List (Nat × D)) (t : Nat), (∀ k d, look ρ k = some d → d.ment t = false) → ∀ k d, look (ss.foldl (fun ρ s => killR s ρ) ρ) k = some d → d.ment t = false := by
    intro ss
    induction ss with
    | nil => intro ρ t h; exact h
    | cons s ss ih =>
      intro ρ t h
      refine ih (killR s ρ) t fun k d hk => ?_
      rw [look_killR, Option.map_eq_some_iff] at hk
      obtain ⟨e, he, rfl⟩ := hk
      unfold killD
      split
      · rfl
      · exact h k e he
  induction ss with
  | nil => intro ρ t ht; cases ht
  | cons s ss ih =>
    intro ρ t ht k d hk
    rcases List.mem_cons.1 ht with rfl | ht
    · refine keep ss (killR t ρ) t (fun k d hk => ?_) k d hk
      rw [look_killR, Option.map_eq_some_iff] at hk
      obtain ⟨e, he, rfl⟩ := hk
      unfold killD
      split
      · rfl
      · rename_i hm; simpa using hm
    · exact ih _ t ht k d hk
/-- What the model is asked behind a piece of code that sets slots of D alone. -/
def liftF (w0 : World) (U E : Nat → Prop) (nt : Nat) (D : Nat → Prop) (a0 : Act) (Q : Exit → St → Prop) : Exit → Act → World → Prop := fun e a w => (∃ st, RelX w0 U E nt st a w ∧ Q e st) ∧ Frm D a0 a
theorem compR_sound {ad : Ad} {id : Nat} {ops : Array Oper} {draw : Bool} {live : List Nat} {sc : SC} {Q : Exit → St → Prop} {D : Nat → Prop} {a0 : Act} (hc : compR P ad nt ops draw live = some sc) (h : sc.wp P Q st) (hr : RelX w0 U E nt st a w)
    (hD : ∀ o ∈ ops.toList, ∀ t, o.dst = some t → D t) (hf : Frm D a0 a) : (Code.region id ops draw).wp P (liftF w0 U E nt D a0 Q) a w := by
      simp only [compR, Option.bind_eq_some_iff] at hc
      obtain ⟨ss, hss, hc⟩ := hc
      split at hc
      · rename_i hd
        subst hd
        obtain ⟨hl, hget⟩ := allSome_get hss
        have hss0 : ∀ (i : Nat) o, ops[i]? = some o → ∃ s0, cSOp P nt ⟨false, [], false⟩ ops o = some s0 ∧ ss[i]? = some s0 := fun i o ho => by
          obtain ⟨y, h1, h2⟩ := hget i (cSOp P nt ⟨false, [], false⟩ ops o) (by simp [ho]; rfl)
          exact ⟨y, h1, h2⟩
        have main : ∀ ss' : List SOp, (∀ (i : Nat) o, ops[i]? = some o → ∃ s s0, ss'[i]? = some s ∧ cSOp P nt ⟨false, [], false⟩ ops o = some s0 ∧ ∀ st st', GStep P s st st' → GStep P s0 st st') → drawOk P ops ss' = true → (SC.dreg ss' (pairsOf ss' (clos ops)) live).wp P Q st →
            (Code.region id ops true).wp P (liftF w0 U E nt D a0 Q) a w := by
          intro ss' hss1 hok h
          simp only [drawOk, Bool.and_eq_true, beq_iff_eq] at hok
          obtain ⟨⟨⟨⟨hm, hsel⟩, hlen⟩, hlex⟩, hdist⟩ := hok
          have hdn := distNew_of hdist
          have hcl : CleanFor ss' (Array.replicate ops.size false) (st.clean (ss'.flatMap dsite)) := by
            intro i s t _ hi hn ht k d hk
            refine clean_none _ st.ρ t ?_ k d hk
            refine List.mem_flatMap.2 ⟨s, List.mem_of_getElem? hi, ?_⟩
            unfold dsite
            rw [ht]
            cases hso : s.so <;> rw [hso] at hn <;> simp [isNew] at hn <;> simp
          simp only [SC.wp] at h
          split at h
          case h_2 => exact h.elim
          rename_i hchk
          have hany : AnyS P ops ss' (fun st => ∃ st1, Q .normal (st1.keep live) ∧ Eqv st1 st) ops.size (Array.replicate ops.size false) (st.clean (ss'.flatMap dsite)) := by
            have := AnyS.checked (P := P) (ops := ops) (ss := ss') (prs := pairsOf ss' (clos ops)) (Fin := fun st => ∃ st1, Q .normal (st1.keep live) ∧ Eqv st1 st) (fun s1 s2 he hf => by obtain ⟨s3, h1, h2⟩ := hf; exact ⟨s3, h1, h2.trans he⟩) (fun i o ho => let ⟨s, _, h2, _⟩ := hss1 i o ho; ⟨s, h2⟩) hdn
              (listed := Array.replicate ops.size false) (by rw [hlen]; exact hlex) hcl (fun k o hk => by
                exfalso
                rw [Array.getD_eq_getD_getElem?, Array.getElem?_replicate] at hk
                split at hk <;> cases hk) hchk (opsWP_mono (fun st' h' => by exact ⟨st', keepK_iff.1 h', Eqv.refl _⟩) h)
            rwa [hlen] at this
          refine wp_region_any hm ?_
          have hr2 : RelX w0 U E nt (st.clean (ss'.flatMap dsite)) a { w with drawn := w.drawn + 1 } := by
            obtain ⟨η, hr⟩ := hr.clean (ss'.flatMap dsite)
            exact ⟨η, hr.below ((Below.refl _ w).drew)⟩
          exact AnyS.sound hss1 (fun st1 a1 w1 hfin hr1 hf1 => by obtain ⟨st2, h1, h2⟩ := hfin; exact ⟨⟨st2.keep live, (hr1.eqv h2.symm).keep live, h1⟩, hf1⟩) (fun i o ho => hD o (Array.mem_toList_iff.2 (Array.mem_of_getElem? ho))) _ _ _ _ _ hany hr2 hf
        split at hc
        · rename_i hok
          cases hc
          exact main ss (fun i o ho => let ⟨s0, h1, h2⟩ := hss0 i o ho; ⟨s0, s0, h2, h1, fun _ _ h => h⟩) (by simp only [Bool.and_eq_true] at hok; exact hok.2) h
        · split at hc <;> cases hc
          case isTrue.isFalse.isFalse.refl => exact h.elim
          rename_i hok
          exact main (ss.map SOp.toD) (fun i o ho => let ⟨s0, h1, h2⟩ := hss0 i o ho; ⟨s0.toD, s0, by simp [h2], h1, fun _ _ => toD_gstep⟩) hok h
      · rename_i hd
        cases hc
        have : draw = false := by simpa using hd
        subst this
        refine wp_region_list ?_
        exact ops_sound (fun st1 a1 w1 h1 hr1 hf1 => ⟨⟨_, hr1.keep live, keepK_iff.1 h1⟩, hf1⟩) ops.toList ss st a w [] hss h hr hD hf
/-- The world as it is serves as the one that the call found: the objects are out of reach. -/
theorem Rel.rebase (h : Rel w0 U E nt st a w η) : Rel w U (fun _ => False) nt ⟨st.ρ, []⟩ a w η where
  size := h.size
  defers := h.defers
  keeps := ⟨rfl, rfl, rfl, Nat.le_refl _, fun _ _ _ => rfl, fun _ _ => rfl⟩
  uold b hb := ⟨Nat.lt_of_lt_of_le (h.uold b hb).1 h.keeps.size, fun h => h⟩
  slots t d ht := by
    obtain ⟨h1, h2⟩ := h.slots t d ht
    refine ⟨h1, ?_⟩
    generalize a.tmps.getD t undef = u at h2
    cases h2 with
    | v x u h' => exact .v x _ (h'.mono fun b hb => ⟨⟨hb.1, hb.2.1, fun s cs o h => by cases h⟩, rfl⟩)
    | ref s off b o h' => exact .ref s off b o h'
    | own0 s z off a => exact .own0 s z off a
    | own s z off len b o cap h' hl hc => exact .own s z off len b o cap h' hl hc
    | dead u => exact .dead _
  objs s cs hs := by cases hs
  lies s cs b o h1 := by cases h1
  inj s s' cs cs' b o o' h1 := by cases h1
theorem Rel.merged {st2 : St} {a2 : Act} {w2 : World} {η2 : Eta} {ds : List Nat} (h : Rel w0 U E nt st a w η) (h2 : Rel w U (fun _ => False) nt st2 a2 w2 η2) (hf : Frm (· ∈ ds) a a2) : Rel w0 U E nt ⟨mergeR ds st.ρ st2.ρ, st.objs⟩ a2 w2 η := by
  have hb : Below w.heap.size w w2 := ⟨h2.keeps.os, h2.keeps.tape, h2.keeps.output, h2.keeps.size, fun k hk => h2.keeps.block k hk (fun h => h)⟩
  have h' := h.below hb
  refine ⟨h2.size, h2.defers, h'.keeps, h'.uold, fun t d ht => ?_, h'.objs, h'.lies, h'.inj⟩
  rcases look_mergeR ht with ⟨v, hv, h3, rfl⟩ | ⟨h3, h4⟩
  · obtain ⟨h5, h6⟩ := h2.slots t _ h3
    cases h6 with | v _ _ h6 =>
    exact ⟨h5, .v _ _ (flat1_rep h6 hv)⟩
  · obtain ⟨h5, h6⟩ := h'.slots t d h3
    refine ⟨h5, ?_⟩
    rw [hf t h4]
    exact h6
theorem dstsOf_mem {ops : Array Oper} {o : Oper} (ho : o ∈ ops.toList) {t : Nat} (h : o.dst = some t) : t ∈ dstsOf ops := List.mem_filterMap.2 ⟨o, ho, h⟩
theorem compile_sound {ad : Ad} : ∀ (n : Nat) (c : Code), SizeOf.sizeOf c ≤ n → ∀ (hs hs' : List (List Nat)) (sc : SC) (Q : Exit → St → Prop) (st : St) (a : Act) (w : World), compile P ad nt c hs = some (sc, hs') → sc.wp P Q st → RelX w0 U E nt st a w → c.wp P (lift w0 U E nt Q) a w := by
  intro n
  induction n with
  | zero => intro c hn; cases c <;> simp at hn
  | succ n ih =>
  intro c hn
  cases c with
  | skip => intro hs hs' sc Q st a w hc h hr; simp only [compile] at hc; cases hc; exact wp_skip ⟨st, hr, h⟩
  | ret => intro hs hs' sc Q st a w hc h hr; simp only [compile] at hc; cases hc; exact wp_ret ⟨st, hr, h⟩
  | exit id => intro hs hs' sc Q st a w hc h hr; simp only [compile] at hc; cases hc; exact wp_exit ⟨st, hr, h⟩
  | region id ops draw =>
    intro hs hs' sc Q st a w hc h hr
    cases hs with
    | nil => simp [compile] at hc
    | cons live hs =>
      simp only [compile, Option.map_eq_some_iff] at hc
      obtain ⟨x, hx, hc⟩ := hc
      cases hc
      exact wp_mono (compR_sound (D := fun _ => True) (a0 := a) hx h hr (fun _ _ _ _ => trivial) (Frm.refl _ _)) fun e a1 w1 h1 => h1.1
  | seq x y =>
    have ihx := ih x (by simp at hn; omega)
    have ihy := ih y (by simp at hn; omega)
    intro hs hs' sc Q st a w hc h hr
    unfold compile at hc
    split at hc
    case h_7 =>
      rename_i i1 ops1 d1 i2 ops2 d2 z l1 l2 hs1 heq
      cases heq
      have ihz := ih z (by simp at hn; omega)
      simp only [Option.bind_eq_some_iff, Option.map_eq_some_iff] at hc
      obtain ⟨x', hx, y', hy, ⟨z', hs2⟩, hz, hc⟩ := hc
      cases hc
      have hm1 : ∀ o ∈ ops1.toList, ∀ t, o.dst = some t → t ∈ dstsOf ops1 ++ dstsOf ops2 := fun o ho t ht => List.mem_append_left _ (dstsOf_mem ho ht)
      have hm2 : ∀ o ∈ ops2.toList, ∀ t, o.dst = some t → t ∈ dstsOf ops1 ++ dstsOf ops2 := fun o ho t ht => List.mem_append_right _ (dstsOf_mem ho ht)
      generalize dstsOf ops1 ++ dstsOf ops2 = ds at h hm1 hm2
      have hF := hr.freezeL (st.objs.map (·.1))
      obtain ⟨η, h0⟩ := hr
      obtain ⟨ηF, h1⟩ := hF
      simp only [SC.wp] at h
      have h := (forceR_iff (K := fun ρ => x'.wp P (thenQ (fun st' => y'.wp P (thawQ ds st (thenQ (fun st' => z'.wp P Q st') Q)) st') (thawQ ds st (thenQ (fun st' => z'.wp P Q st') Q))) ⟨ρ, []⟩)).1 h
      refine wp_seq (wp_mono (compR_sound (w0 := w) (U := U) (E := fun _ => False) (D := (· ∈ ds)) (a0 := a) hx h ⟨ηF, h1.rebase⟩ hm1 (Frm.refl _ _)) fun e a1 w1 ⟨⟨st1, hr1, hq1⟩, hf1⟩ => ?_)
      cases e with
      | normal =>
        refine wp_seq (wp_mono (compR_sound (w0 := w) (U := U) (E := fun _ => False) (D := (· ∈ ds)) (a0 := a) hy hq1 hr1 hm2 hf1) fun e a2 w2 ⟨⟨st2, ⟨η2, hr2⟩, hq2⟩, hf2⟩ => ?_)
        cases e with
        | normal => exact ihz _ _ _ _ _ a2 w2 hz (mergeK_iff.1 hq2) ⟨η, h0.merged hr2 hf2⟩
        | _ => exact hq2.elim
      | _ => exact hq1.elim
    case h_8 =>
      rename_i heq _
      cases heq
      simp only [Option.bind_eq_some_iff, Option.map_eq_some_iff] at hc
      obtain ⟨⟨x', hs1⟩, hx, ⟨y', hs2⟩, hy, hc⟩ := hc
      cases hc
      refine wp_seq (wp_mono (ihx _ _ _ _ st a w hx h hr) fun e a1 w1 ⟨st1, hr1, hq⟩ => ?_)
      cases e with
      | normal => exact ihy _ _ _ _ st1 a1 w1 hy hq hr1
      | _ => exact ⟨st1, hr1, hq⟩
    case h_12 => simp_all
    all_goals (rename_i heq; cases heq)
  | cond c x y =>
    have ihx := ih x (by simp at hn; omega)
    have ihy := ih y (by simp at hn; omega)
    intro hs hs' sc Q st a w hc h hr
    simp only [compile, Option.bind_eq_some_iff, Option.map_eq_some_iff] at hc
    obtain ⟨c', hcc, ⟨x', hs1⟩, hx, ⟨y', hs2⟩, hy, hc⟩ := hc
    cases hc
    simp only [SC.wp] at h
    split at h
    · rename_i p hp
      obtain ⟨η, hr'⟩ := hr
      have hrep := Opd.rep hr' hcc hp
      generalize hv : a.eval c = v at hrep
      cases hrep with | v _ _ hrep =>
      cases hrep
      have h := h.get
      cases p
      · exact wp_cond_false hv (ihy _ _ _ _ st a w hy h ⟨η, hr'⟩)
      · exact wp_cond_true hv (ihx _ _ _ _ st a w hx h ⟨η, hr'⟩)
    · exact h.elim
  | block id x =>
    have ih := ih x (by simp at hn; omega)
    intro hs hs' sc Q st a w hc h hr
    simp only [compile, Option.map_eq_some_iff] at hc
    obtain ⟨⟨x', hs1⟩, hx, hc⟩ := hc
    cases hc
    refine wp_block (wp_mono (ih _ _ _ _ st a w hx h hr) fun e a1 w1 ⟨st1, hr1, hq⟩ => ?_)
    cases e with
    | exit id' =>
      unfold inBlockQ at hq
      by_cases hi : id' = id
      · simp only [hi, if_true] at hq
        simp only [Exit.inBlock, hi, if_true]
        exact ⟨st1, hr1, hq⟩
      · simp only [hi, if_false] at hq
        simp only [Exit.inBlock, hi, if_false]
        exact ⟨st1, hr1, hq⟩
    | _ => exact ⟨st1, hr1, hq⟩
  | loop x =>
    have ih := ih x (by simp at hn; omega)
    intro hs hs' sc Q st a w hc h hr
    cases hs with
    | nil => simp [compile] at hc
    | cons live hs =>
      simp only [compile, Option.map_eq_some_iff] at hc
      obtain ⟨⟨x', hs1⟩, hx, hc⟩ := hc
      cases hc
      refine LoopSem.wp ?_
      obtain ⟨h⟩ := keepK_iff.1 h
      refine h (fun s => ∀ a w, RelX w0 U E nt s a w → LoopSem P x (lift w0 U E nt Q) a w) (fun s hs a1 w1 hr1 => ?_) a w (hr.keep live)
      refine LoopSem.unroll (wp_mono (ih _ _ _ _ s a1 w1 hx hs hr1) fun e a2 w2 ⟨st2, hr2, hq⟩ => ?_)
      cases e with
      | normal => exact (keepK_iff (K := fun s => ∀ a w, RelX w0 U E nt s a w → LoopSem P x (lift w0 U E nt Q) a w)).1 hq a2 w2 (hr2.keep live)
      | _ => exact ⟨st2, hr2, hq⟩
  | _ => intro hs hs' sc Q st a w hc h hr; cases hs <;> (simp only [compile, Option.some.injEq, Prod.mk.injEq] at hc; obtain ⟨rfl, _⟩ := hc; exact h.elim)

/-! ### A function -/
end
inductive CR where
  | tm (t : Nat)
  | cell (t : Nat) (g : Bool) (z : Nat)
def cRes1 (P : Program) : ResultVar → Option CR
  | .tmp t => some (.tm t)
  | .cell t ty => match aggOf P ty, szOf P ty with
    | some g, some (z + 1) => some (.cell t g (z + 1))
    | _, _ => none
def res1 (st : St) : CR → Option V
  | .tm t => (look st.ρ t).bind (snapV st.objs)
  | .cell t g z => (look st.ρ t).bind fun d => ((deref st.objs d).bind (ldD g z)).bind fun
    | .v x => some x
    | _ => none
def resL (st : St) : List CR → Option (List V)
  | [] => some []
  | c :: cs => match res1 st c, resL st cs with
    | some v, some vs => some (v :: vs)
    | _, _ => none
/-- What a function hands back in a state. -/
def resV (st : St) (cs : List CR) : Option V := match resL st cs with
  | some [v] => some v
  | some vs => some (.tup vs)
  | none => none
theorem resV_eq (st : St) (cs : List CR) : resV st cs = (resL st cs).map fun
  | [v] => v
  | vs => .tup vs := by
  unfold resV
  cases resL st cs with
  | none => rfl
  | some vs => match vs with
    | [] => rfl
    | [v] => rfl
    | v :: v' :: vs => rfl
def initR : Nat → List V → List (Nat × D)
  | _, [] => []
  | n, v :: vs => (n, .v v) :: initR (n + 1) vs
def endQ (rs : List CR) (r : V) : Exit → St → Prop
  | .normal, st | .ret, st => resV st rs = some r
  | _, _ => False
/-- A function of the program, put for what it does. -/
structure Fn1 where
  nt : Nat
  sc : SC
  rs : List CR
def Fn1.of (P : Program) (f : FuncId) (ad : Ad) (hs : List (List Nat)) : Option Fn1 :=
  match P.funcs[f]? with
  | some fn => match fn.body with
    | some c => match compile P ad fn.ntmps c hs, allSome (fn.results.toList.map (cRes1 P)) with
      | some (sc, []), some rs => if fn.name == "runtime.NumGoroutine" then none else some ⟨fn.ntmps, sc, rs⟩
      | _, _ => none
    | none => none
  | none => none
section
variable {P : Program} {w w0 w' : World} {U E : Nat → Prop} {nt : Nat} {st st' : St} {a : Act} {η : Eta} {ok : Nat → Prop}
theorem look_initR : ∀ (vs : List V) (n t : Nat) (d : D), look (initR n vs) t = some d → n ≤ t ∧ ∃ v, vs[t - n]? = some v ∧ d = .v v
  | [], n, t, d, h => by cases h
  | v :: vs, n, t, d, h => by
    simp only [initR, look] at h
    split at h
    · rename_i ht; subst ht; cases h; exact ⟨Nat.le_refl _, v, by simp, rfl⟩
    · rename_i ht
      obtain ⟨h1, v', h2, h3⟩ := look_initR vs (n + 1) t d h
      refine ⟨by omega, v', ?_, h3⟩
      rw [show t - n = (t - (n + 1)) + 1 by omega]
      simpa using h2
/-- One result, as the model reads it. -/
def resOne (tmps : Array Value) : ResultVar → Sem Value
  | .tmp t => pure (tmps.getD t undef)
  | .cell b t => do loadVar t (← asAddr (tmps.getD b undef))
theorem results_eq (fn : Func) (tmps : Array Value) : results fn tmps = (do let vs ← fn.results.mapM (resOne tmps); pure (if h : vs.size = 1 then vs[0] else .tuple vs)) := rfl
theorem res1_run (hr : Rel w0 U E nt st a w η) {c : ResultVar} {c' : CR} {v : V} (hc : cRes1 P c = some c') (h : res1 st c' = some v) :
    ∃ u, (resOne a.tmps c).run P w = .ok u w ∧ RepV w (fun b => b < w.heap.size ∧ ¬ U b) v u := by
  cases c with
  | tmp t =>
    cases hc
    simp only [res1, Option.bind_eq_some_iff] at h
    obtain ⟨d, hd, h⟩ := h
    exact ⟨_, rfl, snap_rep hr (hr.slots t d hd).2 h⟩
  | cell t ty =>
    simp only [cRes1] at hc
    split at hc <;> cases hc
    rename_i g z hg hz
    simp only [res1, Option.bind_eq_some_iff] at h
    obtain ⟨d, hd, e, he, h⟩ := h
    split at h <;> cases h
    have hrd := (hr.slots t d hd).2
    obtain ⟨u, h1, h2⟩ := ld_sound (P := P) hr hrd (by simpa only [Option.bind_eq_some_iff] using he) hg hz (by omega)
    cases h2 with | v _ _ h2 =>
    have hp : ∃ b o, a.tmps.getD t undef = .pointer (some ⟨b, o, none⟩) := by
      obtain ⟨cs, hcs, hld⟩ := he
      have hne : cs ≠ [] := by
        rintro rfl
        unfold ldD at hld
        split at hld <;> simp at hld
      obtain ⟨b, o, hb, _⟩ := deref_lies hr hrd hcs hne
      exact ⟨b, o, hb⟩
    obtain ⟨b, o, hb⟩ := hp
    rw [hb] at h1
    refine ⟨u, by simpa [Instr.loadAt, Instr.sureAddr, asAddr, resOne, hb] using h1, h2.mono fun b hb => ⟨⟨hb.1, hb.2.1⟩, rfl⟩⟩
theorem resL_run (hr : Rel w0 U E nt st a w η) : ∀ {cs : List ResultVar} {cs' : List CR} {vs : List V}, allSome (cs.map (cRes1 P)) = some cs' → resL st cs' = some vs →
    ∃ us, (cs.mapM (resOne a.tmps)).run P w = .ok us w ∧ RepL w (fun b => b < w.heap.size ∧ ¬ U b) vs us
  | [], cs', vs, hc, h => by cases hc; cases h; exact ⟨[], by simp, .nil⟩
  | c :: cs, cs', vs, hc, h => by
    simp only [List.map_cons] at hc
    cases h1 : cRes1 P c with
    | none => simp [h1, allSome] at hc
    | some c' =>
      simp only [h1, allSome, Option.map_eq_some_iff] at hc
      obtain ⟨cs'', hc, rfl⟩ := hc
      unfold resL at h
      split at h <;> cases h
      rename_i v vs' g1 g2
      obtain ⟨u, k1, k2⟩ := res1_run (P := P) hr h1 g1
      obtain ⟨us, k3, k4⟩ := resL_run hr hc g2
      refine ⟨u :: us, ?_, .cons k2 k4⟩
      rw [List.mapM_cons]
      simp only [Sem.run_bind]
      rw [k1]
      simp only [Result.andThen_ok, k3, Sem.run_pure]
theorem resV_run (hr : Rel w0 U E nt st a w η) {fn : Func} {cs' : List CR} {v : V} (hc : allSome (fn.results.toList.map (cRes1 P)) = some cs') (h : resV st cs' = some v) :
    ∃ u, (results fn a.tmps).run P w = .ok u w ∧ RepV w (fun b => b < w.heap.size ∧ ¬ U b) v u := by
  simp only [resV_eq, Option.map_eq_some_iff] at h
  obtain ⟨vs, hv, h⟩ := h
  obtain ⟨us, h1, h2⟩ := resL_run (P := P) hr hc hv
  have hrun : (results fn a.tmps).run P w = .ok (if h : us.toArray.size = 1 then us.toArray[0] else .tuple us.toArray) w := by
    rw [results_eq, Array.mapM_eq_mapM_toList]
    simp only [Sem.run_bind, Sem.run_map, h1, Result.andThen_ok, Sem.run_pure]
  refine ⟨_, hrun, ?_⟩
  subst h
  match vs, h2 with
  | [], h2 => have : us = [] := by have := h2.1; simpa using this
              subst this; simpa using h2.tup
  | [v], h2 => obtain ⟨u, rfl, hr⟩ := h2.one; simpa using hr
  | v1 :: v2 :: vs, h2 =>
    have : us.length ≠ 1 := by rw [h2.1]; simp
    rw [dif_neg (by simpa using this)]
    exact h2.tup
/-- What is shown of the body is known of each call. -/
theorem pure_of_wp {f : FuncId} {ad : Ad} {hs : List (List Nat)} {F : Fn1} {args : List V} {r : V} (hF : Fn1.of P f ad hs = some F) (hn : args.length ≤ F.nt) (h : F.sc.wp P (endQ F.rs r) ⟨initR 0 args, []⟩) : Pure P f args r := by
  unfold Fn1.of at hF
  split at hF
  case h_2 => cases hF
  rename_i fn hfn
  split at hF
  case h_2 => cases hF
  rename_i c hb
  split at hF
  case h_2 => cases hF
  rename_i sc rs hc hrs
  split at hF
  · cases hF
  rename_i hname
  cases hF
  simp only at hn h
  intro w U us hU hus
  unfold CallOk
  have hcf : (callFunc f us.toArray).run P w = .ok (.enter f us.toArray) w := by
    simp only [callFunc, Sem.run_bind, run_program, Result.andThen_ok, hfn]
    rw [if_neg hname]
    simp [hb]
  rw [hcf]
  refine ⟨rfl, rfl, rfl, calls_of_wp hfn hb ?_⟩
  have hsz : (us.toArray ++ Array.replicate (fn.ntmps - us.toArray.size) undef).size = fn.ntmps := by
    have := hus.1
    simp; omega
  have hrel : Rel w U (fun _ => False) fn.ntmps ⟨initR 0 args, []⟩ { tmps := us.toArray ++ Array.replicate (fn.ntmps - us.toArray.size) undef, defers := [] } w (fun _ => none) := by
    refine ⟨hsz, rfl, ⟨rfl, rfl, rfl, Nat.le_refl _, fun _ _ _ => rfl, fun _ _ => rfl⟩, fun b hb => ⟨hU b hb, fun h => h⟩, fun t d ht => ?_, fun s cs hs => (by cases hs), fun s cs b o h1 => (by cases h1), fun s s' cs cs' b o o' h1 => (by cases h1)⟩
    obtain ⟨_, v, hv, rfl⟩ := look_initR args 0 t d ht
    simp only [Nat.sub_zero] at hv
    obtain ⟨u, hu, hr⟩ := hus.2 t v hv
    have hlt : t < us.length := (List.getElem?_eq_some_iff.1 hu).1
    refine ⟨by have := hus.1; omega, .v _ _ ?_⟩
    have : (us.toArray ++ Array.replicate (fn.ntmps - us.toArray.size) undef).getD t undef = u := by
      rw [Array.getD_eq_getD_getElem?, Array.getElem?_append_left (by simpa using hlt)]
      simp [hu]
    rw [this]
    exact hr.mono fun b hb => ⟨⟨hb.1, hb.2, fun s cs o h1 => (by cases h1)⟩, rfl⟩
  have hw := compile_sound (w0 := w) (U := U) (E := fun _ => False) _ c (Nat.le_refl _) hs [] sc _ _ _ _ hc h ⟨_, hrel⟩
  refine wp_mono hw fun e a1 w1 ⟨st1, ⟨η, hr1⟩, hq⟩ => ?_
  have fin : resV st1 rs = some r → a1.defers = [] ∧ ∃ v, (results fn a1.tmps).run P w1 = .ok v w1 ∧ ∃ u, Ending.returned v = .returned u ∧ RepV w1 (fun b => b < w1.heap.size ∧ ¬ U b) r u ∧ Below w.heap.size w w1 := fun hres => by
    obtain ⟨u, h1, h2⟩ := resV_run (P := P) hr1 hrs hres
    exact ⟨hr1.defers, u, h1, u, rfl, h2, ⟨hr1.keeps.os, hr1.keeps.tape, hr1.keeps.output, hr1.keeps.size, fun k hk => hr1.keeps.block k hk (fun h => h)⟩⟩
  cases e <;> first | exact fin hq | exact hq.elim
/-- At a function's end. -/
theorem endV {rs : List CR} {e x : V} (h : resV st rs = some e) (he : e = x) : resV st rs = some x := by rw [h, he]
end
end Go.Proofs.Ytdceakejbnolpaa.Sv
