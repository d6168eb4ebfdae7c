/- A statement's row from what is known of its function's calls. No condition. -/
import Derived.Test.YtdceakejbnolpaaSv22
import Derived.Carry
import Derived.OpenShut
import Derived.SizedLaws
namespace Go.Proofs.Ytdceakejbnolpaa.Sv
open Go Go.RowKit Go.ChangeShapes
set_option linter.unusedVariables false
set_option linter.unusedSimpArgs false

/-- The arguments, one behind the other. -/
def Ty.ofArgs (P : Program) (m : Nat) : List TypeId → Option Ty
  | [] => some .nil
  | t :: ts => match Ty.of P m t, Ty.ofArgs P m ts with
    | some A, some C => some (.pair A C)
    | _, _ => none
def Ty.vals : (t : Ty) → t.T → List V
  | .pair a c, x => a.val x.1 :: c.vals x.2
  | _, _ => []
section
variable {H : Type} {enc : TypeId × Value → H} {P : Program} {W : World} {sp : Nat → Bool} {held : Bool}
theorem ofFields_agg {of : TypeId → Option Ty} : ∀ {fs : List Field} {off : Nat} {T : Ty}, Ty.ofFields P of off fs = some T → ∀ a : T.T, T.val a = .agg (T.cells a)
  | [], off, T, h, a => by cases h; rfl
  | f :: fs, off, T, h, a => by
    unfold Ty.ofFields at h
    split at h
    · split at h
      · simp only [Option.map_eq_some_iff] at h
        obtain ⟨C, _, rfl⟩ := h
        rfl
      · cases h
    · cases h
theorem val_rep {m : Nat} {t : TypeId} {T : Ty} {v : Value} {d : DataW H} {ps : List MemPlace} {r : Reach} {b0 : Nat} (hT : Ty.of P m t = some T) (hsp : ∀ b, sp b = true) (hv : Value.okWide P W r b0 t v)
    (h : DataW.Trod enc P W 0 sp held t v d ps) (hw : (d.weights P t).all (· ≤ reachBytes) = true) : ∃ a : T.T, T.inn a ∧ RepV W (fun b => b < W.heap.size) (T.val a) v := by
  obtain ⟨fuel, h⟩ := h
  obtain ⟨a, ha, hr⟩ := trod_ty hsp m t T hT fuel _ _ h hw
  refine ⟨a, ha, ?_⟩
  cases m with
  | zero => cases hT
  | succ m =>
  unfold Ty.of at hT
  unfold Value.okWide at hv
  have one : ∀ {x : V}, RepL W (fun b => b < W.heap.size) [x] [v] → RepV W (fun b => b < W.heap.size) x v := fun h => by
    obtain ⟨u, hu, hr⟩ := h.2 0 _ rfl
    cases hu; exact hr
  split at hT <;> rename_i ht
  · cases hT
    rw [ht] at hv
    simp only [Cell.okWide, ht, Cell.ok] at hv
    split at hv <;> first | (exact one hr) | (exact hv.elim) | (simp_all; done)
  · cases hT
    rw [ht] at hv
    simp only [Cell.okWide, ht, Cell.ok] at hv
    split at hv <;> first | (exact one hr) | (exact hv.elim) | (simp_all; done)
  · cases hT
    rw [ht] at hv
    simp only [Cell.okWide, ht, Cell.ok] at hv
    split at hv <;> first | (exact one hr) | (exact hv.elim) | (simp_all; done)
  · rename_i e
    split at hT
    case h_2 => cases hT
    split at hT <;> cases hT
    rw [ht] at hv
    simp only [Cell.okWide, ht, Cell.ok] at hv
    split at hv <;> first | (exact one hr) | (exact hv.elim) | (simp_all; done)
  · rename_i fs
    split at hT
    case h_2 => cases hT
    rename_i A hA
    split at hT <;> cases hT
    rw [ht] at hv
    obtain ⟨cs, rfl, _⟩ := hv
    rw [ofFields_agg hA]
    exact RepL.agg hr
  · split at hT
    case h_2 => cases hT
    split at hT <;> cases hT
    rw [ht] at hv
    obtain ⟨cs, rfl, _⟩ := hv
    exact RepL.agg hr
  · cases hT
theorem args_rep {m : Nat} {r : Reach} {b0 : Nat} (hsp : ∀ b, sp b = true) : ∀ {ts : List TypeId} {T : Ty} {vs : List Value} {ds : List (DataW H)} {ps : List MemPlace}, Ty.ofArgs P m ts = some T →
    (∀ (j : Nat) t v, ts[j]? = some t → vs[j]? = some v → Value.okWide P W r b0 t v) → DataW.TrodAll enc P W 0 sp held ts vs ds ps → (DataW.weightsEach P ts ds).all (· ≤ reachBytes) = true →
    ∃ a : T.T, T.inn a ∧ RepL W (fun b => b < W.heap.size) (T.vals a) vs
  | [], T, vs, ds, ps, hT, hv, h, hw => by
    cases hT
    obtain ⟨rfl, rfl, rfl⟩ := trodAll_nil h
    exact ⟨(), trivial, .nil⟩
  | t :: ts, T, vs, ds, ps, hT, hv, h, hw => by
    unfold Ty.ofArgs at hT
    split at hT <;> cases hT
    rename_i A C hA hC
    obtain ⟨v, vs', d, ds', p, q, rfl, rfl, rfl, h1, h2⟩ := trodAll_cons h
    simp only [DataW.weightsEach, List.all_append, Bool.and_eq_true] at hw
    obtain ⟨a, ha, hra⟩ := val_rep hA hsp (hv 0 t v rfl rfl) h1 hw.1
    obtain ⟨c, hc, hrc⟩ := args_rep hsp hC (fun j t v h1 h2 => hv (j + 1) t v (by simpa using h1) (by simpa using h2)) h2 hw.2
    exact ⟨(a, c), ⟨ha, hc⟩, .cons hra hrc⟩
theorem trodAll_len : ∀ {ts : List TypeId} {vs : List Value} {ds : List (DataW H)} {ps : List MemPlace}, DataW.TrodAll enc P W 0 sp held ts vs ds ps → ds.length = ts.length
  | [], vs, ds, ps, h => by obtain ⟨rfl, rfl, rfl⟩ := trodAll_nil h; rfl
  | t :: ts, vs, ds, ps, h => by
    obtain ⟨v, vs', d, ds', p, q, rfl, rfl, rfl, h1, h2⟩ := trodAll_cons h
    simp [trodAll_len h2]
theorem weightsEach_cut : ∀ {ts ts' : List TypeId} {ds : List (DataW H)}, ds.length = ts.length → DataW.weightsEach P (ts ++ ts') ds = DataW.weightsEach P ts ds
  | [], ts', ds, h => by obtain rfl : ds = [] := List.length_eq_zero_iff.1 h; cases ts' <;> rfl
  | t :: ts, ts', [], h => by simp at h
  | t :: ts, ts', d :: ds, h => by simp only [List.cons_append, DataW.weightsEach, weightsEach_cut (by simpa using h)]
/-- Arguments read behind the call as they did ahead of it. -/
theorem args_stay (hl : laidOutB P = true) {W' : World} (hb : Below W.heap.size W W') : ∀ {ts : List TypeId} {vs : List Value} {ds : List (DataW H)} {ps : List MemPlace},
    ts.all (fun t => P.readableRec t && decide (t < P.types.size)) = true → DataW.TrodAll enc P W 0 (fun _ => true) true ts vs ds ps → DataW.TrodAll enc P W' 0 (fun b => decide (b < W.heap.size)) true ts vs ds ps
  | [], vs, ds, ps, _, h => by obtain ⟨rfl, rfl, rfl⟩ := trodAll_nil h; exact rfl
  | t :: ts, vs, ds, ps, hr, h => by
    have hlt := h.lt
    obtain ⟨v, vs', d, ds', p, q, rfl, rfl, rfl, h1, h2⟩ := trodAll_cons h
    simp only [List.all_cons, Bool.and_eq_true, decide_eq_true_eq] at hr
    exact ⟨p, q, Below.trod hl hr.1.1 hr.1.2 h1 hb fun x hx => hlt x (by simp [hx]), args_stay hl hb hr.2 h2, rfl⟩
/-- A function with a text is entered. -/
theorem callFunc_of {f : FuncId} {fn : Func} {ad : Ad} {hs : List (List Nat)} (hfn : P.funcs[f]? = some fn) (hF : (Fn1.of P f ad hs).isSome = true) (us : Array Value) (w : World) : (callFunc f us).run P w = .ok (.enter f us) w := by
  cases hF' : Fn1.of P f ad hs with
  | none => rw [hF'] at hF; cases hF
  | some F =>
  unfold Fn1.of at hF'
  rw [hfn] at hF'
  simp only at hF'
  split at hF'
  case h_2 => cases hF'
  rename_i c hb
  split at hF'
  case h_2 => cases hF'
  split at hF'
  · cases hF'
  rename_i hname
  simp only [callFunc, Sem.run_bind, run_program, Result.andThen_ok, hfn]
  rw [if_neg hname]
  simp [hb]
/-- A statement that says true of whatever comes in. -/
theorem contract_of_pure {f : FuncId} {fn : Func} {hs : List (List Nat)} {s : ChangeSpec} {args : Array Value} {ds gs : List (DataW H)} {before : List MemPlace} {T : Ty} {tb : TypeId}
    {ad : Ad} (hfn : P.funcs[f]? = some fn) (hF : (Fn1.of P f ad hs).isSome = true) (hl : laidOutB P = true) (hrec : fn.params.toList.all (fun t => P.readableRec t && decide (t < P.types.size)) = true)
    (hres : fn.resultTypes = #[tb]) (htb : P.underlying tb = some .bool) (hvars : s.vars = []) (hs' : ∀ ds : List (DataW H), ds.length = fn.params.toList.length → s.fn H ds = { results := [.lit (.bool true)], args := ds })
    (hT : Ty.ofArgs P 100 fn.params.toList = some T) (hp : ∀ a : T.T, T.inn a → Pure P f (T.vals a) (.b true))
    {base : Nat} (hval : ∀ (j : Nat) t v, fn.params[j]? = some t → args[j]? = some v → Value.okWide P W .any base t v)
    (hW : DataW.Whole enc P fn.params.toList s.vars false W args.toList ds gs before)
    (hsz : (DataW.weightsEach P (fn.params.toList ++ s.plain.varTypes P) (ds ++ gs)).all (· ≤ reachBytes) = true) :
    Calls P f args W fun e W' => ∃ v, e = .returned v ∧ s.post enc P fn false true false false W args v W' := by
  have hW0 := hW
  obtain ⟨p, q, hA, hV, rfl, hfz, hnd⟩ := hW
  rw [hvars] at hV
  obtain ⟨rfl, rfl⟩ := trodVars_none hV
  have hlen := trodAll_len hA
  rw [List.append_nil, weightsEach_cut hlen] at hsz
  obtain ⟨a, ha, hr⟩ := args_rep (fun _ => rfl) hT (fun j t v h1 h2 => hval j t v (by simpa using h1) (by simpa using h2)) hA hsz
  have hc := hp a ha W (fun _ => False) args.toList (fun b h => h.elim) (hr.mono fun b hb => ⟨⟨hb, fun h => h⟩, rfl⟩)
  unfold CallOk at hc
  rw [callFunc_of hfn hF] at hc
  obtain ⟨_, _, _, hc⟩ := hc
  rw [Array.toArray_toList] at hc
  refine hc.mono fun e W' ⟨u, he, hu, bel⟩ => ?_
  cases hu
  refine ⟨_, he, ds, [], p ++ [], [], p, [], hW0, ?_, ?_, ?_, bel.frame _, fun h => by cases h⟩
  · rw [List.append_nil, hs' ds hlen, hres]
    exact trodAll_mk1 (shut_bool htb _)
  · rw [List.append_nil, hs' ds hlen]
    exact args_stay hl bel hrec hA
  · rw [List.append_nil, hs' ds hlen, hvars]
    exact rfl
end
end Go.Proofs.Ytdceakejbnolpaa.Sv
