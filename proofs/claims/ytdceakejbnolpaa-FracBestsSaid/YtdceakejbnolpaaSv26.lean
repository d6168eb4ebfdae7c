/- Calls of functions that the model knows by an entry of its own. No condition. -/
import Derived.Test.YtdceakejbnolpaaSv25
import Derived.Laws.Externs
namespace Go.Proofs.Ytdceakejbnolpaa.Sv
open Go Go.RowKit
set_option linter.unusedVariables false
set_option linter.unusedSimpArgs false

theorem DecK.xor {p q : Prop} [Decidable p] [Decidable q] {K : Bool → Prop} (ht : ¬ (p ↔ q) → K true) (hf : (p ↔ q) → K false) : DecK (if true = true then !(decide p == decide q) else decide p == decide q) K :=
  .both (fun h => ht (by intro e; simp [decide_eq_decide.2 e] at h)) (fun h => hf (by
    simp only [if_true, Bool.not_eq_false', beq_iff_eq] at h
    exact decide_eq_decide.1 h))
theorem DecK.iff {p q : Prop} [Decidable p] [Decidable q] {K : Bool → Prop} (ht : (p ↔ q) → K true) (hf : ¬ (p ↔ q) → K false) : DecK (if false = true then !(decide p == decide q) else decide p == decide q) K :=
  .both (fun h => ht (by
    simp only [Bool.false_eq_true, if_false, beq_iff_eq] at h
    exact decide_eq_decide.1 h)) (fun h => hf (by intro e; simp [decide_eq_decide.2 e] at h))
theorem loop_eq {P : Program} {live : List Nat} {x : SC} {Q : Exit → St → Prop} {st st' : St} (e : st = st') (h : loopW P live x Q st') : loopW P live x Q st := e ▸ h
/-- Where a loop is left: a tells the state, but for slots at the end that nobody asks for; or the function returns. -/
inductive LeftAt {α : Type} (id : Nat) (S : α → List (Nat × D) → St) (I : α → Prop) (Q : Exit → St → Prop) (e : Exit) (st : St) : Prop
  | mk (a : α) (tail : List (Nat × D)) (he : e = .exit id) (hs : st = S a tail) (h : I a)
  | ret (he : e = .ret) (h : Q .ret st)
theorem loop_left {P : Program} {live : List Nat} {x : SC} {Q : Exit → St → Prop} {st : St} {α : Type} (id : Nat) (S : α → List (Nat × D) → St) (I : α → Prop) (h : loopW P live x (LeftAt id S I Q) st)
    (hX : ∀ a tail, I a → Q (.exit id) (S a tail)) : loopW P live x Q st := by
  obtain ⟨h⟩ := h
  refine ⟨fun J hJ => h J fun s hs => hJ s (SC.wp_mono x (thenQ_mono (fun _ h => h) fun e st h => ?_) hs)⟩
  rcases h with ⟨a, tail, rfl, rfl, hI⟩ | ⟨rfl, hq⟩
  · exact hX a tail hI
  · exact hq
theorem pure_of_extern {P : Program} {f : FuncId} {fn : Func} {e : Array Value → Sem Value} {args : List V} {r : V} (hf : P.funcs[f]? = some fn) (hname : (fn.name == "runtime.NumGoroutine") = false) (hb : fn.body.isNone = true)
    (hn : Extern.findNext fn = none) (he : Extern.find fn = some e)
    (h : ∀ (w : World) (ok : Nat → Prop) (us : List Value), RepL w ok args us → ∃ v, (e us.toArray).run P w = .ok v w ∧ RepV w ok r v) : Pure P f args r := by
  intro w U us hU hus
  unfold CallOk
  obtain ⟨v, h1, h2⟩ := h w _ us hus
  rw [run_callFunc_extern hf hname hb hn he, h1]
  exact ⟨v, rfl, h2, Below.refl _ _⟩
theorem add64_entry {P : Program} {f : FuncId} {fn : Func} {x y c : Int} (hx : 0 ≤ x) (hy : 0 ≤ y) (hc0 : 0 ≤ c) (hc : c ≤ 1) (hf : P.funcs[f]? = some fn) (hname : (fn.name == "runtime.NumGoroutine") = false) (hb : fn.body.isNone = true)
    (hn : Extern.findNext fn = none) (he : Extern.find fn = some add64Entry) :
    Pure P f [.n .u64 x, .n .u64 y, .n .u64 c] (.tup [.n .u64 ((x + y + c) % 18446744073709551616), .n .u64 ((x + y + c) / 18446744073709551616)]) := by
  refine pure_of_extern hf hname hb hn he fun w ok us h => ?_
  obtain ⟨u1, u2, u3, rfl, h1, h2, h3⟩ := h.three
  cases h1; cases h2; cases h3
  refine ⟨_, run_add64 x y c hx hy hc0 hc w, ?_⟩
  exact RepL.tup (.cons (.n _ _) (.cons (.n _ _) .nil))
end Go.Proofs.Ytdceakejbnolpaa.Sv
