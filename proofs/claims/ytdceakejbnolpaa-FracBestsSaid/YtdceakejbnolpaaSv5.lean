/- What the operations on values by themselves yield, and that the model does the same. No condition. -/
import Derived.Test.YtdceakejbnolpaaSv4
import Derived.Laws.StructEq
namespace Go.Proofs.Ytdceakejbnolpaa.Sv
open Go Go.RowKit
set_option linter.unusedVariables false
set_option linter.unusedSimpArgs false

def binI (op : BinOp) (k : IntKind) (x y : Int) : Option V :=
  match op with
  | .add => some (.n k (k.wrap (x + y)))
  | .sub => some (.n k (k.wrap (x - y)))
  | .mul => some (.n k (k.wrap (x * y)))
  | .quo => if y = 0 then none else some (.n k (k.wrap (x.tdiv y)))
  | .rem => if y = 0 then none else some (.n k (x.tmod y))
  | .and => some (.n k (k.wrap (BitVec.ofInt k.bits x &&& BitVec.ofInt k.bits y).toNat))
  | .or => some (.n k (k.wrap (BitVec.ofInt k.bits x ||| BitVec.ofInt k.bits y).toNat))
  | .xor => some (.n k (k.wrap (BitVec.ofInt k.bits x ^^^ BitVec.ofInt k.bits y).toNat))
  | .andNot => some (.n k (k.wrap (BitVec.ofInt k.bits x &&& ~~~ BitVec.ofInt k.bits y).toNat))
  | .eql => some (.b (x == y))
  | .neq => some (.b (x != y))
  | .lss => some (.b (x < y))
  | .leq => some (.b (x ≤ y))
  | .gtr => some (.b (x > y))
  | .geq => some (.b (x ≥ y))
  | .shl => if y < 0 then none else some (.n k (k.wrap (x * 2 ^ (min y.toNat k.bits))))
  | .shr => if y < 0 then none else some (.n k (x.fdiv (2 ^ (min y.toNat k.bits))))
def BinOp.isShift : BinOp → Bool
  | .shl | .shr => true
  | _ => false
def binS (op : BinOp) (x y : ByteArray) : Option V :=
  match op with
  | .add => if ((x.size + y.size : Nat) : Int) > IntKind.i64.max then none else some (.s (x ++ y))
  | .eql => some (.b (x.toList == y.toList))
  | .neq => some (.b !(x.toList == y.toList))
  | .lss => some (.b (Op.bytesLess x.toList y.toList))
  | .leq => some (.b (Op.bytesLess x.toList y.toList || x.toList == y.toList))
  | .gtr => some (.b !(Op.bytesLess x.toList y.toList || x.toList == y.toList))
  | .geq => some (.b !(Op.bytesLess x.toList y.toList))
  | _ => none
def binV (op : BinOp) : V → V → Option V
  | .n k x, .n k' y => if BinOp.isShift op then binI op k x y else if k = k' then binI op k x y else none
  | .s x, .s y => binS op x y
  | _, _ => none
section
variable {P : Program} {w : World} {ok : Nat → Prop}
theorem binV_sound {op : BinOp} {t : TypeId} {x y : V} {u v : Value} {r : V} (hx : RepV w ok x u) (hy : RepV w ok y v) (h : binV op x y = some r) (xo yo : Operand) :
    ∃ z, ((do eqGuard op t xo yo u v; binOp op t u v) : Sem Value).run P w = .ok z w ∧ RepV w ok r z := by
  unfold binV at h
  split at h
  · rename_i k a k' b
    cases hx; cases hy
    have hg : (eqGuard op t xo yo (.int k a) (.int k' b)).run P w = .ok () w := by unfold eqGuard; cases op <;> simp
    simp only [Sem.run_bind, hg, Result.andThen_ok]
    split at h
    · rename_i hs
      cases op <;> simp [BinOp.isShift] at hs <;> simp only [binI] at h <;> split at h <;> cases h <;> rename_i hb
      · exact ⟨_, by simp [binOp, Op.shift, hb] <;> rfl, .n _ _⟩
      · exact ⟨_, by simp [binOp, Op.shift, hb] <;> rfl, .n _ _⟩
    · rename_i hs
      split at h
      · rename_i hk
        subst hk
        cases op <;> simp [BinOp.isShift] at hs <;> simp only [binI] at h
        case quo => split at h <;> cases h; rename_i hb; exact ⟨_, by simp [binOp, Op.intDiv, hb] <;> rfl, .n _ _⟩
        case rem => split at h <;> cases h; rename_i hb; exact ⟨_, by simp [binOp, Op.intDiv, hb] <;> rfl, .n _ _⟩
        all_goals cases h
        all_goals first
          | exact ⟨_, by simp only [binOp, ne_eq, not_true_eq_false, if_false, Op.intArith, Sem.run_pure]; rfl, .n _ _⟩
          | exact ⟨_, by simp only [binOp, ne_eq, not_true_eq_false, if_false, Op.intBits, Sem.run_pure]; rfl, .n _ _⟩
          | exact ⟨_, by simp only [binOp, ne_eq, not_true_eq_false, if_false, Op.intCmp, Sem.run_pure], .b _⟩
      · cases h
  · rename_i a b
    cases hx; cases hy
    have hg : (eqGuard op t xo yo (.string a) (.string b)).run P w = .ok () w := by unfold eqGuard; cases op <;> simp
    simp only [Sem.run_bind, hg, Result.andThen_ok]
    cases op <;> simp only [binS] at h
    case add => split at h <;> cases h; rename_i hb; exact ⟨_, by simp only [binOp, Op.stringOp, if_neg hb]; rfl, .s _⟩
    all_goals (cases h <;> exact ⟨_, by simp only [binOp, Op.stringOp, Sem.run_pure], .b _⟩)
  · cases h

/-! ### Equality of parts -/
/-- The kinds of what is compared by sight. -/
inductive EK where
  | b | n | s
  deriving DecidableEq
def eqk : EK → V → V → Option Bool
  | .n, .n k x, .n k' y => if k = k' then some (x == y) else none
  | .b, .b x, .b y => some (x == y)
  | .s, .s x, .s y => some (x.toList == y.toList)
  | _, _, _ => none
def eqLv : List (Nat × EK) → List V → List V → Option Bool
  | [], _, _ => some true
  | (l, e) :: ls, xs, ys => match xs[l]?, ys[l]? with
    | some x, some y => match eqk e x y, eqLv ls xs ys with
      | some p, some q => some (p && q)
      | _, _ => none
    | _, _ => none
def ekOf (P : Program) (t : TypeId) : Option EK := match P.underlying t with | some .bool => some .b | some (.int _) => some .n | some .string => some .s | _ => none
/-- The fields one by one; self: what is known of a field that is a struct itself. -/
def eqLeavesG (P : Program) (self : TypeId → Option (List (Nat × EK))) (stop : Bool) : List Field → Option (List (Nat × EK))
  | [] => some []
  | f :: fs => if f.name = "_" ∨ stop = true then none else match eqLeavesG P self stop fs with
    | none => none
    | some r => match ekOf P f.type with
      | some e => some ((f.offset, e) :: r)
      | none => match self f.type, szOf P f.type with
        | some ls, some z => if ls.all (·.1 < z) then some (ls.map (fun x => (f.offset + x.1, x.2)) ++ r) else none
        | _, _ => none
def eqLeaves (P : Program) : Nat → TypeId → Option (List (Nat × EK))
  | 0, _ => none
  | d + 1, t => match P.underlying t with
    | some (.struct fs) => if P.stoodInHeld t then none else eqLeavesG P (eqLeaves P d) (d == 0) fs.toList
    | _ => none
def eqLeavesF (P : Program) (d : Nat) (fs : List Field) : Option (List (Nat × EK)) := eqLeavesG P (eqLeaves P d) (d == 0) fs
theorem eqLeavesF_nil (P : Program) (d : Nat) : eqLeavesF P d [] = some [] := rfl
theorem eqLeavesF_cons (P : Program) (d : Nat) (f : Field) (fs : List Field) : eqLeavesF P d (f :: fs) = if f.name = "_" ∨ d = 0 then none else match eqLeavesF P d fs with
    | none => none
    | some r => match ekOf P f.type with
      | some e => some ((f.offset, e) :: r)
      | none => match eqLeaves P d f.type, szOf P f.type with
        | some ls, some z => if ls.all (·.1 < z) then some (ls.map (fun x => (f.offset + x.1, x.2)) ++ r) else none
        | _, _ => none := by
  have : (f.name = "_" ∨ (d == 0) = true) = (f.name = "_" ∨ d = 0) := by simp
  conv => lhs; unfold eqLeavesF eqLeavesG
  simp only [this]
  rfl
theorem eqk_sound {d : Nat} {t : TypeId} {e : EK} {x y : V} {u v : Value} {r : Bool} (hx : RepV w ok x u) (hy : RepV w ok y v) (h : eqk e x y = some r) (ht : ekOf P t = some e) :
    (Op.equalIn (d + 1) t u v).run P w = .ok r w := by
  unfold eqk at h
  unfold ekOf at ht
  split at h
  · split at h <;> cases h
    rename_i hk; subst hk
    cases hx; cases hy
    split at ht <;> cases ht
    rename_i hu; simp [Op.equalIn, run_underlying hu]
  · cases h
    cases hx; cases hy
    split at ht <;> cases ht
    rename_i hu; simp [Op.equalIn, run_underlying hu]
  · cases h
    cases hx; cases hy
    split at ht <;> cases ht
    rename_i hu; simp [Op.equalIn, run_underlying hu, beq_toListBytes]
  · cases h
theorem ekOf_agg {t : TypeId} {e : EK} (h : ekOf P t = some e) : aggOf P t = some false := by
  unfold ekOf at h
  unfold aggOf
  split at h <;> cases h <;> (rename_i hu; simp [hu])
theorem eqLv_app : ∀ {ls ms : List (Nat × EK)} {xs ys : List V} {r : Bool}, eqLv (ls ++ ms) xs ys = some r → ∃ p q, eqLv ls xs ys = some p ∧ eqLv ms xs ys = some q ∧ r = (p && q)
  | [], ms, xs, ys, r, h => ⟨true, r, rfl, h, by simp⟩
  | (l, e) :: ls, ms, xs, ys, r, h => by
    simp only [List.cons_append, eqLv] at h ⊢
    split at h
    · rename_i x y hx hy
      split at h <;> cases h
      rename_i p q hp hq
      obtain ⟨p', q', h1, h2, rfl⟩ := eqLv_app hq
      exact ⟨p && p', q', by simp [hx, hy, hp, h1], h2, by simp [Bool.and_assoc]⟩
    · cases h
theorem eqLv_shift {off z : Nat} {xs ys : List V} : ∀ {ls : List (Nat × EK)} {r : Bool}, ls.all (·.1 < z) = true → eqLv (ls.map (fun x => (off + x.1, x.2))) xs ys = some r → eqLv ls ((xs.drop off).take z) ((ys.drop off).take z) = some r
  | [], r, _, h => h
  | (l, e) :: ls, r, ha, h => by
    simp only [List.all_cons, Bool.and_eq_true, decide_eq_true_eq] at ha
    simp only [List.map_cons, eqLv] at h ⊢
    have e1 : ∀ zs : List V, ((zs.drop off).take z)[l]? = zs[off + l]? := fun zs => by rw [List.getElem?_take, if_pos ha.1, List.getElem?_drop]
    rw [e1, e1]
    split at h
    · rename_i x y hx hy
      split at h <;> cases h
      rename_i p q hp hq
      simp [hp, eqLv_shift ha.2 hq]
    · cases h
theorem run_part_one {t : TypeId} {us : Array Value} {off : Nat} {u : Value} (hg : aggOf P t = some false) (h : us[off]? = some u) : (part t us off).run P w = .ok u w := by
  simp [part, run_agg hg, h]
theorem run_part_agg {t : TypeId} {us : Array Value} {off z : Nat} (hg : aggOf P t = some true) (hz : szOf P t = some z) : (part t us off).run P w = .ok (.agg (us.extract off (off + z))) w := by
  simp [part, run_agg hg, run_size hz]
theorem RepL.extract {xs : List V} {us : Array Value} (h : RepL w ok xs us.toList) (off z : Nat) : RepL w ok ((xs.drop off).take z) (us.extract off (off + z)).toList := by
  have : (us.extract off (off + z)).toList = (us.toList.drop off).take z := by
    simp [Array.toList_extract, List.extract_eq_take_drop]
  rw [this]
  exact (h.drop off).take z
theorem eqLeavesF_sound (d : Nat) (IH : ∀ {t : TypeId} {ls : List (Nat × EK)} {xs ys : List V} {us vs : Array Value} {r : Bool}, eqLeaves P d t = some ls →
    RepL w ok xs us.toList → RepL w ok ys vs.toList → eqLv ls xs ys = some r → (Op.equalIn d t (.agg us) (.agg vs)).run P w = .ok r w) {xs ys : List V} {us vs : Array Value}
    (hx : RepL w ok xs us.toList) (hy : RepL w ok ys vs.toList) : ∀ (fs : List Field) {ls : List (Nat × EK)} {r : Bool}, eqLeavesF P d fs = some ls →
    eqLv ls xs ys = some r → (Op.eqFields d us vs fs).run P w = .ok r w := by
  intro fs
  induction fs with
  | nil =>
    intro ls r h he
    simp only [eqLeavesF_nil, Option.some.injEq] at h
    subst h
    simp only [eqLv, Option.some.injEq] at he
    subst he
    simp [Op.eqFields]
  | cons f fs ih =>
    intro ls r h he
    rw [eqLeavesF_cons] at h
    split at h
    · cases h
    · rename_i hn
      obtain ⟨hnn, hd⟩ := not_or.1 hn
      split at h
      · cases h
      · rename_i rs hrs
        split at h
        · rename_i e hek
          cases h
          simp only [eqLv] at he
          split at he
          · rename_i x y hxx hyy
            split at he <;> cases he
            rename_i p q hp hq
            obtain ⟨u, hu, hru⟩ := hx.2 _ _ hxx
            obtain ⟨v, hv, hrv⟩ := hy.2 _ _ hyy
            have ih := ih hrs hq
            obtain ⟨d', rfl⟩ : ∃ d', d = d' + 1 := ⟨d - 1, by omega⟩
            have h1 := eqk_sound (P := P) (d := d') hru hrv hp hek
            simp only [Op.eqFields, ne_eq, hnn, not_false_eq_true, if_true, Sem.run_bind, run_part_one (P := P) (ekOf_agg hek) (show us[f.offset]? = some u by simpa using hu), run_part_one (P := P) (ekOf_agg hek) (show vs[f.offset]? = some v by simpa using hv), Result.andThen_ok, h1]
            cases p
            · simp
            · simpa using ih
          · cases he
        · rename_i hek
          split at h
          · rename_i ls' z hls hz
            split at h <;> cases h
            rename_i hall
            obtain ⟨p, q, hp, hq, rfl⟩ := eqLv_app he
            have hp' := eqLv_shift hall hp
            have ih := ih hrs hq
            have h1 := IH hls (hx.extract f.offset z) (hy.extract f.offset z) hp'
            have hg : aggOf P f.type = some true := by
              cases d with
              | zero => simp at hd
              | succ d =>
                unfold eqLeaves at hls
                split at hls
                · rename_i hu; simp [aggOf, hu]
                · cases hls
            simp only [Op.eqFields, ne_eq, hnn, not_false_eq_true, if_true, Sem.run_bind, run_part_agg (P := P) hg hz, Result.andThen_ok, h1]
            cases p
            · simp
            · simpa using ih
          · cases h
theorem eqLeaves_sound (d : Nat) : ∀ {t : TypeId} {ls : List (Nat × EK)} {xs ys : List V} {us vs : Array Value} {r : Bool}, eqLeaves P d t = some ls →
    RepL w ok xs us.toList → RepL w ok ys vs.toList → eqLv ls xs ys = some r → (Op.equalIn d t (.agg us) (.agg vs)).run P w = .ok r w := by
  induction d with
  | zero => intro t ls xs ys us vs r h; simp [eqLeaves] at h
  | succ d ih =>
    intro t ls xs ys us vs r h hx hy he
    unfold eqLeaves at h
    split at h
    · rename_i fs hu
      split at h
      · cases h
      · rename_i hs
        have hf : P.fieldsOf t = fs := by simp [Program.fieldsOf, hu]
        rw [run_equalIn_struct (P := P) w d t us vs (by rw [hf]; exact hu) (by simpa using hs), hf]
        exact eqLeavesF_sound d ih hx hy fs.toList h he
    · cases h
end
end Go.Proofs.Ytdceakejbnolpaa.Sv
