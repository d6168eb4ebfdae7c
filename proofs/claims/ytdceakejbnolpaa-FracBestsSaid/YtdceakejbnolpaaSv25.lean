/- More lemmas for the use of all this: loops by a measure, rows that are built, results that say less. No condition. -/
import Derived.Test.YtdceakejbnolpaaSv24
namespace Go.Proofs.Ytdceakejbnolpaa.Sv
open Go Go.RowKit
set_option linter.unusedVariables false
set_option linter.unusedSimpArgs false

/-- A loop whose states are told by a; μ falls. -/
theorem loop_ind {P : Program} {live : List Nat} {x : SC} {Q : Exit → St → Prop} {α : Type} (S : α → St) (μ : α → Nat) (I : α → Prop) (a : α) (ha : I a)
    (h : ∀ a, I a → (∀ a', I a' → μ a' < μ a → loopW P live x Q (S a')) → x.wp P (thenQ (fun st' => keepK live st' fun st => loopW P live x Q st) Q) (S a)) : loopW P live x Q (S a) := by
  have main : ∀ n a, I a → μ a < n → loopW P live x Q (S a) := by
    intro n
    induction n with
    | zero => intro a _ hlt; omega
    | succ n ih => intro a hI hlt; exact loop_unroll (h a hI fun a' hI' hlt' => ih a' hI' (by omega))
  exact main (μ a + 1) a ha (by omega)
theorem loop_ind2 {P : Program} {live : List Nat} {x : SC} {Q : Exit → St → Prop} {α β : Type} (S : α → β → St) (μ : α → β → Nat) (I : α → β → Prop) (a : α) (b : β) (ha : I a b)
    (h : ∀ a b, I a b → (∀ a' b', I a' b' → μ a' b' < μ a b → loopW P live x Q (S a' b')) → x.wp P (thenQ (fun st' => keepK live st' fun st => loopW P live x Q st) Q) (S a b)) : loopW P live x Q (S a b) :=
  loop_ind (fun p : α × β => S p.1 p.2) (fun p => μ p.1 p.2) (fun p => I p.1 p.2) (a, b) ha fun p hp ih => h p.1 p.2 hp fun a' b' => ih (a', b')
theorem loop_ind3 {P : Program} {live : List Nat} {x : SC} {Q : Exit → St → Prop} {α β γ : Type} (S : α → β → γ → St) (μ : α → β → γ → Nat) (I : α → β → γ → Prop) (a : α) (b : β) (c : γ) (ha : I a b c)
    (h : ∀ a b c, I a b c → (∀ a' b' c', I a' b' c' → μ a' b' c' < μ a b c → loopW P live x Q (S a' b' c')) → x.wp P (thenQ (fun st' => keepK live st' fun st => loopW P live x Q st) Q) (S a b c)) : loopW P live x Q (S a b c) :=
  loop_ind (fun p : α × β × γ => S p.1 p.2.1 p.2.2) (fun p => μ p.1 p.2.1 p.2.2) (fun p => I p.1 p.2.1 p.2.2) (a, b, c) ha fun p hp ih => h p.1 p.2.1 p.2.2 hp fun a' b' c' => ih (a', b', c')
theorem loop_ind4 {P : Program} {live : List Nat} {x : SC} {Q : Exit → St → Prop} {α β γ δ : Type} (S : α → β → γ → δ → St) (μ : α → β → γ → δ → Nat) (I : α → β → γ → δ → Prop) (a : α) (b : β) (c : γ) (d : δ) (ha : I a b c d)
    (h : ∀ a b c d, I a b c d → (∀ a' b' c' d', I a' b' c' d' → μ a' b' c' d' < μ a b c d → loopW P live x Q (S a' b' c' d')) → x.wp P (thenQ (fun st' => keepK live st' fun st => loopW P live x Q st) Q) (S a b c d)) : loopW P live x Q (S a b c d) :=
  loop_ind (fun p : α × β × γ × δ => S p.1 p.2.1 p.2.2.1 p.2.2.2) (fun p => μ p.1 p.2.1 p.2.2.1 p.2.2.2) (fun p => I p.1 p.2.1 p.2.2.1 p.2.2.2) (a, b, c, d) ha fun p hp ih => h p.1 p.2.1 p.2.2.1 p.2.2.2 hp fun a' b' c' d' => ih (a', b', c', d')
theorem wm64 (n : Int) : IntKind.i64.wrap n = (n + 9223372036854775808) % 18446744073709551616 - 9223372036854775808 := by rw [IntKind.wrap_i64]
theorem wmu64 (n : Int) : IntKind.u64.wrap n = n % 18446744073709551616 := by rw [IntKind.wrap_u64]
theorem DecK.yes {x : Bool} {K : Bool → Prop} (h : x = true) (hk : K true) : DecK x K := ⟨fun _ => hk, fun h' => by rw [h] at h'; cases h'⟩
theorem DecK.no {x : Bool} {K : Bool → Prop} (h : x = false) (hk : K false) : DecK x K := ⟨fun h' => by (rw [h] at h'; cases h'), fun _ => hk⟩
theorem DecK.both {x : Bool} {K : Bool → Prop} (ht : x = true → K true) (hf : x = false → K false) : DecK x K := ⟨ht, hf⟩
/-- The state behind a piece of code, but for what a tells. -/
inductive Mid {α : Type} (S : α → St) (I : α → Prop) (e : Exit) (st : St) : Prop
  | mk (a : α) (he : e = .normal) (hs : st = S a) (h : I a)
theorem seq_mid {P : Program} {x y : SC} {Q : Exit → St → Prop} {st : St} {α : Type} (S : α → St) (I : α → Prop) (hx : x.wp P (fun e st' => Mid S I e st') st) (hy : ∀ a, I a → y.wp P Q (S a)) : (SC.seq x y).wp P Q st := by
  unfold SC.wp
  refine SC.wp_mono x (fun e st' h => ?_) hx
  obtain ⟨a, rfl, rfl, hI⟩ := h
  exact hy a hI
theorem optS {α : Type} {o : Option α} {K : α → Prop} (x : α) (h : o = some x) (hk : K x) : optK o K := by rw [h]; exact hk
/-! ### Results that say less -/
theorem Pure.le {P : Program} {f : FuncId} {vs : List V} {r r' : V} (h : Pure P f vs r) (hle : VLe r r') : Pure P f vs r' := fun w U us hU hus => by
  have h := h w U us hU hus
  unfold CallOk at h ⊢
  split at h
  · obtain ⟨g1, g2, g3, g4⟩ := h
    exact ⟨g1, g2, g3, g4.mono fun e w' ⟨u, h1, h2, h3⟩ => ⟨u, h1, hle _ _ _ h2, h3⟩⟩
  · obtain ⟨u, h1, h2, h3⟩ := h
    exact ⟨u, h1, hle _ _ _ h2, h3⟩
  · exact h.elim
theorem Pure.args {P : Program} {f : FuncId} {vs vs' : List V} {r : V} (h : Pure P f vs r) (e : vs' = vs) : Pure P f vs' r := e ▸ h
theorem VLe.trans {a b c : V} (h : VLe a b) (h' : VLe b c) : VLe a c := fun w ok u hr => h' w ok u (h w ok u hr)
theorem VLes.agg {xs ys : List V} (h : VLes xs ys) : VLe (.agg xs) (.agg ys) := fun w ok u hr => by
  cases hr with | agg _ us hl hr =>
  have := (h.rep (RepL.of_array hl hr)).to_array
  exact .agg _ us (by simpa using this.1) (fun i v hi => by simpa using this.2 i v hi)
theorem VLes.tup {xs ys : List V} (h : VLes xs ys) : VLe (.tup xs) (.tup ys) := fun w ok u hr => by
  cases hr with | tup _ us hl hr =>
  have := (h.rep (RepL.of_array hl hr)).to_array
  exact .tup _ us (by simpa using this.1) (fun i v hi => by simpa using this.2 i v hi)
theorem VLes.refl : ∀ (xs : List V), VLes xs xs
  | [] => .nil
  | x :: xs => .cons (.refl x) (VLes.refl xs)
/-! ### Operations that may fail -/
theorem op_shl {objs : List (Nat × List V)} {k k' : IntKind} {x y : Int} (h0 : 0 ≤ y) (h1 : y.toNat ≤ k.bits) :
    (SO.po (.bin .shl)).rdx objs [.v (.n k x), .v (.n k' y)] = some (.v (.n k (k.wrap (x * 2 ^ y.toNat)))) := by
  simp only [SO.rdx, SO.rd, allV, Option.map_some, Option.bind_some, PO.run, binL, binV, BinOp.isShift, if_true, binI]
  rw [if_neg (by omega), Nat.min_eq_left h1]
  rfl
theorem op_shr {objs : List (Nat × List V)} {k k' : IntKind} {x y : Int} (h0 : 0 ≤ y) (h1 : y.toNat ≤ k.bits) :
    (SO.po (.bin .shr)).rdx objs [.v (.n k x), .v (.n k' y)] = some (.v (.n k (x / 2 ^ y.toNat))) := by
  simp only [SO.rdx, SO.rd, allV, Option.map_some, Option.bind_some, PO.run, binL, binV, BinOp.isShift, if_true, binI]
  rw [if_neg (by omega), Nat.min_eq_left h1, Int.fdiv_eq_ediv_of_nonneg _ (Int.le_of_lt (Int.pow_pos (by decide)))]
  rfl
theorem op_quo {objs : List (Nat × List V)} {k : IntKind} {x y : Int} (h0 : y ≠ 0) : (SO.po (.bin .quo)).rdx objs [.v (.n k x), .v (.n k y)] = some (.v (.n k (k.wrap (x.tdiv y)))) := by
  simp only [SO.rdx, SO.rd, allV, Option.map_some, Option.bind_some, PO.run, binL, binV, BinOp.isShift, Bool.false_eq_true, if_false, if_true, binI]
  rw [if_neg h0]
  rfl
theorem op_rem {objs : List (Nat × List V)} {k : IntKind} {x y : Int} (h0 : y ≠ 0) : (SO.po (.bin .rem)).rdx objs [.v (.n k x), .v (.n k y)] = some (.v (.n k (x.tmod y))) := by
  simp only [SO.rdx, SO.rd, allV, Option.map_some, Option.bind_some, PO.run, binL, binV, BinOp.isShift, Bool.false_eq_true, if_false, if_true, binI]
  rw [if_neg h0]
  rfl
/-! ### Rows -/
@[reducible] def ni (x : Int) : List V := [.n .i64 x]
/-- A row of things with their cells. -/
abbrev rowV {α : Type} (f : α → List V) (l : List α) : V := .sl l.length (l.flatMap f) false
abbrev intsV (l : List Int) : V := .sl l.length (l.flatMap ni) false
section
variable {α : Type} {f : α → List V} {z : Nat}
theorem flatMap_take (hz : ∀ x, (f x).length = z) : ∀ {l : List α} {i : Nat}, (l.flatMap f).take (i * z) = (l.take i).flatMap f
  | [], i => by simp
  | x :: l, 0 => by simp
  | x :: l, i + 1 => by
    rw [List.flatMap_cons, Nat.succ_mul, Nat.add_comm, List.take_add, List.take_left' (hz x), List.drop_left' (hz x), List.take_succ_cons, List.flatMap_cons]
    rw [flatMap_take hz]
theorem flatMap_length (hz : ∀ x, (f x).length = z) (l : List α) : (l.flatMap f).length = l.length * z := flatMap_len fun x _ => hz x
/-- A part of a row. -/
theorem row_sl {objs : List (Nat × List V)} (hz : ∀ x, (f x).length = z) {l : List α} {t : Bool} {k : IntKind} {i j : Int} (h0 : 0 ≤ i) (h1 : i ≤ j) (h2 : j ≤ l.length) :
    (SO.sl false z true true false).rdx objs [.v (.sl l.length (l.flatMap f) t), .v (.n k i), .v (.n k j)] = some (.v (.sl ((l.take j.toNat).drop i.toNat).length (((l.take j.toNat).drop i.toNat).flatMap f) false)) := by
  simp only [SO.rdx, SO.rd, slArgs, optArg, if_true, Option.bind_some, Bool.false_and, Bool.false_eq_true, if_false, slD, optN, h0, show 0 ≤ j by omega]
  rw [if_pos (by omega), flatMap_drop hz, flatMap_take hz]
  simp only [Option.isNone_some, Bool.and_false, List.length_drop, List.length_take, List.drop_take]
  congr 3
  omega
theorem row_to {objs : List (Nat × List V)} (hz : ∀ x, (f x).length = z) {l : List α} {t : Bool} {k : IntKind} {j : Int} (h1 : 0 ≤ j) (h2 : j ≤ l.length) :
    (SO.sl false z false true false).rdx objs [.v (.sl l.length (l.flatMap f) t), .v (.n k j)] = some (.v (.sl (l.take j.toNat).length ((l.take j.toNat).flatMap f) false)) := by
  simp only [SO.rdx, SO.rd, slArgs, optArg, if_true, Option.bind_some, Bool.false_and, Bool.false_eq_true, if_false, slD, optN, h1]
  rw [if_pos (by omega), Nat.zero_mul, List.drop_zero, Nat.sub_zero, flatMap_take hz]
  simp only [Option.isNone_some, Bool.and_false, List.length_take]
  congr 3
  omega
theorem row_from {objs : List (Nat × List V)} (hz : ∀ x, (f x).length = z) {l : List α} {t : Bool} {k : IntKind} {i : Int} (h0 : 0 ≤ i) (h2 : i ≤ l.length) :
    (SO.sl false z true false false).rdx objs [.v (.sl l.length (l.flatMap f) t), .v (.n k i)] = some (.v (.sl (l.drop i.toNat).length ((l.drop i.toNat).flatMap f) t)) := by
  simp only [SO.rdx, SO.rd, slArgs, optArg, if_true, Option.bind_some, Bool.false_and, Bool.false_eq_true, if_false, slD, optN, h0]
  rw [if_pos (by omega), flatMap_drop hz]
  simp only [Option.isNone_none, Bool.and_true, List.length_drop]
  rw [List.take_of_length_le (by rw [flatMap_length hz, List.length_drop]; exact Nat.le_refl _)]
/-! ### Own rows -/
theorem own_ia {objs : List (Nat × List V)} {s z off n : Nat} {k : IntKind} {i : Int} (h0 : 0 ≤ i) (h1 : i < n) :
    (SO.ia none z).rdx objs [.own s z off n, .v (.n k i)] = some (.ref s (off + i.toNat * z)) := by
  simp only [SO.rdx, SO.rd, iaD]
  rw [if_pos ⟨h0, h1, trivial⟩]
theorem own_ld {hd : Bool} {objs : List (Nat × List V)} {s : Nat} {l : List α} (hz : ∀ x, (f x).length = z) (ho : look objs s = some (l.flatMap f)) {i : Int} {k : Nat} (hi : i = k) {x : α} (hx : l[k]? = some x) :
    (SO.ld true z hd).rdx objs [.ref s (0 + i.toNat * z)] = some (.v (.agg (f x))) := by
  subst hi
  obtain ⟨hk, rfl⟩ := List.getElem?_eq_some_iff.1 hx
  simp only [Int.toNat_natCast, SO.rdx, SO.rd, deref, ho, Option.map_some, Nat.zero_add, flatMap_drop hz, Option.bind_some, ldD]
  rw [List.drop_eq_getElem_cons hk, List.flatMap_cons]
  simp [hz]
theorem own_ld1 {hd : Bool} {objs : List (Nat × List V)} {s : Nat} {g : α → V} {l : List α} (ho : look objs s = some (l.flatMap fun x => [g x])) {i : Int} {k : Nat} (hi : i = k) {x : α} (hx : l[k]? = some x) :
    (SO.ld false 1 hd).rdx objs [.ref s (0 + i.toNat * 1)] = some (.v (g x)) := by
  subst hi
  obtain ⟨hk, rfl⟩ := List.getElem?_eq_some_iff.1 hx
  simp only [Int.toNat_natCast, SO.rdx, SO.rd, deref, ho, Option.map_some, Nat.zero_add, flatMap_drop (f := fun x => [g x]) (z := 1) (fun _ => rfl), Option.bind_some, ldD]
  rw [List.drop_eq_getElem_cons hk, List.flatMap_cons]
  simp
theorem flatMap_setL (hz : ∀ x, (f x).length = z) : ∀ {l : List α} {k : Nat} {x : α}, k < l.length → setL (l.flatMap f) (k * z) (f x) = (l.set k x).flatMap f := by
  have skip : ∀ (vs a b : List V) (o : Nat), setL (a ++ b) (a.length + o) vs = a ++ setL b o vs := by
    intro vs
    induction vs with
    | nil => intro a b o; rfl
    | cons v vs ih =>
      intro a b o
      simp only [setL]
      rw [List.set_append_right _ _ (by omega), show a.length + o - a.length = o by omega, Nat.add_assoc, ih]
  have head : ∀ (vs a b : List V), a.length = vs.length → setL (a ++ b) 0 vs = vs ++ b := by
    have gen : ∀ (vs p a b : List V), a.length = vs.length → setL (p ++ (a ++ b)) p.length vs = p ++ (vs ++ b) := by
      intro vs
      induction vs with
      | nil => intro p a b h; simp at h; subst h; rfl
      | cons v vs ih =>
        intro p a b h
        cases a with
        | nil => simp at h
        | cons w a =>
          simp only [setL]
          rw [List.set_append_right _ _ (Nat.le_refl _), Nat.sub_self]
          have := ih (p ++ [v]) a b (by simpa using h)
          simp only [List.length_append, List.length_cons, List.length_nil, List.append_assoc, List.cons_append, List.nil_append] at this
          simpa using this
    intro vs a b h
    simpa using gen vs [] a b h
  intro l
  induction l with
  | nil => intro k x h; simp at h
  | cons y l ih =>
    intro k x h
    cases k with
    | zero =>
      rw [Nat.zero_mul, List.flatMap_cons, List.set_cons_zero, List.flatMap_cons]
      exact head _ _ _ (by rw [hz, hz])
    | succ k =>
      rw [List.flatMap_cons, List.set_cons_succ, List.flatMap_cons, Nat.succ_mul, Nat.add_comm]
      have := skip (f x) (f y) (l.flatMap f) (k * z)
      rw [hz] at this
      rw [this, ih (by simpa using h)]
/-- A store to an element. -/
theorem own_st {st : St} {s : Nat} {l : List α} (hz : ∀ x, (f x).length = z) (ho : look st.objs s = some (l.flatMap f)) {i : Int} {x : α} {v : V} (hv : v.cells = f x) (h1 : (f x).all V.one = true) (h0 : 0 ≤ i) (hi : i < l.length) :
    (SO.st z).ef st none [.ref s (0 + i.toNat * z), .v v] = some ⟨st.ρ, upd st.objs s ((l.set i.toNat x).flatMap f)⟩ := by
  have hk : i.toNat < l.length := by omega
  simp only [SO.ef, ho, Option.bind_some, hv, Nat.zero_add, flatMap_length hz]
  have := Nat.mul_le_mul_right z (show i.toNat + 1 ≤ l.length from hk)
  rw [Nat.succ_mul] at this
  rw [if_pos ⟨hz x, this, h1, trivial⟩, flatMap_setL hz hk]
theorem zerosL_rep {x : α} (n : Nat) : zerosL (f x) n = (List.replicate n x).flatMap f := by
  induction n with
  | zero => rfl
  | succ n ih => simp [zerosL, ih, List.replicate_succ]
/-- A new row. -/
theorem own_mk {st : St} {s bytes : Nat} {k k' : IntKind} {n c : Int} {x : α} (h0 : 0 ≤ n) (hc : n ≤ c) (h1 : c * bytes ≤ 2 ^ 48) (h2 : c < 2 ^ 63) :
    (SO.mk z bytes (f x)).ef st (some s) [.v (.n k n), .v (.n k' c)] = some ((st.fresh s ((List.replicate n.toNat x).flatMap f)).put (some s) (.own s z 0 n.toNat)) := by
  simp only [SO.ef]
  rw [if_pos ⟨h0, hc, h1, h2⟩, zerosL_rep]
  rfl
/-- One element more. -/
theorem own_app {st : St} {s0 s bytes : Nat} {l : List α} {x : α} {t : Bool} (hz : ∀ x, (f x).length = z) (ho : look st.objs s0 = some (l.flatMap f)) (h1 : (f x).all V.one = true) (hb : (l.length + 1) * bytes ≤ 2 ^ 47) :
    (SO.app z bytes).ef st (some s) [.own s0 z 0 l.length, .v (.sl 1 (f x) t)] = some ((st.move s0 s0 ((l ++ [x]).flatMap f)).put (some s) (.own s0 z 0 (l ++ [x]).length)) := by
  simp only [SO.ef, ho, Option.bind_some, appArg, Nat.one_mul, hz x, if_true, Nat.zero_add, flatMap_length hz, List.drop_zero]
  rw [if_pos ⟨trivial, trivial, hb, h1⟩, List.flatMap_append]
  simp
/-- A row more. -/
theorem own_apps {st : St} {s0 s bytes : Nat} {l l' : List α} {t : Bool} (hz : ∀ x, (f x).length = z) (ho : look st.objs s0 = some (l.flatMap f)) (h1 : (l'.flatMap f).all V.one = true) (hb : (l.length + l'.length) * bytes ≤ 2 ^ 47) :
    (SO.app z bytes).ef st (some s) [.own s0 z 0 l.length, .v (.sl l'.length (l'.flatMap f) t)] = some ((st.move s0 s0 ((l ++ l').flatMap f)).put (some s) (.own s0 z 0 (l ++ l').length)) := by
  simp only [SO.ef, ho, Option.bind_some, appArg, flatMap_length hz, if_true, Nat.zero_add, List.drop_zero]
  rw [if_pos ⟨trivial, trivial, hb, h1⟩, List.flatMap_append]
  simp
/-- An append onto a row by itself without room. -/
theorem row_appv {objs : List (Nat × List V)} {bytes : Nat} {l l' : List α} {t : Bool} (hz : ∀ x, (f x).length = z) (hb : (l.length + l'.length) * bytes ≤ 2 ^ 47) (h0 : bytes ≠ 0) :
    (SO.appv z bytes).rdx objs [.v (.sl l.length (l.flatMap f) true), .v (.sl l'.length (l'.flatMap f) t)] = some (.v (.sl (l ++ l').length ((l ++ l').flatMap f) false)) := by
  simp only [SO.rdx, appV, appArg, flatMap_length hz, if_true, Option.bind_some]
  rw [if_pos ⟨trivial, hb, h0⟩, List.flatMap_append, List.length_append]
end
section
variable {α : Type} {f : α → List V} {z : Nat} {objs : List (Nat × List V)}
/-! The same, the number of the element given. -/
theorem ria {k : IntKind} {n : Nat} {cells : List V} {t : Bool} {i : Int} (m : Nat) (hi : i = m) (h1 : m < n) :
    (SO.ia none z).rdx objs [.v (.sl n cells t), .v (.n k i)] = some (.v (.ip (cells.drop (m * z)))) := by
  subst hi
  have := row_ia (objs := objs) (z := z) (cells := cells) (t := t) (k := k) (i := (m : Int)) (n := n) (by omega) (by omega)
  simpa using this
theorem rld {hd : Bool} (hz : ∀ x, (f x).length = z) {l : List α} {m : Nat} {x : α} (hx : l[m]? = some x) :
    (SO.ld true z hd).rdx objs [.v (.ip ((l.flatMap f).drop (m * z)))] = some (.v (.agg (f x))) := by
  have := row_ld (hd := hd) (objs := objs) hz (i := (m : Int)) (k := m) rfl hx
  simpa using this
theorem rld1 {hd : Bool} {g : α → V} {l : List α} {m : Nat} {x : α} (hx : l[m]? = some x) :
    (SO.ld false 1 hd).rdx objs [.v (.ip ((l.flatMap fun x => [g x]).drop (m * 1)))] = some (.v (g x)) := by
  have := row_ld1 (hd := hd) (objs := objs) (f := g) (i := (m : Int)) (k := m) rfl hx
  simpa using this
theorem rfld {hd : Bool} (hz : ∀ x, (f x).length = z) {l : List α} {m : Nat} {x : α} (hx : l[m]? = some x) {off : Nat} {v : V} (hv : (f x)[off]? = some v) :
    (SO.ld false 1 hd).rdx objs [.v (.ip (((l.flatMap f).drop (m * z)).drop off))] = some (.v v) := by
  have := row_fld (hd := hd) (objs := objs) hz (i := (m : Int)) (k := m) rfl hx hv
  simpa using this
theorem oia {s off n : Nat} {k : IntKind} {i : Int} (m : Nat) (hi : i = m) (h1 : m < n) : (SO.ia none z).rdx objs [.own s z off n, .v (.n k i)] = some (.ref s (off + m * z)) := by
  subst hi
  have := own_ia (objs := objs) (s := s) (z := z) (off := off) (n := n) (k := k) (i := (m : Int)) (by omega) (by omega)
  simpa using this
theorem old {hd : Bool} {s : Nat} {l : List α} (hz : ∀ x, (f x).length = z) (ho : look objs s = some (l.flatMap f)) {m : Nat} {x : α} (hx : l[m]? = some x) :
    (SO.ld true z hd).rdx objs [.ref s (0 + m * z)] = some (.v (.agg (f x))) := by
  have := own_ld (hd := hd) hz ho (i := (m : Int)) (k := m) rfl hx
  simpa using this
theorem old1 {hd : Bool} {s : Nat} {g : α → V} {l : List α} (ho : look objs s = some (l.flatMap fun x => [g x])) {m : Nat} {x : α} (hx : l[m]? = some x) :
    (SO.ld false 1 hd).rdx objs [.ref s (0 + m * 1)] = some (.v (g x)) := by
  have := own_ld1 (hd := hd) ho (i := (m : Int)) (k := m) rfl hx
  simpa using this
theorem ost {st : St} {s : Nat} {l : List α} (hz : ∀ x, (f x).length = z) (ho : look st.objs s = some (l.flatMap f)) {m : Nat} {x : α} {v : V} (hv : v.cells = f x) (h1 : (f x).all V.one = true) (hi : m < l.length) :
    (SO.st z).ef st none [.ref s (0 + m * z), .v v] = some ⟨st.ρ, upd st.objs s ((l.set m x).flatMap f)⟩ := by
  have := own_st hz ho (i := (m : Int)) hv h1 (by omega) (by omega)
  simpa using this
theorem omk {st : St} {s bytes : Nat} {k k' : IntKind} {n c : Int} {x : α} (m : Nat) (hn : n = m) (hc : c = m) (h1 : (m : Int) * bytes ≤ 2 ^ 48) (h2 : (m : Int) < 2 ^ 63) :
    (SO.mk z bytes (f x)).ef st (some s) [.v (.n k n), .v (.n k' c)] = some ((st.fresh s ((List.replicate m x).flatMap f)).put (some s) (.own s z 0 m)) := by
  subst hn; subst hc
  have := own_mk (st := st) (s := s) (z := z) (f := f) (x := x) (bytes := bytes) (k := k) (k' := k') (n := (m : Int)) (c := (m : Int)) (by omega) (by omega) h1 h2
  simpa using this
end
theorem one_ni {x : Int} : (ni x).all V.one = true := rfl
theorem hz_ni : ∀ x, (ni x).length = 1 := fun _ => rfl
theorem snapRow' {α : Type} {f : α → List V} {z n : Nat} (hz : ∀ x, (f x).length = z) {l : List α} (hn : l.length = n) : V.sl n (((l.flatMap f).drop 0).take (n * z)) false = rowV f l := by
  subst hn
  rw [List.drop_zero, List.take_of_length_le (by rw [flatMap_length hz]; exact Nat.le_refl _)]
theorem snapRow {α : Type} {f : α → List V} {z : Nat} (hz : ∀ x, (f x).length = z) (l : List α) : ((l.flatMap f).drop 0).take (l.length * z) = l.flatMap f := by
  rw [List.drop_zero, List.take_of_length_le (by rw [flatMap_length hz]; exact Nat.le_refl _)]
end Go.Proofs.Ytdceakejbnolpaa.Sv
