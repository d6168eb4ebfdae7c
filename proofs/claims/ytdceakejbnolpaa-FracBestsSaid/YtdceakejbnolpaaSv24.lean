/- Lemmas for the use of all this: rows of values, numbers in range. No condition. -/
import Derived.Test.YtdceakejbnolpaaSv23
import Derived.IntWalk
namespace Go.Proofs.Ytdceakejbnolpaa.Sv
open Go Go.RowKit
set_option linter.unusedVariables false
set_option linter.unusedSimpArgs false

/-- What holds of a value holds of another. -/
def VLe (v v' : V) : Prop := ∀ (w : World) (ok : Nat → Prop) (u : Value), RepV w ok v u → RepV w ok v' u
theorem VLe.refl (v : V) : VLe v v := fun _ _ _ h => h
theorem VLe.loose {n : Nat} {cells : List V} {t : Bool} : VLe (.sl n cells t) (.sl n cells false) := fun w ok u h => by
  cases h with
  | sl0 _ a => exact .sl0 _ _
  | sl _ _ _ us bl off cap hok hl ht hc hr => exact .sl _ _ _ us bl off cap hok hl (fun h => by cases h) hc hr
inductive VLes : List V → List V → Prop
  | nil : VLes [] []
  | cons {v v' : V} {vs vs' : List V} (h : VLe v v') (hs : VLes vs vs') : VLes (v :: vs) (v' :: vs')
theorem VLes.rep {w : World} {ok : Nat → Prop} {vs vs' : List V} (h : VLes vs vs') : ∀ {us : List Value}, RepL w ok vs us → RepL w ok vs' us := by
  induction h with
  | nil => intro us h; exact h
  | cons h hs ih =>
    intro us hr
    obtain ⟨u, us', rfl, h1, h2⟩ := hr.head
    exact .cons (h _ _ _ h1) (ih h2)
theorem Pure.of {P : Program} {f : FuncId} {vs vs' : List V} {r : V} (hle : VLes vs vs') (h : Pure P f vs' r) : Pure P f vs r := fun w U us hU hr => h w U us hU (hle.rep hr)
theorem wrap64 {n : Int} (h1 : -9223372036854775808 ≤ n) (h2 : n ≤ 9223372036854775807) : IntKind.i64.wrap n = n := IntWalk.i64_in n ⟨h1, h2⟩
theorem w64 {n : Int} (h : -9223372036854775808 ≤ n ∧ n ≤ 9223372036854775807) : IntKind.i64.wrap n = n := IntWalk.i64_in n h
theorem w32 {n : Int} (h : -2147483648 ≤ n ∧ n ≤ 2147483647) : IntKind.i32.wrap n = n := IntWalk.i32_in n h
theorem wu64 {n : Int} (h : 0 ≤ n ∧ n ≤ 18446744073709551615) : IntKind.u64.wrap n = n := IntWalk.u64_in n h
theorem wu8 {n : Int} (h : 0 ≤ n ∧ n ≤ 255) : IntKind.u8.wrap n = n := IntWalk.u8_in n h
theorem wu32 {n : Int} (h : 0 ≤ n ∧ n ≤ 4294967295) : IntKind.u32.wrap n = n := IntWalk.u32_in n h
theorem tdivC {x c : Int} (hc : 0 < c) : x.tdiv c = if 0 ≤ x then x / c else -(-x / c) := by
  split
  · exact Int.tdiv_eq_ediv_of_nonneg (by assumption)
  · rename_i h
    rw [← Int.tdiv_eq_ediv_of_nonneg (by omega), Int.neg_tdiv, Int.neg_neg]
theorem tmodC {x c : Int} (hc : 0 < c) : x.tmod c = if 0 ≤ x then x % c else -(-x % c) := by
  split
  · exact Int.tmod_eq_emod_of_nonneg (by assumption)
  · rename_i h
    rw [← Int.tmod_eq_emod_of_nonneg (by omega), Int.neg_tmod, Int.neg_neg]
theorem flatMap_drop {α β : Type} {f : α → List β} {z : Nat} (hz : ∀ x, (f x).length = z) : ∀ {l : List α} {i : Nat}, (l.flatMap f).drop (i * z) = (l.drop i).flatMap f
  | [], i => by simp
  | x :: l, 0 => by simp
  | x :: l, i + 1 => by
    rw [List.flatMap_cons, Nat.succ_mul, Nat.add_comm, ← List.drop_drop, List.drop_left' (hz x), List.drop_succ_cons]
    exact flatMap_drop hz
/-- An element's address. -/
theorem row_ia {objs : List (Nat × List V)} {z n : Nat} {cells : List V} {t : Bool} {k : IntKind} {i : Int} (h0 : 0 ≤ i) (h1 : i < n) :
    (SO.ia none z).rdx objs [.v (.sl n cells t), .v (.n k i)] = some (.v (.ip (cells.drop (i.toNat * z)))) := by
  simp only [SO.rdx, SO.rd, iaD]
  rw [if_pos (by omega)]
/-- An element of a row of structs. -/
theorem row_ld {hd : Bool} {α : Type} {objs : List (Nat × List V)} {f : α → List V} {z : Nat} (hz : ∀ x, (f x).length = z) {l : List α} {i : Int} {k : Nat} (hi : i = k) {x : α} (hx : l[k]? = some x) :
    (SO.ld true z hd).rdx objs [.v (.ip ((l.flatMap f).drop (i.toNat * z)))] = some (.v (.agg (f x))) := by
  subst hi
  obtain ⟨hk, rfl⟩ := List.getElem?_eq_some_iff.1 hx
  simp only [Int.toNat_natCast, flatMap_drop hz, SO.rdx, SO.rd, deref, Option.bind_some, ldD]
  rw [List.drop_eq_getElem_cons hk, List.flatMap_cons]
  simp [hz]
/-- An element of a row of single cells. -/
theorem row_ld1 {hd : Bool} {α : Type} {objs : List (Nat × List V)} {f : α → V} {l : List α} {i : Int} {k : Nat} (hi : i = k) {x : α} (hx : l[k]? = some x) :
    (SO.ld false 1 hd).rdx objs [.v (.ip ((l.flatMap fun x => [f x]).drop (i.toNat * 1)))] = some (.v (f x)) := by
  subst hi
  obtain ⟨hk, rfl⟩ := List.getElem?_eq_some_iff.1 hx
  simp only [Int.toNat_natCast, flatMap_drop (f := fun x => [f x]) (z := 1) (fun _ => rfl), SO.rdx, SO.rd, deref, Option.bind_some, ldD]
  rw [List.drop_eq_getElem_cons hk, List.flatMap_cons]
  simp
/-- A field of an element of a row of structs. -/
theorem row_fld {hd : Bool} {α : Type} {objs : List (Nat × List V)} {f : α → List V} {z : Nat} (hz : ∀ x, (f x).length = z) {l : List α} {i : Int} {k : Nat} (hi : i = k) {x : α} (hx : l[k]? = some x) {off : Nat} {v : V} (hv : (f x)[off]? = some v) :
    (SO.ld false 1 hd).rdx objs [.v (.ip (((l.flatMap f).drop (i.toNat * z)).drop off))] = some (.v v) := by
  subst hi
  obtain ⟨hk, rfl⟩ := List.getElem?_eq_some_iff.1 hx
  simp only [Int.toNat_natCast, flatMap_drop hz, SO.rdx, SO.rd, deref, Option.bind_some, ldD]
  rw [List.drop_eq_getElem_cons hk, List.flatMap_cons]
  have hlt := (List.getElem?_eq_some_iff.1 hv).1
  have : (List.drop off (f l[k] ++ List.flatMap f (List.drop (k + 1) l)))[0]? = some v := by
    rw [List.getElem?_drop, show off + 0 = off from rfl, List.getElem?_append_left hlt, hv]
  simp [this]
theorem drop_step {α : Type} {l : List α} {k : Nat} {x : α} {r : List α} (h : l.drop k = x :: r) : l[k]? = some x ∧ l.drop (k + 1) = r ∧ k < l.length ∧ l.length = k + r.length + 1 := by
  have hk : k < l.length := by
    rcases Nat.lt_or_ge k l.length with h' | h'
    · exact h'
    · rw [List.drop_eq_nil_of_le h'] at h; cases h
  rw [List.drop_eq_getElem_cons hk] at h
  cases h
  exact ⟨by simp [hk], rfl, hk, by simp; omega⟩
theorem drop_nil {α : Type} {l : List α} {k : Nat} (h : l.drop k = []) : l.length ≤ k := by simpa using h
theorem get_mid {α : Type} {pre suf : List α} {x : α} : (pre ++ x :: suf)[pre.length]? = some x := by simp
end Go.Proofs.Ytdceakejbnolpaa.Sv
