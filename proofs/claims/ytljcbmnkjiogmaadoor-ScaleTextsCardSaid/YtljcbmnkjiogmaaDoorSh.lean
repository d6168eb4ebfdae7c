/- Strings: beginnings, repeats of the digit 0; the number that decimal digits stand for, in the reference. No condition. -/
import Derived.Test.YtljcbmnkjiogmaaDoorSb
import Derived.Test.YtljcbmnkjiogmaaDoorZc
namespace Go.Proofs.YtljcbmnkjiogmaaDoor.Sv
open Go Go.RowKit
set_option linter.unusedVariables false
set_option linter.unusedSimpArgs false
set_option maxRecDepth 100000
/-- live: [0, 2, 3, 4, 5, 6, 7] -/
def L38_0 : SC := .seq (.seq (.reg [⟨some 21, none, .mv, [.tm 7]⟩, ⟨some 22, none, .mv, [.tm 0]⟩, ⟨some 23, none, .len true, [.tm 22]⟩, ⟨some 24, none, .po (.bin .lss), [.tm 21, .tm 23]⟩] [0, 2, 3, 4, 5, 6, 7, 24]) (.cond (.tm 24) .skip (.exit 2))) (.seq (.block 3 (.reg [⟨some 27, none, .mv, [.tm 6]⟩, ⟨some 28, none, .po (.bin .mul), [.cn (.n .i64 10), .tm 27]⟩, ⟨some 29, none, .mv, [.tm 0]⟩, ⟨some 30, none, .mv, [.tm 7]⟩, ⟨some 31, none, .po .idxS, [.tm 29, .tm 30]⟩, ⟨some 32, none, .po (.bin .sub), [.tm 31, .cn (.n .u8 48)]⟩, ⟨some 33, none, .po (.toInt .i64), [.tm 32]⟩, ⟨some 34, none, .po (.bin .add), [.tm 28, .tm 33]⟩, ⟨some 6, none, .mv, [.tm 34]⟩] [0, 2, 3, 4, 5, 6, 7])) (.reg [⟨some 25, none, .mv, [.tm 7]⟩, ⟨some 26, none, .po (.bin .add), [.tm 25, .cn (.n .i64 1)]⟩, ⟨some 7, none, .mv, [.tm 26]⟩] [0, 2, 3, 4, 5, 6, 7]))
/-- live: [0, 2, 3, 4] -/
def L38_1 : SC := .seq (.seq (.reg [⟨some 13, none, .mv, [.tm 0]⟩, ⟨some 14, none, .len true, [.tm 13]⟩, ⟨some 15, none, .po (.bin .gtr), [.tm 14, .cn (.n .i64 0)]⟩] [0, 2, 3, 4, 15]) (.cond (.tm 15) .skip (.exit 0))) (.block 1 (.seq (.reg [⟨some 16, none, .mv, [.tm 0]⟩, ⟨some 17, none, .len true, [.tm 16]⟩, ⟨some 18, none, .po (.bin .sub), [.tm 17, .cn (.n .i64 6)]⟩, ⟨some 19, none, .po .mx, [.cn (.n .i64 0), .tm 18]⟩, ⟨some 5, none, .mv, [.tm 19]⟩] [0, 2, 3, 4, 5]) (.seq (.reg [⟨some 6, none, .mv, [.cn (.n .i64 0)]⟩] [0, 2, 3, 4, 5, 6]) (.seq (.seq (.reg [⟨some 20, none, .mv, [.tm 5]⟩, ⟨some 7, none, .mv, [.tm 20]⟩] [0, 2, 3, 4, 5, 6, 7]) (.block 2 (.loop [0, 2, 3, 4, 5, 6, 7] L38_0))) (.dreg [⟨some 35, none, .mv, [.tm 4]⟩, ⟨some 36, none, .mv, [.tm 6]⟩, ⟨some 37, none, .po (.bsl 1 [.n .i64 0] [(0, 1)]), [.tm 36]⟩, ⟨some 38, none, .appo 1 8, [.tm 35, .tm 37]⟩, ⟨some 39, none, .mv, [.tm 0]⟩, ⟨some 40, none, .mv, [.tm 5]⟩, ⟨some 41, none, .sl true 1 false true false, [.tm 39, .tm 40]⟩, ⟨some 4, none, .mv, [.tm 38]⟩, ⟨some 0, none, .mv, [.tm 41]⟩] [(3, 4), (3, 5), (3, 6)] [0, 2, 3, 4])))))
/-- spyglass/spyref1.Digits -/
def F38 : Fn1 := ⟨45, .seq (.reg [⟨some 2, none, .alloc [.b false, .sl 0 [] true], []⟩] [0, 2]) (.seq (.reg [⟨some 8, none, .mv, [.tm 0]⟩, ⟨some 9, none, .call 55, [.tm 8, .cn (.s (⟨⟨[45]⟩⟩ : ByteArray))]⟩, ⟨some 3, none, .mv, [.tm 9]⟩] [0, 2, 3]) (.seq (.seq (.reg [⟨some 10, none, .mv, [.tm 3]⟩] [0, 2, 3, 10]) (.cond (.tm 10) (.reg [⟨some 11, none, .mv, [.tm 0]⟩, ⟨some 12, none, .sl true 1 true false false, [.tm 11, .cn (.n .i64 1)]⟩, ⟨some 0, none, .mv, [.tm 12]⟩] [0, 2, 3]) .skip)) (.seq (.reg [⟨some 4, none, .adopt 1, []⟩] [0, 2, 3, 4]) (.seq (.block 0 (.loop [0, 2, 3, 4] L38_1)) (.seq (.reg [⟨some 42, none, .mv, [.tm 3]⟩, ⟨some 43, none, .mv, [.tm 4]⟩, ⟨some 44, none, .call 56, [.tm 42, .tm 43]⟩, ⟨none, none, .st 2, [.tm 2, .tm 44]⟩] [2]) .ret))))), [.cell 2 true 2]⟩
theorem of38 : Fn1.of Tryd.prog 38 ⟨true, [], true⟩ [[0, 2], [0, 2, 3], [0, 2, 3, 10], [0, 2, 3], [0, 2, 3, 4], [0, 2, 3, 4], [0, 2, 3, 4, 15], [0, 2, 3, 4, 5], [0, 2, 3, 4, 5, 6], [0, 2, 3, 4, 5, 6, 7], [0, 2, 3, 4, 5, 6, 7], [0, 2, 3, 4, 5, 6, 7, 24], [0, 2, 3, 4, 5, 6, 7], [0, 2, 3, 4, 5, 6, 7], [0, 2, 3, 4], [2]] = some F38 := by kernel_rfl
theorem hasPrefix_ok (s p : ByteArray) : Pure Tryd.prog 55 [.s s, .s p] (.b (Lib.hasPrefix s.data.toList p.data.toList)) := by
  refine pure_of_calls (fun us w => enters_of Tryd.func55 (by kernel_rfl) rfl us w) fun w U us hL hU hus => ?_
  obtain ⟨u, u', rfl, hu, hu'⟩ := hus.two
  cases hu
  cases hu'
  refine (Tryd.strings_HasPrefix s p w).mono ?_
  rintro e w' ⟨rfl, rfl⟩
  exact ⟨_, rfl, .b _, Below.refl _ _⟩
theorem repeatL_one (x : UInt8) : ∀ c, Lib.repeatL [x] c = List.replicate c x
  | 0 => rfl
  | c + 1 => by rw [Lib.repeatL, repeatL_one x c]; rfl
theorem repeat_ok (x : UInt8) (c : Nat) (hc : c ≤ 140737488355328) : Pure Tryd.prog 52 [.s ⟨#[x]⟩, .n .i64 c] (strB (List.replicate c x)) := by
  refine pure_of_calls (fun us w => enters_of Tryd.func52 (by kernel_rfl) rfl us w) fun w U us hL hU hus => ?_
  obtain ⟨u, u', rfl, hu, hu'⟩ := hus.two
  cases hu
  cases hu'
  match c with
  | 0 =>
    refine (Tryd.strings_Repeat_zero ⟨#[x]⟩ w).mono ?_
    rintro e w' ⟨rfl, rfl⟩
    exact ⟨_, rfl, .s _, Below.refl _ _⟩
  | 1 =>
    refine (Tryd.strings_Repeat_one ⟨#[x]⟩ w).mono ?_
    rintro e w' ⟨rfl, rfl⟩
    exact ⟨_, rfl, .s _, Below.refl _ _⟩
  | c + 2 =>
    refine (Tryd.strings_Repeat_main ⟨#[x]⟩ (c + 2) w (by omega) (by omega) (by show 1 * (c + 2) ≤ _; omega) (by show 0 < 1; decide)).mono ?_
    rintro e w' ⟨rfl, hb⟩
    refine ⟨_, rfl, ?_, hb⟩
    rw [show (⟨#[x]⟩ : ByteArray).data.toList = [x] from rfl, repeatL_one]
    exact .s _
/-- A number with an optional minus sign, as digits. -/
def sdv (l : List UInt8) : Int := if Lib.hasPrefix l [45] then -(dv (l.drop 1) : Int) else (dv l : Int)
theorem u8_digit {c : UInt8} (h : 48 ≤ c.toNat ∧ c.toNat ≤ 57) : IntKind.i64.wrap (IntKind.u8.wrap ((c.toNat : Int) - 48)) = ((c.toNat - 48 : Nat) : Int) := by
  rw [wu8 (by omega), w64 (by omega)]
  omega
theorem zval_snoc (l : List Int) (x : Int) : zval (l ++ [x]) = zval l + 1000000 ^ l.length * x := by
  rw [zval_app]
  simp [zval]
theorem own_appd {α : Type} {f : α → List V} {z : Nat} {st : St} {s0 s bytes : Nat} {l : List α} {x : α} {t : Bool} (hz : ∀ x, (f x).length = z) (ho : look st.objs s0 = some (l.flatMap f)) (h1 : (f x).all V.one = true) (hb : (l.length + 1) * bytes ≤ 2 ^ 47) :
    (SO.appo z bytes).ef st (some s) [.own s0 z 0 l.length, .v (.sl 1 (f x) t)] = some ((st.move s0 s0 ((l ++ [x]).flatMap f)).put (some s) (.own s0 z 0 (l ++ [x]).length)) := by
  simp only [SO.ef, ho, Option.bind_some, appArg, Nat.one_mul, hz x, if_true, Nat.zero_add, flatMap_length hz, List.drop_zero]
  rw [if_pos ⟨trivial, trivial, hb, h1⟩, List.flatMap_append]
  simp
set_option maxHeartbeats 4000000 in
theorem Digits_ok (s : List UInt8) (hl : s.length ≤ 3000000) (hd : isDec (if Lib.hasPrefix s [45] then s.drop 1 else s)) : Pure Tryd.prog 38 [strB s] (zV (sdv s)) := by
  refine pure_of_wp of38 (Nat.le_of_ble_eq_true rfl) ?_
  refine CallK.mk _ (hasPrefix_ok ⟨s.toArray⟩ ⟨#[45]⟩) rfl ?_
  have hh : Lib.hasPrefix (⟨s.toArray⟩ : ByteArray).data.toList (⟨#[45]⟩ : ByteArray).data.toList = Lib.hasPrefix s [45] := rfl
  rw [hh]
  unfold sdv
  generalize hb : Lib.hasPrefix s [45] = b at hd
  cases b
  case true =>
    refine DecK.tt ?_
    refine OptK.mk _ (sFrom 1 rfl (by
      cases s with
      | nil => simp [Lib.hasPrefix] at hb
      | cons a s => simp)) ?_
    rw [if_pos rfl] at hd ⊢
    have hl : (s.drop 1).length ≤ 3000000 := by rw [List.length_drop]; omega
    generalize s.drop 1 = p at hd hl ⊢
    have hz : (fun x : Int => [V.n IntKind.i64 x]) = ni := rfl
    refine loop_ind2 (fun (q : List UInt8) (l : List Int) => ⟨[(0, .v (strB q)), (2, .ref 2 0), (3, .v (.b true)), (4, .own 4 1 0 l.length)], [(4, l.flatMap ni), (2, [.b false, .sl 0 [] true])]⟩) (fun q l => q.length)
      (fun q l => isDec q ∧ q.length + l.length ≤ 3000000 ∧ zdig l ∧ zval l + 1000000 ^ l.length * (dv q : Int) = (dv p : Int)) p [] ⟨hd, by simpa using hl, zdig_nil, by simp [zval]⟩ ?_
    intro q l ⟨h1, h2, h3, h4⟩ ih
    have hs := bsz q
    refine DecK.dec (fun h => ?_) (fun h => ?_)
    · have hq : 0 < q.length := by omega
      have hk : (if IntKind.i64.wrap (((⟨q.toArray⟩ : ByteArray).size : Int) - 6) > 0 then IntKind.i64.wrap (((⟨q.toArray⟩ : ByteArray).size : Int) - 6) else 0) = ((q.length - 6 : Nat) : Int) := by
        rw [hs, w64 (by omega)]
        split <;> omega
      generalize hkk : q.length - 6 = k at hk
      have hk1 : k ≤ q.length := by omega
      have hk2 : q.length ≤ k + 6 := by omega
      have hdk : isDec (q.drop k) := fun c hc => h1 c (List.mem_of_mem_drop hc)
      refine loop_eq (st' := ⟨[(0, .v (strB q)), (2, .ref 2 0), (3, .v (.b true)), (4, .own 4 1 0 l.length), (5, .v (.n .i64 (k : Int))), (6, .v (.n .i64 ((0 : Nat) : Int))), (7, .v (.n .i64 (k : Int)))], [(4, l.flatMap ni), (2, [.b false, .sl 0 [] true])]⟩) (by rw [hk]; rfl) ?_
      refine loop_ind2 (fun (x : Nat) (i : Nat) => ⟨[(0, .v (strB q)), (2, .ref 2 0), (3, .v (.b true)), (4, .own 4 1 0 l.length), (5, .v (.n .i64 (k : Int))), (6, .v (.n .i64 (x : Int))), (7, .v (.n .i64 (i : Int)))], [(4, l.flatMap ni), (2, [.b false, .sl 0 [] true])]⟩) (fun x i => q.length - i)
        (fun x i => k ≤ i ∧ i ≤ q.length ∧ x = dv ((q.take i).drop k)) 0 k ⟨Nat.le_refl _, hk1, by
          have e : (q.take k).drop k = [] := List.drop_eq_nil_of_le (by rw [List.length_take]; omega)
          rw [e]; rfl⟩ ?_
      intro x i ⟨g1, g2, g3⟩ ih'
      refine DecK.dec (fun g => ?_) (fun g => ?_)
      · have hi : i < q.length := by omega
        have hx : q[i]? = some q[i] := List.getElem?_eq_getElem hi
        have hc := h1 q[i] (List.getElem_mem hi)
        have ht : (q.take (i + 1)).drop k = (q.take i).drop k ++ [q[i]] := by
          rw [List.take_add_one, hx, List.drop_append_of_le_length (by rw [List.length_take]; omega)]
          rfl
        have hlt : x < 10 ^ 6 := by
          rw [g3]
          refine Nat.lt_of_lt_of_le (dv_lt fun c hc => h1 c (List.mem_of_mem_take (List.mem_of_mem_drop hc))) (Nat.pow_le_pow_right (by decide) ?_)
          rw [List.length_drop, List.length_take]
          omega
        generalize q[i] = c at hx hc ht
        refine OptK.mk _ (sIdx i rfl hx) ?_
        have w1 := u8_digit hc
        have w2 : IntKind.i64.wrap (IntKind.i64.wrap (10 * (x : Int)) + ((c.toNat - 48 : Nat) : Int)) = ((10 * x + (c.toNat - 48) : Nat) : Int) := by
          rw [w64 (n := 10 * (x : Int)) (by omega), w64 (by omega)]
          omega
        have w3 : IntKind.i64.wrap ((i : Int) + 1) = ((i + 1 : Nat) : Int) := by simp (discharger := omega) only [w64, wu64, wu8, w32, wu32, tdivC, tmodC]; omega
        refine loop_eq (st' := ⟨[(0, .v (strB q)), (2, .ref 2 0), (3, .v (.b true)), (4, .own 4 1 0 l.length), (5, .v (.n .i64 (k : Int))), (6, .v (.n .i64 ((10 * x + (c.toNat - 48) : Nat) : Int))), (7, .v (.n .i64 ((i + 1 : Nat) : Int)))], [(4, l.flatMap ni), (2, [.b false, .sl 0 [] true])]⟩) (by rw [w3, ← w2, ← w1]) (ih' (10 * x + (c.toNat - 48)) (i + 1) ⟨by omega, by omega, ?_⟩ (by omega))
        rw [ht, dv_snoc, g3]
      · have hi : i = q.length := by omega
        subst hi
        rw [List.take_length] at g3
        refine OptK.mk _ (own_appd (l := l) (x := (x : Int)) hz_ni rfl rfl (by omega)) ?_
        refine OptK.mk _ (sTo k rfl hk1) ?_
        have hdv := dv_app (q.take k) (q.drop k)
        rw [List.take_append_drop, ← g3] at hdv
        have hx6 : x < 10 ^ 6 := by
          rw [g3]
          refine Nat.lt_of_lt_of_le (dv_lt hdk) (Nat.pow_le_pow_right (by decide) ?_)
          rw [List.length_drop]
          omega
        refine loop_eq (st' := ⟨[(0, .v (strB (q.take k))), (2, .ref 2 0), (3, .v (.b true)), (4, .own 4 1 0 (l ++ [(x : Int)]).length)], [(4, (l ++ [(x : Int)]).flatMap ni), (2, [.b false, .sl 0 [] true])]⟩) rfl (ih (q.take k) (l ++ [(x : Int)]) ⟨fun c hc => h1 c (List.mem_of_mem_take hc), ?_, ?_, ?_⟩ ?_)
        · rw [List.length_append, List.length_take]; simp; omega
        · exact zdig_app.2 ⟨h3, zdig_cons.2 ⟨by omega, zdig_nil⟩⟩
        · rw [zval_snoc, ← h4, hdv, List.length_append, List.length_singleton, Int.pow_succ]
          by_cases hk0 : k = 0
          · subst hk0
            simp [dv_nil]
          · have : (q.drop k).length = 6 := by rw [List.length_drop]; omega
            rw [this, Int.mul_assoc, Int.add_assoc, ← Int.mul_add]
            congr 2
            omega
        · rw [List.length_take]; omega
    · have hq : q = [] := List.eq_nil_of_length_eq_zero (by omega)
      subst hq
      refine CallK.fz ?_
      refine CallK.mk _ ((trim_ok true h3 (by simp at h2; omega)).args (congrArg (fun v => [V.b _, v]) (snapRow' hz_ni rfl))) rfl ?_
      refine OptK.mk _ rfl ?_
      refine endV rfl ?_
      have e : (dv p : Int) = zval l := by rw [← h4, dv_nil]; simp
      rw [e]
      rfl
  case false =>
    refine DecK.ff ?_
    rw [if_neg (by decide)] at hd ⊢
    generalize s = p at hd hl ⊢
    have hz : (fun x : Int => [V.n IntKind.i64 x]) = ni := rfl
    refine loop_ind2 (fun (q : List UInt8) (l : List Int) => ⟨[(0, .v (strB q)), (2, .ref 2 0), (3, .v (.b false)), (4, .own 4 1 0 l.length)], [(4, l.flatMap ni), (2, [.b false, .sl 0 [] true])]⟩) (fun q l => q.length)
      (fun q l => isDec q ∧ q.length + l.length ≤ 3000000 ∧ zdig l ∧ zval l + 1000000 ^ l.length * (dv q : Int) = (dv p : Int)) p [] ⟨hd, by simpa using hl, zdig_nil, by simp [zval]⟩ ?_
    intro q l ⟨h1, h2, h3, h4⟩ ih
    have hs := bsz q
    refine DecK.dec (fun h => ?_) (fun h => ?_)
    · have hq : 0 < q.length := by omega
      have hk : (if IntKind.i64.wrap (((⟨q.toArray⟩ : ByteArray).size : Int) - 6) > 0 then IntKind.i64.wrap (((⟨q.toArray⟩ : ByteArray).size : Int) - 6) else 0) = ((q.length - 6 : Nat) : Int) := by
        rw [hs, w64 (by omega)]
        split <;> omega
      generalize hkk : q.length - 6 = k at hk
      have hk1 : k ≤ q.length := by omega
      have hk2 : q.length ≤ k + 6 := by omega
      have hdk : isDec (q.drop k) := fun c hc => h1 c (List.mem_of_mem_drop hc)
      refine loop_eq (st' := ⟨[(0, .v (strB q)), (2, .ref 2 0), (3, .v (.b false)), (4, .own 4 1 0 l.length), (5, .v (.n .i64 (k : Int))), (6, .v (.n .i64 ((0 : Nat) : Int))), (7, .v (.n .i64 (k : Int)))], [(4, l.flatMap ni), (2, [.b false, .sl 0 [] true])]⟩) (by rw [hk]; rfl) ?_
      refine loop_ind2 (fun (x : Nat) (i : Nat) => ⟨[(0, .v (strB q)), (2, .ref 2 0), (3, .v (.b false)), (4, .own 4 1 0 l.length), (5, .v (.n .i64 (k : Int))), (6, .v (.n .i64 (x : Int))), (7, .v (.n .i64 (i : Int)))], [(4, l.flatMap ni), (2, [.b false, .sl 0 [] true])]⟩) (fun x i => q.length - i)
        (fun x i => k ≤ i ∧ i ≤ q.length ∧ x = dv ((q.take i).drop k)) 0 k ⟨Nat.le_refl _, hk1, by
          have e : (q.take k).drop k = [] := List.drop_eq_nil_of_le (by rw [List.length_take]; omega)
          rw [e]; rfl⟩ ?_
      intro x i ⟨g1, g2, g3⟩ ih'
      refine DecK.dec (fun g => ?_) (fun g => ?_)
      · have hi : i < q.length := by omega
        have hx : q[i]? = some q[i] := List.getElem?_eq_getElem hi
        have hc := h1 q[i] (List.getElem_mem hi)
        have ht : (q.take (i + 1)).drop k = (q.take i).drop k ++ [q[i]] := by
          rw [List.take_add_one, hx, List.drop_append_of_le_length (by rw [List.length_take]; omega)]
          rfl
        have hlt : x < 10 ^ 6 := by
          rw [g3]
          refine Nat.lt_of_lt_of_le (dv_lt fun c hc => h1 c (List.mem_of_mem_take (List.mem_of_mem_drop hc))) (Nat.pow_le_pow_right (by decide) ?_)
          rw [List.length_drop, List.length_take]
          omega
        generalize q[i] = c at hx hc ht
        refine OptK.mk _ (sIdx i rfl hx) ?_
        have w1 := u8_digit hc
        have w2 : IntKind.i64.wrap (IntKind.i64.wrap (10 * (x : Int)) + ((c.toNat - 48 : Nat) : Int)) = ((10 * x + (c.toNat - 48) : Nat) : Int) := by
          rw [w64 (n := 10 * (x : Int)) (by omega), w64 (by omega)]
          omega
        have w3 : IntKind.i64.wrap ((i : Int) + 1) = ((i + 1 : Nat) : Int) := by simp (discharger := omega) only [w64, wu64, wu8, w32, wu32, tdivC, tmodC]; omega
        refine loop_eq (st' := ⟨[(0, .v (strB q)), (2, .ref 2 0), (3, .v (.b false)), (4, .own 4 1 0 l.length), (5, .v (.n .i64 (k : Int))), (6, .v (.n .i64 ((10 * x + (c.toNat - 48) : Nat) : Int))), (7, .v (.n .i64 ((i + 1 : Nat) : Int)))], [(4, l.flatMap ni), (2, [.b false, .sl 0 [] true])]⟩) (by rw [w3, ← w2, ← w1]) (ih' (10 * x + (c.toNat - 48)) (i + 1) ⟨by omega, by omega, ?_⟩ (by omega))
        rw [ht, dv_snoc, g3]
      · have hi : i = q.length := by omega
        subst hi
        rw [List.take_length] at g3
        refine OptK.mk _ (own_appd (l := l) (x := (x : Int)) hz_ni rfl rfl (by omega)) ?_
        refine OptK.mk _ (sTo k rfl hk1) ?_
        have hdv := dv_app (q.take k) (q.drop k)
        rw [List.take_append_drop, ← g3] at hdv
        have hx6 : x < 10 ^ 6 := by
          rw [g3]
          refine Nat.lt_of_lt_of_le (dv_lt hdk) (Nat.pow_le_pow_right (by decide) ?_)
          rw [List.length_drop]
          omega
        refine loop_eq (st' := ⟨[(0, .v (strB (q.take k))), (2, .ref 2 0), (3, .v (.b false)), (4, .own 4 1 0 (l ++ [(x : Int)]).length)], [(4, (l ++ [(x : Int)]).flatMap ni), (2, [.b false, .sl 0 [] true])]⟩) rfl (ih (q.take k) (l ++ [(x : Int)]) ⟨fun c hc => h1 c (List.mem_of_mem_take hc), ?_, ?_, ?_⟩ ?_)
        · rw [List.length_append, List.length_take]; simp; omega
        · exact zdig_app.2 ⟨h3, zdig_cons.2 ⟨by omega, zdig_nil⟩⟩
        · rw [zval_snoc, ← h4, hdv, List.length_append, List.length_singleton, Int.pow_succ]
          by_cases hk0 : k = 0
          · subst hk0
            simp [dv_nil]
          · have : (q.drop k).length = 6 := by rw [List.length_drop]; omega
            rw [this, Int.mul_assoc, Int.add_assoc, ← Int.mul_add]
            congr 2
            omega
        · rw [List.length_take]; omega
    · have hq : q = [] := List.eq_nil_of_length_eq_zero (by omega)
      subst hq
      refine CallK.fz ?_
      refine CallK.mk _ ((trim_ok false h3 (by simp at h2; omega)).args (congrArg (fun v => [V.b _, v]) (snapRow' hz_ni rfl))) rfl ?_
      refine OptK.mk _ rfl ?_
      refine endV rfl ?_
      have e : (dv p : Int) = zval l := by rw [← h4, dv_nil]; simp
      rw [e]
      rfl
end Go.Proofs.YtljcbmnkjiogmaaDoor.Sv
