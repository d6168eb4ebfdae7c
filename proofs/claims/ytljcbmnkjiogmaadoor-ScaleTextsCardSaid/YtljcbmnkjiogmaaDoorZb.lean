/- The reference's whole numbers: trim, U, I, Minus, Abs, Sign. No condition. -/
import Derived.Test.YtljcbmnkjiogmaaDoorZa
import Derived.Test.YtljcbmnkjiogmaaDoorProg
namespace Go.Proofs.YtljcbmnkjiogmaaDoor.Sv
open Go Go.RowKit
set_option linter.unusedVariables false
set_option linter.unusedSimpArgs false
set_option maxRecDepth 100000
/-- live: [0, 1, 4] -/
def L56_0 : SC := .seq (.seq (.reg [⟨some 5, none, .mv, [.tm 1]⟩, ⟨some 6, none, .len false, [.tm 5]⟩, ⟨some 7, none, .po (.bin .gtr), [.tm 6, .cn (.n .i64 0)]⟩, ⟨some 8, none, .mv, [.tm 7]⟩, ⟨some 9, some (8, true), .mv, [.tm 1]⟩, ⟨some 10, some (8, true), .mv, [.tm 1]⟩, ⟨some 11, some (8, true), .len false, [.tm 10]⟩, ⟨some 12, some (8, true), .po (.bin .sub), [.tm 11, .cn (.n .i64 1)]⟩, ⟨some 13, some (8, true), .ia none 1, [.tm 9, .tm 12]⟩, ⟨some 14, some (8, true), .ld false 1 true, [.tm 13]⟩, ⟨some 15, some (8, true), .po (.bin .eql), [.tm 14, .cn (.n .i64 0)]⟩, ⟨some 16, none, .pick, [.tm 8, .tm 15, .cn (.b false)]⟩] [0, 1, 4, 16]) (.cond (.tm 16) .skip (.exit 0))) (.block 1 (.reg [⟨some 17, none, .mv, [.tm 1]⟩, ⟨some 18, none, .mv, [.tm 1]⟩, ⟨some 19, none, .len false, [.tm 18]⟩, ⟨some 20, none, .po (.bin .sub), [.tm 19, .cn (.n .i64 1)]⟩, ⟨some 21, none, .sl false 1 false true false, [.tm 17, .tm 20]⟩, ⟨some 1, none, .mv, [.tm 21]⟩] [0, 1, 4]))
/-- spyglass/spyref1.trim -/
def F56 : Fn1 := ⟨30, .seq (.reg [⟨some 4, none, .alloc [.b false, .sl 0 [] true], []⟩] [0, 1, 4]) (.seq (.block 0 (.loop [0, 1, 4] L56_0)) (.seq (.reg [⟨some 22, none, .mv, [.tm 0]⟩, ⟨some 23, none, .mv, [.tm 22]⟩, ⟨some 24, some (23, true), .mv, [.tm 1]⟩, ⟨some 25, some (23, true), .len false, [.tm 24]⟩, ⟨some 26, some (23, true), .po (.bin .gtr), [.tm 25, .cn (.n .i64 0)]⟩, ⟨some 27, none, .pick, [.tm 23, .tm 26, .cn (.b false)]⟩, ⟨some 28, none, .mv, [.tm 1]⟩, ⟨some 29, none, .po (.build [.b false, .sl 0 [] true] [(0, 1), (1, 1)]), [.tm 27, .tm 28]⟩, ⟨none, none, .st 2, [.tm 4, .tm 29]⟩] [4]) .ret)), [.cell 4 true 2]⟩
theorem of56 : Fn1.of Tryd.prog 56 ⟨false, [], false⟩ [[0, 1, 4], [0, 1, 4], [0, 1, 4, 16], [0, 1, 4], [4]] = some F56 := by kernel_rfl
/-- live: [0, 2, 3] -/
def L74_0 : SC := .seq (.seq (.reg [⟨some 4, none, .mv, [.tm 0]⟩, ⟨some 5, none, .po (.bin .gtr), [.tm 4, .cn (.n .u64 0)]⟩] [0, 2, 3, 5]) (.cond (.tm 5) .skip (.exit 0))) (.seq (.block 1 (.reg [⟨some 8, none, .mv, [.tm 3]⟩, ⟨some 9, none, .mv, [.tm 0]⟩, ⟨some 10, none, .po (.bin .rem), [.tm 9, .cn (.n .u64 1000000)]⟩, ⟨some 11, none, .po (.toInt .i64), [.tm 10]⟩, ⟨some 12, none, .po (.bsl 1 [.n .i64 0] [(0, 1)]), [.tm 11]⟩, ⟨some 13, none, .app 1 8, [.tm 8, .tm 12]⟩, ⟨some 3, none, .mv, [.tm 13]⟩] [0, 2, 3])) (.reg [⟨some 6, none, .mv, [.tm 0]⟩, ⟨some 7, none, .po (.bin .quo), [.tm 6, .cn (.n .u64 1000000)]⟩, ⟨some 0, none, .mv, [.tm 7]⟩] [0, 2, 3]))
/-- spyglass/spyref1.U -/
def F74 : Fn1 := ⟨16, .seq (.reg [⟨some 2, none, .alloc [.b false, .sl 0 [] true], []⟩] [0, 2]) (.seq (.reg [⟨some 3, none, .adopt 1, []⟩] [0, 2, 3]) (.seq (.block 0 (.loop [0, 2, 3] L74_0)) (.seq (.reg [⟨some 14, none, .mv, [.tm 3]⟩, ⟨some 15, none, .po (.build [.b false, .sl 0 [] true] [(0, 1), (1, 1)]), [.cn (.b false), .tm 14]⟩, ⟨none, none, .st 2, [.tm 2, .tm 15]⟩] [2]) .ret))), [.cell 2 true 2]⟩
theorem of74 : Fn1.of Tryd.prog 74 ⟨true, [], false⟩ [[0, 2], [0, 2, 3], [0, 2, 3], [0, 2, 3, 5], [0, 2, 3], [0, 2, 3], [2]] = some F74 := by kernel_rfl
/-- spyglass/spyref1.I -/
def F58 : Fn1 := ⟨16, .seq (.reg [⟨some 2, none, .alloc [.b false, .sl 0 [] true], []⟩] [0, 2]) (.seq (.seq (.reg [⟨some 4, none, .mv, [.tm 0]⟩, ⟨some 5, none, .po (.bin .lss), [.tm 4, .cn (.n .i64 0)]⟩] [0, 2, 5]) (.cond (.tm 5) (.seq (.reg [⟨some 6, none, .mv, [.tm 0]⟩, ⟨some 7, none, .po (.toInt .u64), [.tm 6]⟩, ⟨some 8, none, .po (.un .neg), [.tm 7]⟩, ⟨some 9, none, .call 74, [.tm 8]⟩, ⟨some 3, none, .alloc [.b false, .sl 0 [] true], []⟩, ⟨none, none, .st 2, [.tm 3, .tm 9]⟩] [2, 3]) (.seq (.reg [⟨some 10, none, .fa 1, [.tm 3]⟩, ⟨some 11, none, .ld false 1 false, [.tm 10]⟩, ⟨some 12, none, .po (.build [.b false, .sl 0 [] true] [(0, 1), (1, 1)]), [.cn (.b true), .tm 11]⟩, ⟨none, none, .st 2, [.tm 2, .tm 12]⟩] [2]) .ret)) .skip)) (.seq (.reg [⟨some 13, none, .mv, [.tm 0]⟩, ⟨some 14, none, .po (.toInt .u64), [.tm 13]⟩, ⟨some 15, none, .call 74, [.tm 14]⟩, ⟨none, none, .st 2, [.tm 2, .tm 15]⟩] [2]) .ret)), [.cell 2 true 2]⟩
theorem of58 : Fn1.of Tryd.prog 58 ⟨false, [], false⟩ [[0, 2], [0, 2, 5], [2, 3], [2], [2]] = some F58 := by kernel_rfl
theorem trimmed {neg : Bool} {l : List Int} {n : Int} (h1 : zdig l) (h2 : zval l = n) (hc : zcan l) : V.agg [.b (neg && decide ((l.length : Int) > 0)), intsV l] = zV (if neg then -n else n) := by
  have h0 := zval_nonneg h1
  obtain ⟨m, rfl⟩ : ∃ m : Nat, n = m := ⟨n.toNat, by omega⟩
  have e := zcan_digs h1 hc h2
  have hl : (l.length : Int) > 0 ↔ 0 < m := by
    rw [← e]
    have := digs_nil (n := m)
    rw [← List.length_eq_zero_iff] at this
    omega
  cases neg
  · simp only [Bool.false_and, Bool.false_eq_true, if_false, zV, zC, digV, Int.natAbs_natCast, e]
    simp [show ¬ (m : Int) < 0 by omega]
  · simp only [Bool.true_and, if_true, zV, zC, digV, Int.natAbs_neg, Int.natAbs_natCast, e]
    simp [hl]
    omega
theorem trim_ok (neg : Bool) {d : List Int} (hd : zdig d) (hl : d.length ≤ 4000000) : Pure Tryd.prog 56 [.b neg, intsV d] (zV (if neg then -zval d else zval d)) := by
  refine pure_of_wp of56 (Nat.le_of_ble_eq_true rfl) ?_
  refine loop_ind (fun l : List Int => ⟨[(0, .v (.b neg)), (1, .v (intsV l)), (4, .ref 4 0)], [(4, [.b false, .sl 0 [] true])]⟩) (fun l => l.length) (fun l => zdig l ∧ zval l = zval d ∧ l.length ≤ d.length) d ⟨hd, rfl, Nat.le_refl _⟩ ?_
  intro l ⟨h1, h2, h3⟩ ih
  have fin : zcan l → ∀ b : Bool, b = decide ((l.length : Int) > 0) → V.agg [.b (neg && b), intsV l] = zV (if neg then -zval d else zval d) := fun hc b hb => by rw [hb]; exact trimmed h1 h2 hc
  refine DecK.dec (fun hp => ?_) (fun hp => ?_)
  · obtain ⟨m, x, rfl⟩ : ∃ m x, l = m ++ [x] := ⟨l.dropLast, l.getLast (by intro e; subst e; simp at hp), (List.dropLast_concat_getLast _).symm⟩
    have hw : IntKind.i64.wrap (((m ++ [x]).length : Int) - 1) = m.length := by rw [w64 (by omega)]; simp
    refine OptK.mk _ (row_ia (by rw [hw]; omega) (by rw [hw]; simp; omega)) ?_
    refine OptK.mk _ (row_ld1 (f := fun x => .n .i64 x) (x := x) hw (by simp)) ?_
    refine DecK.beq (fun hx => ?_) (fun hx => ?_)
    · refine OptK.mk _ (row_to hz_ni (by rw [hw]; omega) (by rw [hw]; simp; omega)) ?_
      have e : (m ++ [x]).take (IntKind.i64.wrap (((m ++ [x]).length : Int) - 1)).toNat = m := by rw [hw]; simp
      rw [e]
      refine ih m ⟨(zdig_app.1 h1).1, ?_, ?_⟩ ?_
      · rw [← h2, zval_app, hx]; simp [zval]
      · simp at h3; omega
      · simp
    · have hc : zcan (m ++ [x]) := fun k hk => hx (by have := List.append_inj_right' hk rfl; simpa using this)
      cases neg
      all_goals ((repeat' first | refine DecK.tt ?_ | refine DecK.ff ?_ | refine DecK.beq (fun _ => ?_) (fun _ => ?_) | refine DecK.bne (fun _ => ?_) (fun _ => ?_) | refine DecK.dec (fun _ => ?_) (fun _ => ?_) | refine OptK.mk _ rfl ?_ | refine endV (by rfl) ?_) <;> (try with_reducible rfl))
      all_goals exact fin hc _ rfl
  · have hc : zcan l := fun k hk => hp (by rw [hk]; simp)
    cases neg
    all_goals ((repeat' first | refine DecK.tt ?_ | refine DecK.ff ?_ | refine DecK.beq (fun _ => ?_) (fun _ => ?_) | refine DecK.bne (fun _ => ?_) (fun _ => ?_) | refine DecK.dec (fun _ => ?_) (fun _ => ?_) | refine OptK.mk _ rfl ?_ | refine endV (by rfl) ?_) <;> (try with_reducible rfl))
    all_goals exact fin hc _ rfl
theorem U_ok (x : Int) (hx : 0 ≤ x ∧ x ≤ 18446744073709551615) : Pure Tryd.prog 74 [.n .u64 x] (zV x) := by
  refine pure_of_wp of74 (Nat.le_of_ble_eq_true rfl) ?_
  have hlen : (digs x.toNat).length ≤ 4 := digs_len (by omega)
  refine loop_ind2 (fun (n : Int) (l : List Int) => ⟨[(0, .v (.n .u64 n)), (2, .ref 2 0), (3, .own 3 1 0 l.length)], [(3, l.flatMap ni), (2, [.b false, .sl 0 [] true])]⟩) (fun n l => n.toNat)
    (fun n l => 0 ≤ n ∧ n ≤ 18446744073709551615 ∧ l ++ digs n.toNat = digs x.toNat) x [] (by simp; omega) ?_
  intro n l ⟨h1, h2, h3⟩ ih
  have hl : l.length ≤ 4 := by have := congrArg List.length h3; simp at this; omega
  refine DecK.dec (fun hp => ?_) (fun hp => ?_)
  · have e1 : IntKind.i64.wrap (n.tmod 1000000) = n % 1000000 := by simp (discharger := omega) only [w64, wu64, wu8, w32, wu32, tdivC, tmodC]; omega
    have e2 : IntKind.u64.wrap (n.tdiv 1000000) = n / 1000000 := by simp (discharger := omega) only [w64, wu64, wu8, w32, wu32, tdivC, tmodC]; omega
    refine OptK.mk _ (own_app (f := ni) hz_ni rfl rfl (by omega)) ?_
    have hd := digs_pos (n := n.toNat) (by omega)
    refine ih _ (l ++ [_]) ⟨?_, ?_, ?_⟩ ?_
    all_goals rw [e2]
    · omega
    · omega
    · rw [e1, ← h3, hd]
      have : ((n.toNat % 1000000 : Nat) : Int) = n % 1000000 := by omega
      have : (n / 1000000).toNat = n.toNat / 1000000 := by omega
      simp [*]
    · omega
  · have : n = 0 := by omega
    subst this
    ((repeat' first | refine DecK.tt ?_ | refine DecK.ff ?_ | refine DecK.beq (fun _ => ?_) (fun _ => ?_) | refine DecK.bne (fun _ => ?_) (fun _ => ?_) | refine DecK.dec (fun _ => ?_) (fun _ => ?_) | refine OptK.mk _ rfl ?_ | refine endV (by rfl) ?_) <;> (try with_reducible rfl))
    have : l = digs x.toNat := by rw [← h3]; simp [digs_zero]
    simp only [snapRow hz_ni, this]
    have h : zV x = .agg [.b false, digV x.toNat] := by rw [zV, zC, show x.natAbs = x.toNat by omega, show decide (x < 0) = false by simp; omega]
    rw [h]; rfl
theorem I_ok (x : Int) (hx : -9223372036854775808 ≤ x ∧ x ≤ 9223372036854775807) : Pure Tryd.prog 58 [.n .i64 x] (zV x) := by
  refine pure_of_wp of58 (Nat.le_of_ble_eq_true rfl) ?_
  refine DecK.dec (fun hp => ?_) (fun hp => ?_)
  · have e1 : IntKind.u64.wrap (0 - IntKind.u64.wrap x) = -x := by simp only [wmu64]; omega
    refine CallK.mk _ (U_ok _ (by rw [e1]; omega)) rfl ?_
    ((repeat' first | refine DecK.tt ?_ | refine DecK.ff ?_ | refine DecK.beq (fun _ => ?_) (fun _ => ?_) | refine DecK.bne (fun _ => ?_) (fun _ => ?_) | refine DecK.dec (fun _ => ?_) (fun _ => ?_) | refine OptK.mk _ rfl ?_ | refine endV (by rfl) ?_) <;> (try with_reducible rfl))
    rw [e1]
    have h : zV x = .agg [.b true, digV (-x).natAbs] := by simp [hp]
    rw [h]; rfl
  · have e1 : IntKind.u64.wrap x = x := by simp only [wmu64]; omega
    refine CallK.mk _ (U_ok _ (by rw [e1]; omega)) rfl ?_
    ((repeat' first | refine DecK.tt ?_ | refine DecK.ff ?_ | refine DecK.beq (fun _ => ?_) (fun _ => ?_) | refine DecK.bne (fun _ => ?_) (fun _ => ?_) | refine DecK.dec (fun _ => ?_) (fun _ => ?_) | refine OptK.mk _ rfl ?_ | refine endV (by rfl) ?_) <;> (try with_reducible rfl))
    rw [e1]; rfl
end Go.Proofs.YtljcbmnkjiogmaaDoor.Sv
