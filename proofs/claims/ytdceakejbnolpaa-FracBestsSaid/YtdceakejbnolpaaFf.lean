/- Fractions: the law FracBests. No condition. -/
import Derived.Test.YtdceakejbnolpaaFc
import Derived.Test.YtdceakejbnolpaaFe
namespace Go.Proofs.Ytdceakejbnolpaa.Sv
open Go Go.RowKit
set_option linter.unusedVariables false
set_option linter.unusedSimpArgs false
set_option maxRecDepth 100000
/-- spyglass/frac.Add -/
def F101 : Fn1 := ⟨73, .seq (.reg [⟨some 2, none, .box, [.tm 0]⟩, ⟨some 3, none, .box, [.tm 1]⟩, ⟨some 4, none, .alloc [.n .i64 0, .n .i64 0], []⟩, ⟨some 5, none, .mv, [.cn (.n .i64 0)]⟩] [2, 3, 4]) (.seq (.seq (.reg [⟨some 14, none, .ld true 2 false, [.tm 2]⟩, ⟨some 15, none, .ld true 2 false, [.tm 3]⟩, ⟨some 16, none, .call 152, [.tm 14, .tm 15]⟩, ⟨some 6, none, .mv, [.tm 16]⟩] [2, 3, 4, 6]) (.seq (.reg [⟨some 17, none, .mv, [.tm 6]⟩, ⟨some 18, none, .po (.bin .neq), [.tm 17, .cn (.n .i64 0)]⟩] [2, 3, 4, 6, 18]) (.cond (.tm 18) (.seq (.reg [⟨some 19, none, .po (.build [.n .i64 0, .n .i64 0] []), []⟩, ⟨some 20, none, .mv, [.tm 6]⟩, ⟨none, none, .st 2, [.tm 4, .tm 19]⟩, ⟨some 5, none, .mv, [.tm 20]⟩] [4, 5]) .ret) .skip))) (.seq (.reg [⟨some 21, none, .fa 1, [.tm 2]⟩, ⟨some 22, none, .ld false 1 false, [.tm 21]⟩, ⟨some 23, none, .fa 1, [.tm 3]⟩, ⟨some 24, none, .ld false 1 false, [.tm 23]⟩, ⟨some 25, none, .call 144, [.tm 22, .tm 24]⟩, ⟨some 7, none, .mv, [.tm 25]⟩] [2, 3, 4, 7]) (.seq (.dreg [⟨some 26, none, .fa 0, [.tm 2]⟩, ⟨some 27, none, .ld false 1 false, [.tm 26]⟩, ⟨some 28, none, .fa 1, [.tm 3]⟩, ⟨some 29, none, .ld false 1 false, [.tm 28]⟩, ⟨some 30, none, .mv, [.tm 7]⟩, ⟨some 31, none, .po (.bin .quo), [.tm 29, .tm 30]⟩, ⟨some 32, none, .call 96, [.tm 27, .tm 31]⟩, ⟨some 33, none, .fa 0, [.tm 3]⟩, ⟨some 34, none, .ld false 1 false, [.tm 33]⟩, ⟨some 35, none, .fa 1, [.tm 2]⟩, ⟨some 36, none, .ld false 1 false, [.tm 35]⟩, ⟨some 37, none, .mv, [.tm 7]⟩, ⟨some 38, none, .po (.bin .quo), [.tm 36, .tm 37]⟩, ⟨some 39, none, .call 96, [.tm 34, .tm 38]⟩, ⟨some 40, none, .call 148, [.tm 32, .tm 39]⟩, ⟨some 8, none, .alloc [.n .i64 0, .n .u64 0], []⟩, ⟨none, none, .st 2, [.tm 8, .tm 40]⟩] [] [2, 3, 4, 7, 8]) (.seq (.reg [⟨some 41, none, .ld true 2 false, [.tm 8]⟩, ⟨some 42, none, .mv, [.tm 7]⟩, ⟨some 43, none, .call 137, [.tm 41, .tm 42]⟩, ⟨some 44, none, .mv, [.tm 7]⟩, ⟨some 45, none, .call 144, [.tm 43, .tm 44]⟩, ⟨some 9, none, .mv, [.tm 45]⟩] [2, 3, 4, 7, 8, 9]) (.seq (.reg [⟨some 47, none, .ld true 2 false, [.tm 8]⟩, ⟨some 48, none, .mv, [.tm 9]⟩, ⟨some 49, none, .call 136, [.tm 47, .tm 48]⟩, ⟨some 46, none, .mv, [.tm 49]⟩, ⟨some 50, none, .po (.ext 0), [.tm 46]⟩, ⟨some 51, none, .po (.ext 1), [.tm 46]⟩, ⟨some 10, none, .mv, [.tm 50]⟩, ⟨some 11, none, .mv, [.tm 51]⟩] [2, 3, 4, 7, 9, 10, 11]) (.seq (.dreg [⟨some 53, none, .fa 1, [.tm 2]⟩, ⟨some 54, none, .ld false 1 false, [.tm 53]⟩, ⟨some 55, none, .mv, [.tm 7]⟩, ⟨some 56, none, .po (.bin .quo), [.tm 54, .tm 55]⟩, ⟨some 57, none, .fa 1, [.tm 3]⟩, ⟨some 58, none, .ld false 1 false, [.tm 57]⟩, ⟨some 59, none, .mv, [.tm 9]⟩, ⟨some 60, none, .po (.bin .quo), [.tm 58, .tm 59]⟩, ⟨some 61, none, .call 153, [.tm 56, .tm 60]⟩, ⟨some 52, none, .mv, [.tm 61]⟩, ⟨some 62, none, .po (.ext 0), [.tm 52]⟩, ⟨some 63, none, .po (.ext 1), [.tm 52]⟩, ⟨some 12, none, .mv, [.tm 62]⟩, ⟨some 13, none, .mv, [.tm 63]⟩] [] [4, 10, 11, 12, 13]) (.seq (.reg [⟨some 64, none, .mv, [.tm 10]⟩, ⟨some 65, none, .mv, [.tm 12]⟩, ⟨some 66, none, .mv, [.tm 11]⟩, ⟨some 67, none, .po (.bin .eql), [.tm 66, .cn (.n .i64 0)]⟩, ⟨some 68, none, .mv, [.tm 13]⟩, ⟨some 69, none, .po (.bsl 2 [.b false] [(0, 1), (1, 1)]), [.tm 67, .tm 68]⟩, ⟨some 70, none, .call 154, [.tm 64, .tm 65, .tm 69]⟩, ⟨some 71, none, .po (.ext 0), [.tm 70]⟩, ⟨some 72, none, .po (.ext 1), [.tm 70]⟩, ⟨none, none, .st 2, [.tm 4, .tm 71]⟩, ⟨some 5, none, .mv, [.tm 72]⟩] [4, 5]) .ret))))))), [.cell 4 true 2, .tm 5]⟩
theorem of101 : Fn1.of Try.prog 101 ⟨false, [], false⟩ [[2, 3, 4], [2, 3, 4, 6], [2, 3, 4, 6, 18], [4, 5], [2, 3, 4, 7], [2, 3, 4, 7, 8], [2, 3, 4, 7, 8, 9], [2, 3, 4, 7, 9, 10, 11], [4, 10, 11, 12, 13], [4, 5]] = some F101 := by kernel_rfl
/-- spyglass/spylaw1.fracs -/
def F45 : Fn1 := ⟨32, .seq (.reg [⟨some 0, none, .mv, [.cn (.b false)]⟩] []) (.seq (.reg [⟨some 6, none, .po (.build [.n .i64 0, .n .i64 0] [(0, 1), (1, 1)]), [.cn (.n .i64 1), .cn (.n .i64 6)]⟩, ⟨some 7, none, .po (.build [.n .i64 0, .n .i64 0] [(0, 1), (1, 1)]), [.cn (.n .i64 1), .cn (.n .i64 10)]⟩, ⟨some 8, none, .call 101, [.tm 6, .tm 7]⟩, ⟨some 5, none, .mv, [.tm 8]⟩, ⟨some 9, none, .po (.ext 0), [.tm 5]⟩, ⟨some 10, none, .po (.ext 1), [.tm 5]⟩, ⟨some 1, none, .alloc [.n .i64 0, .n .i64 0], []⟩, ⟨none, none, .st 2, [.tm 1, .tm 9]⟩, ⟨some 2, none, .mv, [.tm 10]⟩] [1, 2]) (.seq (.reg [⟨some 12, none, .po (.build [.n .i64 0, .n .i64 0] [(0, 1), (1, 1)]), [.cn (.n .i64 157), .cn (.n .i64 50)]⟩, ⟨some 13, none, .call 42, [.tm 12, .cn (.n .i64 10)]⟩, ⟨some 11, none, .mv, [.tm 13]⟩, ⟨some 14, none, .po (.ext 0), [.tm 11]⟩, ⟨some 15, none, .po (.ext 1), [.tm 11]⟩, ⟨some 3, none, .alloc [.n .i64 0, .n .i64 0], []⟩, ⟨none, none, .st 2, [.tm 3, .tm 14]⟩, ⟨some 4, none, .mv, [.tm 15]⟩] [1, 2, 3, 4]) (.seq (.reg [⟨some 16, none, .mv, [.tm 2]⟩, ⟨some 17, none, .po (.bin .eql), [.tm 16, .cn (.n .i64 0)]⟩, ⟨some 18, none, .mv, [.tm 17]⟩, ⟨some 19, some (18, true), .mv, [.tm 4]⟩, ⟨some 20, some (18, true), .po (.bin .eql), [.tm 19, .cn (.n .i64 0)]⟩, ⟨some 21, none, .pick, [.tm 18, .tm 20, .cn (.b false)]⟩, ⟨some 22, none, .mv, [.tm 21]⟩, ⟨some 23, some (22, true), .ld true 2 false, [.tm 1]⟩, ⟨some 24, some (22, true), .po (.build [.n .i64 0, .n .i64 0] [(0, 1), (1, 1)]), [.cn (.n .i64 4), .cn (.n .i64 15)]⟩, ⟨some 25, some (22, true), .po (.veq false [(0, .n), (1, .n)]), [.tm 23, .tm 24]⟩, ⟨some 26, none, .pick, [.tm 22, .tm 25, .cn (.b false)]⟩, ⟨some 27, none, .mv, [.tm 26]⟩, ⟨some 28, some (27, true), .ld true 2 false, [.tm 3]⟩, ⟨some 29, some (27, true), .po (.build [.n .i64 0, .n .i64 0] [(0, 1), (1, 1)]), [.cn (.n .i64 22), .cn (.n .i64 7)]⟩, ⟨some 30, some (27, true), .po (.veq false [(0, .n), (1, .n)]), [.tm 28, .tm 29]⟩, ⟨some 31, none, .pick, [.tm 27, .tm 30, .cn (.b false)]⟩, ⟨some 0, none, .mv, [.tm 31]⟩] [0]) .ret))), [.tm 0]⟩
theorem of45 : Fn1.of Try.prog 45 ⟨false, [], false⟩ [[], [1, 2], [1, 2, 3, 4], [0]] = some F45 := by kernel_rfl
/-- spyglass/spylaw1.FracBests -/
def F9 : Fn1 := ⟨42, .seq (.reg [⟨some 2, none, .box, [.tm 0]⟩, ⟨some 4, none, .mv, [.cn (.b false)]⟩] [1, 2]) (.seq (.reg [⟨some 10, none, .ld true 2 false, [.tm 2]⟩, ⟨some 11, none, .mv, [.tm 1]⟩, ⟨some 12, none, .call 42, [.tm 10, .tm 11]⟩, ⟨some 9, none, .mv, [.tm 12]⟩, ⟨some 13, none, .po (.ext 0), [.tm 9]⟩, ⟨some 14, none, .po (.ext 1), [.tm 9]⟩, ⟨some 5, none, .alloc [.n .i64 0, .n .i64 0], []⟩, ⟨none, none, .st 2, [.tm 5, .tm 13]⟩, ⟨some 6, none, .mv, [.tm 14]⟩] [1, 2, 5, 6]) (.seq (.reg [⟨some 15, none, .po (.build [.n .i64 0, .n .i64 0] []), []⟩, ⟨some 16, none, .ld true 2 false, [.tm 2]⟩, ⟨some 17, none, .call 43, [.tm 16]⟩, ⟨some 7, none, .alloc [.n .i64 0, .n .i64 0], []⟩, ⟨none, none, .st 2, [.tm 7, .tm 15]⟩, ⟨some 8, none, .mv, [.tm 17]⟩] [1, 2, 5, 6, 7, 8]) (.seq (.block 0 (.seq (.reg [⟨some 22, none, .mv, [.tm 8]⟩, ⟨some 23, none, .po (.bin .neq), [.tm 22, .cn (.n .i64 0)]⟩, ⟨some 21, none, .mv, [.tm 23]⟩] [1, 2, 5, 6, 7, 8, 21]) (.cond (.tm 21) .skip (.seq (.reg [⟨some 25, none, .mv, [.tm 1]⟩, ⟨some 26, none, .po (.bin .lss), [.tm 25, .cn (.n .i64 1)]⟩, ⟨some 27, none, .mv, [.tm 26]⟩, ⟨some 28, some (27, false), .mv, [.tm 1]⟩, ⟨some 29, some (27, false), .po (.bin .gtr), [.tm 28, .cn (.n .i64 4096)]⟩, ⟨some 30, none, .pick, [.tm 27, .cn (.b true), .tm 29]⟩, ⟨some 24, none, .mv, [.tm 30]⟩] [1, 2, 5, 6, 7, 8, 24]) (.cond (.tm 24) (.reg [⟨some 8, none, .mv, [.cn (.n .i64 4)]⟩] [5, 6, 7, 8]) (.reg [⟨some 18, none, .ld true 2 false, [.tm 2]⟩, ⟨some 19, none, .mv, [.tm 1]⟩, ⟨some 20, none, .call 44, [.tm 18, .tm 19]⟩, ⟨none, none, .st 2, [.tm 7, .tm 20]⟩] [5, 6, 7, 8])))))) (.seq (.reg [⟨some 31, none, .call 45, []⟩, ⟨some 32, none, .mv, [.tm 31]⟩, ⟨some 33, some (32, true), .ld true 2 false, [.tm 5]⟩, ⟨some 34, some (32, true), .ld true 2 false, [.tm 7]⟩, ⟨some 35, some (32, true), .po (.veq false [(0, .n), (1, .n)]), [.tm 33, .tm 34]⟩, ⟨some 36, none, .pick, [.tm 32, .tm 35, .cn (.b false)]⟩, ⟨some 37, none, .mv, [.tm 36]⟩, ⟨some 38, some (37, true), .mv, [.tm 6]⟩, ⟨some 39, some (37, true), .mv, [.tm 8]⟩, ⟨some 40, some (37, true), .po (.bin .eql), [.tm 38, .tm 39]⟩, ⟨some 41, none, .pick, [.tm 37, .tm 40, .cn (.b false)]⟩, ⟨some 4, none, .mv, [.tm 41]⟩] [4]) .ret)))), [.tm 4]⟩
theorem of9 : Fn1.of Try.prog 9 ⟨false, [], false⟩ [[1, 2], [1, 2, 5, 6], [1, 2, 5, 6, 7, 8], [1, 2, 5, 6, 7, 8, 21], [1, 2, 5, 6, 7, 8, 24], [5, 6, 7, 8], [5, 6, 7, 8], [4]] = some F9 := by kernel_rfl
theorem eqFr {objs : List (Nat × List V)} (x y a b : Int) : (SO.po (.veq false [(0, .n), (1, .n)])).rdx objs [.v (fracV x y), .v (fracV a b)] = some (.v (.b (decide (x = a ∧ y = b)))) := by
  simp [SO.rdx, SO.rd, allV, PO.run, veqV, eqLv, eqk]
  by_cases h1 : x = a <;> by_cases h2 : y = b <;> simp [h1, h2]
theorem add_one : Pure Try.prog 101 [fracV 1 6, fracV 1 10] (.tup [fracV 4 15, .n .i64 0]) := by
  have f : ∀ x : Int, -100 ≤ x → x ≤ 100 → fits x := fun x h1 h2 => by unfold fits; omega
  have f2 : ∀ x : Int, -100 ≤ x → x ≤ 100 → fits2 x := fun x h1 h2 => by unfold fits2; omega
  have k0 := both_ok 1 6 1 10 (f _ (by decide) (by decide)) (f _ (by decide) (by decide)) (f _ (by decide) (by decide)) (f _ (by decide) (by decide))
  rw [show (if frErr 1 6 ≠ 0 then frErr 1 6 else frErr 1 10) = 0 by decide +kernel] at k0
  have k1 := numGcd_ok 6 10 (f _ (by decide) (by decide)) (f _ (by decide) (by decide))
  rw [show small (Int.gcd 6 10 : Int) = 2 by decide +kernel] at k1
  have k2 := Product_ok 1 5 (f _ (by decide) (by decide)) (f _ (by decide) (by decide))
  have k3 := Product_ok 1 3 (f _ (by decide) (by decide)) (f _ (by decide) (by decide))
  have k4 := wPlus_ok (1 * 5) (1 * 3) (f2 _ (by decide) (by decide)) (f2 _ (by decide) (by decide))
  rw [show m128 (1 * 5 + 1 * 3) = 8 by decide +kernel] at k4
  have k5 := wMod_ok 8 2 (f2 _ (by decide) (by decide)) (f _ (by decide) (by decide))
  rw [show (if (2 : Int) < 1 then (0 : Int) else 8 % 2) = 0 by decide] at k5
  have k6 := numGcd_ok 0 2 (f _ (by decide) (by decide)) (f _ (by decide) (by decide))
  rw [show small (Int.gcd 0 2 : Int) = 2 by decide +kernel] at k6
  have k7 := wDiv_ok 8 2 (f2 _ (by decide) (by decide)) (f _ (by decide) (by decide))
  rw [show quoT 2 (8 / 2) = [.n .i64 4, .n .i64 0] by rw [quoT, if_neg (by decide), if_pos (f _ (by decide) (by decide))]; rfl] at k7
  have k8 := numMul_ok 3 5 (f _ (by decide) (by decide)) (f _ (by decide) (by decide))
  rw [show small (3 * 5) = 15 by decide +kernel, decide_eq_true (f (3 * 5) (by decide) (by decide))] at k8
  have k9 := made_ok 4 15 true true
  rw [show madeT 4 15 (true && true) = .tup [fracV 4 15, .n .i64 0] by rw [madeT, if_neg (by decide)]] at k9
  refine pure_of_wp of101 (Nat.le_of_ble_eq_true rfl) ?_
  refine CallK.mk _ k0 rfl ?_
  refine DecK.no rfl ?_
  refine CallK.mk _ k1 rfl ?_
  refine OptK.mk _ (op_quo (y := 2) (by decide)) ?_
  refine CallK.mk _ k2 rfl ?_
  refine OptK.mk _ (op_quo (y := 2) (by decide)) ?_
  refine CallK.mk _ k3 rfl ?_
  refine CallK.mk _ k4 rfl ?_
  refine OptK.mk _ rfl ?_
  refine CallK.mk _ k5 rfl ?_
  refine CallK.mk _ k6 rfl ?_
  refine CallK.mk _ k7 rfl ?_
  refine OptK.mk _ (op_quo (y := 2) (by decide)) ?_
  refine OptK.mk _ (op_quo (y := 2) (by decide)) ?_
  refine CallK.mk _ k8 rfl ?_
  refine CallK.mk _ k9 rfl ?_
  refine OptK.mk _ rfl ?_
  ((repeat' first | refine DecK.tt ?_ | refine DecK.ff ?_ | refine DecK.beq (fun _ => ?_) (fun _ => ?_) | refine DecK.bne (fun _ => ?_) (fun _ => ?_) | refine DecK.dec (fun _ => ?_) (fun _ => ?_) | refine OptK.mk _ rfl ?_ | refine endV (by rfl) ?_) <;> (try with_reducible rfl))
  rfl
theorem best_one : Pure Try.prog 42 [fracV 157 50, .n .i64 10] (.tup [fracV 22 7, .n .i64 0]) := by
  obtain ⟨a, b, hg, hp⟩ := best_ok 157 50 10 (by decide +kernel) (by decide)
  have ht := (tops_of (N := 157) (D := 50) (most := 10) (p0 := 25) (q0 := 8) (p1 := 22) (q1 := 7) (s := 1) (d := 1) (e := 6) (.inl rfl) (by decide) (by decide) (by decide) (by decide) (by decide) (by decide) (by decide) (by decide)).1 (by decide) (by decide)
  obtain ⟨rfl, rfl⟩ := tops_unique hg.1 ht
  exact hp
theorem fracs_ok : Pure Try.prog 45 [] (.b true) := by
  refine pure_of_wp of45 (Nat.le_of_ble_eq_true rfl) ?_
  refine CallK.mk _ add_one rfl ?_
  refine OptK.mk _ rfl ?_
  refine CallK.mk _ best_one rfl ?_
  refine OptK.mk _ rfl ?_
  repeat' first | (refine DecK.tt ?_) | (refine OptK.mk _ (eqFr _ _ _ _) ?_) | (refine DecK.yes rfl ?_)
  ((repeat' first | refine DecK.tt ?_ | refine DecK.ff ?_ | refine DecK.beq (fun _ => ?_) (fun _ => ?_) | refine DecK.bne (fun _ => ?_) (fun _ => ?_) | refine DecK.dec (fun _ => ?_) (fun _ => ?_) | refine OptK.mk _ rfl ?_ | refine endV (by rfl) ?_) <;> (try with_reducible rfl))
  try simp
theorem best_err (N D most : Int) (hN : fits N) (hD : fits D) (hE : frErr N D ≠ 0) : Pure Try.prog 42 [fracV N D, .n .i64 most] (.tup [fracV 0 0, .n .i64 (frErr N D)]) := by
  refine pure_of_wp of42 (Nat.le_of_ble_eq_true rfl) ?_
  refine CallK.mk _ (frCheck_ok N D hN hD) rfl ?_
  refine DecK.yes (bne_iff_ne.2 hE) ?_
  refine OptK.mk _ rfl ?_
  ((repeat' first | refine DecK.tt ?_ | refine DecK.ff ?_ | refine DecK.beq (fun _ => ?_) (fun _ => ?_) | refine DecK.bne (fun _ => ?_) (fun _ => ?_) | refine DecK.dec (fun _ => ?_) (fun _ => ?_) | refine OptK.mk _ rfl ?_ | refine endV (by rfl) ?_) <;> (try with_reducible rfl))
  rfl
theorem best_range (N D most : Int) (hN : fits N) (hD : fits D) (hE : frErr N D = 0) (hm : most < 1 ∨ most > 4096) : Pure Try.prog 42 [fracV N D, .n .i64 most] (.tup [fracV 0 0, .n .i64 4]) := by
  have tc := frCheck_ok N D hN hD
  rw [hE] at tc
  refine pure_of_wp of42 (Nat.le_of_ble_eq_true rfl) ?_
  refine CallK.mk _ tc rfl ?_
  refine DecK.ff ?_
  refine DecK.dec (fun h => ?_) (fun h => ?_)
  · repeat' (refine DecK.tt ?_)
    refine OptK.mk _ rfl ?_
    ((repeat' first | refine DecK.tt ?_ | refine DecK.ff ?_ | refine DecK.beq (fun _ => ?_) (fun _ => ?_) | refine DecK.bne (fun _ => ?_) (fun _ => ?_) | refine DecK.dec (fun _ => ?_) (fun _ => ?_) | refine OptK.mk _ rfl ?_ | refine endV (by rfl) ?_) <;> (try with_reducible rfl))
    rfl
  · refine DecK.yes (decide_eq_true (by omega)) ?_
    refine OptK.mk _ rfl ?_
    ((repeat' first | refine DecK.tt ?_ | refine DecK.ff ?_ | refine DecK.beq (fun _ => ?_) (fun _ => ?_) | refine DecK.bne (fun _ => ?_) (fun _ => ?_) | refine DecK.dec (fun _ => ?_) (fun _ => ?_) | refine OptK.mk _ rfl ?_ | refine endV (by rfl) ?_) <;> (try with_reducible rfl))
    rfl
theorem fracBests_pure (N D most : Int) (hN : fits N) (hD : fits D) : Pure Try.prog 9 [fracV N D, .n .i64 most] (.b true) := by
  have tE := fracErr_ok N D hN hD
  by_cases hE : frErr N D = 0
  · rw [hE] at tE
    by_cases hm : 1 ≤ most ∧ most ≤ 4096
    · obtain ⟨a, b, hg, tB⟩ := best_ok N D most hE hm
      have tN := nearest_ok N D most a b hE hm hg
      refine pure_of_wp of9 (Nat.le_of_ble_eq_true rfl) ?_
      refine CallK.mk _ tB rfl ?_
      refine OptK.mk _ rfl ?_
      refine CallK.mk _ tE rfl ?_
      refine OptK.mk _ rfl ?_
      refine DecK.ff ?_
      refine DecK.no (decide_eq_false (by omega)) ?_
      refine DecK.no (decide_eq_false (by omega)) ?_
      refine CallK.mk _ tN rfl ?_
      refine OptK.mk _ rfl ?_
      refine CallK.mk _ fracs_ok rfl ?_
      repeat' first | (refine DecK.tt ?_) | (refine OptK.mk _ (eqFr _ _ _ _) ?_) | (refine DecK.yes (by simp) ?_)
      ((repeat' first | refine DecK.tt ?_ | refine DecK.ff ?_ | refine DecK.beq (fun _ => ?_) (fun _ => ?_) | refine DecK.bne (fun _ => ?_) (fun _ => ?_) | refine DecK.dec (fun _ => ?_) (fun _ => ?_) | refine OptK.mk _ rfl ?_ | refine endV (by rfl) ?_) <;> (try with_reducible rfl))
      try simp
    · have tB := best_range N D most hN hD hE (by omega)
      refine pure_of_wp of9 (Nat.le_of_ble_eq_true rfl) ?_
      refine CallK.mk _ tB rfl ?_
      refine OptK.mk _ rfl ?_
      refine CallK.mk _ tE rfl ?_
      refine OptK.mk _ rfl ?_
      refine DecK.ff ?_
      refine DecK.dec (fun h => ?_) (fun h => ?_)
      · repeat' (refine DecK.tt ?_)
        refine CallK.mk _ fracs_ok rfl ?_
        repeat' first | (refine DecK.tt ?_) | (refine OptK.mk _ (eqFr _ _ _ _) ?_) | (refine DecK.yes (by simp) ?_)
        ((repeat' first | refine DecK.tt ?_ | refine DecK.ff ?_ | refine DecK.beq (fun _ => ?_) (fun _ => ?_) | refine DecK.bne (fun _ => ?_) (fun _ => ?_) | refine DecK.dec (fun _ => ?_) (fun _ => ?_) | refine OptK.mk _ rfl ?_ | refine endV (by rfl) ?_) <;> (try with_reducible rfl))
        try simp
      · refine DecK.yes (decide_eq_true (by omega)) ?_
        refine CallK.mk _ fracs_ok rfl ?_
        repeat' first | (refine DecK.tt ?_) | (refine OptK.mk _ (eqFr _ _ _ _) ?_) | (refine DecK.yes (by simp) ?_)
        ((repeat' first | refine DecK.tt ?_ | refine DecK.ff ?_ | refine DecK.beq (fun _ => ?_) (fun _ => ?_) | refine DecK.bne (fun _ => ?_) (fun _ => ?_) | refine DecK.dec (fun _ => ?_) (fun _ => ?_) | refine OptK.mk _ rfl ?_ | refine endV (by rfl) ?_) <;> (try with_reducible rfl))
        try simp
  · have tB := best_err N D most hN hD hE
    refine pure_of_wp of9 (Nat.le_of_ble_eq_true rfl) ?_
    refine CallK.mk _ tB rfl ?_
    refine OptK.mk _ rfl ?_
    refine CallK.mk _ tE rfl ?_
    refine OptK.mk _ rfl ?_
    refine DecK.yes (bne_iff_ne.2 hE) ?_
    refine CallK.mk _ fracs_ok rfl ?_
    repeat' first | (refine DecK.tt ?_) | (refine OptK.mk _ (eqFr _ _ _ _) ?_) | (refine DecK.yes (by simp) ?_)
    ((repeat' first | refine DecK.tt ?_ | refine DecK.ff ?_ | refine DecK.beq (fun _ => ?_) (fun _ => ?_) | refine DecK.bne (fun _ => ?_) (fun _ => ?_) | refine DecK.dec (fun _ => ?_) (fun _ => ?_) | refine OptK.mk _ rfl ?_ | refine endV (by rfl) ?_) <;> (try with_reducible rfl))
    try simp
end Go.Proofs.Ytdceakejbnolpaa.Sv
