/- Rotations: bounds of the angle; the law ScaleAngles. No condition. -/
import Derived.Test.YtpggblmopgfloaaUa
import Derived.Test.YtpggblmopgfloaaTf
import Derived.Test.YtpggblmopgfloaaBcTick
import Derived.Test.YtpggblmopgfloaaBcArc
import Derived.Test.YtpggblmopgfloaaBx
import Derived.Test.YtpggblmopgfloaaBp
namespace Go.Proofs.Ytpggblmopgfloaa.Sv
open Go Go.RowKit
set_option linter.unusedVariables false
set_option linter.unusedSimpArgs false
set_option maxRecDepth 100000
/-- spyglass/scale.Earth -/
def F77 : Fn1 := ⟨2, .seq (.reg [⟨some 0, none, .alloc [.n .i64 0, .n .i64 0], []⟩] [0]) (.seq (.reg [⟨some 1, none, .po (.build [.n .i64 0, .n .i64 0] [(0, 1), (1, 1)]), [.cn (.n .i64 41072144766976), .cn (.n .i64 823974609375)]⟩, ⟨none, none, .st 2, [.tm 0, .tm 1]⟩] [0]) .ret), [.cell 0 true 2]⟩
theorem of77 : Fn1.of Try.prog 77 ⟨false, [], false⟩ [[0], [0]] = some F77 := by kernel_rfl
/-- spyglass/scale.Sidereal -/
def F78 : Fn1 := ⟨60, .seq (.reg [⟨some 2, none, .box, [.tm 0]⟩, ⟨some 3, none, .box, [.tm 1]⟩, ⟨some 4, none, .alloc [.n .i64 0, .n .i64 0, .b false], []⟩] [2, 3, 4]) (.seq (.dreg [⟨some 9, none, .ld true 3 false, [.tm 3]⟩, ⟨some 10, none, .fa 0, [.tm 2]⟩, ⟨some 11, none, .ld false 1 false, [.tm 10]⟩, ⟨some 12, none, .call 120, [.tm 11]⟩, ⟨some 13, none, .call 119, [.tm 9, .tm 12]⟩, ⟨none, none, .st 3, [.tm 3, .tm 13]⟩] [] [2, 3, 4]) (.seq (.seq (.reg [⟨some 14, none, .ld true 4 false, [.tm 2]⟩, ⟨some 15, none, .call 76, [.tm 14]⟩, ⟨some 16, none, .po (.bin .neq), [.tm 15, .cn (.n .i64 0)]⟩, ⟨some 17, none, .mv, [.tm 16]⟩, ⟨some 18, some (17, false), .fa 2, [.tm 3]⟩, ⟨some 19, some (17, false), .ld false 1 false, [.tm 18]⟩, ⟨some 20, none, .pick, [.tm 17, .cn (.b true), .tm 19]⟩] [2, 3, 4, 20]) (.cond (.tm 20) (.seq (.reg [⟨some 21, none, .call 121, []⟩, ⟨none, none, .st 3, [.tm 4, .tm 21]⟩] [4]) .ret) .skip)) (.seq (.reg [⟨some 23, none, .fa 0, [.tm 3]⟩, ⟨some 24, none, .ld false 1 false, [.tm 23]⟩, ⟨some 25, none, .fa 2, [.tm 2]⟩, ⟨some 26, none, .fa 0, [.tm 25]⟩, ⟨some 27, none, .ld false 1 false, [.tm 26]⟩, ⟨some 28, none, .fa 2, [.tm 2]⟩, ⟨some 29, none, .fa 1, [.tm 28]⟩, ⟨some 30, none, .ld false 1 false, [.tm 29]⟩, ⟨some 31, none, .call 122, [.tm 24, .tm 27, .tm 30]⟩, ⟨some 22, none, .mv, [.tm 31]⟩, ⟨some 32, none, .po (.ext 0), [.tm 22]⟩, ⟨some 33, none, .po (.ext 1), [.tm 22]⟩, ⟨some 5, none, .mv, [.tm 32]⟩, ⟨some 6, none, .mv, [.tm 33]⟩] [2, 3, 4, 5, 6]) (.seq (.reg [⟨some 35, none, .fa 1, [.tm 3]⟩, ⟨some 36, none, .ld false 1 false, [.tm 35]⟩, ⟨some 37, none, .fa 2, [.tm 2]⟩, ⟨some 38, none, .fa 0, [.tm 37]⟩, ⟨some 39, none, .ld false 1 false, [.tm 38]⟩, ⟨some 40, none, .fa 2, [.tm 2]⟩, ⟨some 41, none, .fa 1, [.tm 40]⟩, ⟨some 42, none, .ld false 1 false, [.tm 41]⟩, ⟨some 43, none, .call 113, [.tm 36, .tm 39, .tm 42]⟩, ⟨some 34, none, .mv, [.tm 43]⟩, ⟨some 44, none, .po (.ext 0), [.tm 34]⟩, ⟨some 45, none, .po (.ext 1), [.tm 34]⟩, ⟨some 7, none, .mv, [.tm 44]⟩, ⟨some 8, none, .mv, [.tm 45]⟩] [2, 4, 5, 6, 7, 8]) (.seq (.seq (.reg [⟨some 46, none, .mv, [.tm 6]⟩, ⟨some 47, none, .po (.bin .neq), [.tm 46, .cn (.n .i64 0)]⟩, ⟨some 48, none, .mv, [.tm 47]⟩, ⟨some 49, some (48, false), .mv, [.tm 8]⟩, ⟨some 50, some (48, false), .po (.bin .neq), [.tm 49, .cn (.n .i64 0)]⟩, ⟨some 51, none, .pick, [.tm 48, .cn (.b true), .tm 50]⟩] [2, 4, 5, 7, 51]) (.cond (.tm 51) (.seq (.reg [⟨some 52, none, .call 121, []⟩, ⟨none, none, .st 3, [.tm 4, .tm 52]⟩] [4]) .ret) .skip)) (.seq (.dreg [⟨some 53, none, .mv, [.tm 5]⟩, ⟨some 54, none, .mv, [.tm 7]⟩, ⟨some 55, none, .call 124, [.tm 53, .tm 54]⟩, ⟨some 56, none, .fa 1, [.tm 2]⟩, ⟨some 57, none, .ld false 1 false, [.tm 56]⟩, ⟨some 58, none, .call 125, [.tm 57]⟩, ⟨some 59, none, .call 123, [.tm 55, .tm 58]⟩, ⟨none, none, .st 3, [.tm 4, .tm 59]⟩] [] [4]) .ret)))))), [.cell 4 true 3]⟩
theorem of78 : Fn1.of Try.prog 78 ⟨false, [], false⟩ [[2, 3, 4], [2, 3, 4], [2, 3, 4, 20], [4], [2, 3, 4, 5, 6], [2, 4, 5, 6, 7, 8], [2, 4, 5, 7, 51], [4], [4]] = some F78 := by kernel_rfl
/-- spyglass/spyref1.SiderealOf -/
def F79 : Fn1 := ⟨61, .seq (.reg [⟨some 2, none, .box, [.tm 0]⟩, ⟨some 3, none, .box, [.tm 1]⟩, ⟨some 4, none, .alloc [.n .i64 0, .n .i64 0, .b false], []⟩] [2, 3, 4]) (.seq (.reg [⟨some 12, none, .po (.build [.n .i64 0, .n .i64 0, .b false] [(2, 1)]), [.cn (.b true)]⟩, ⟨some 5, none, .alloc [.n .i64 0, .n .i64 0, .b false], []⟩, ⟨none, none, .st 3, [.tm 5, .tm 12]⟩] [2, 3, 4, 5]) (.seq (.reg [⟨some 14, none, .ld true 3 false, [.tm 3]⟩, ⟨some 15, none, .call 126, [.tm 14]⟩, ⟨some 13, none, .mv, [.tm 15]⟩, ⟨some 16, none, .po (.ext 0), [.tm 13]⟩, ⟨some 17, none, .po (.ext 1), [.tm 13]⟩, ⟨some 18, none, .po (.ext 2), [.tm 13]⟩, ⟨some 6, none, .alloc [.b false, .sl 0 [] true], []⟩, ⟨some 7, none, .alloc [.b false, .sl 0 [] true], []⟩, ⟨none, none, .st 2, [.tm 6, .tm 16]⟩, ⟨none, none, .st 2, [.tm 7, .tm 17]⟩, ⟨some 8, none, .mv, [.tm 18]⟩] [2, 4, 5, 6, 7, 8]) (.seq (.seq (.reg [⟨some 19, none, .mv, [.tm 8]⟩, ⟨some 20, none, .po (.un .not), [.tm 19]⟩, ⟨some 21, none, .mv, [.tm 20]⟩, ⟨some 22, some (21, false), .ld true 4 false, [.tm 2]⟩, ⟨some 23, some (21, false), .call 64, [.tm 22]⟩, ⟨some 24, some (21, false), .po (.bin .neq), [.tm 23, .cn (.n .i64 0)]⟩, ⟨some 25, none, .pick, [.tm 21, .cn (.b true), .tm 24]⟩] [2, 4, 5, 6, 7, 25]) (.cond (.tm 25) (.seq (.reg [⟨some 26, none, .ld true 3 false, [.tm 5]⟩, ⟨none, none, .st 3, [.tm 4, .tm 26]⟩] [4]) .ret) .skip)) (.seq (.reg [⟨some 27, none, .fa 0, [.tm 2]⟩, ⟨some 28, none, .ld false 1 false, [.tm 27]⟩, ⟨some 29, none, .call 16, [.tm 28]⟩, ⟨some 9, none, .alloc [.b false, .sl 0 [] true], []⟩, ⟨none, none, .st 2, [.tm 9, .tm 29]⟩] [2, 4, 5, 6, 7, 9]) (.seq (.seq (.dreg [⟨some 30, none, .ld true 2 false, [.tm 6]⟩, ⟨some 31, none, .ld true 2 false, [.tm 9]⟩, ⟨some 32, none, .call 30, [.tm 30, .tm 31]⟩, ⟨some 33, none, .ld true 2 false, [.tm 7]⟩, ⟨some 34, none, .ld true 2 false, [.tm 9]⟩, ⟨some 35, none, .call 30, [.tm 33, .tm 34]⟩, ⟨some 36, none, .call 127, [.tm 32, .tm 35]⟩, ⟨some 37, none, .po (.fld false 2 1), [.tm 36]⟩] [] [2, 4, 5, 6, 7, 37]) (.cond (.tm 37) (.seq (.reg [⟨some 38, none, .ld true 3 false, [.tm 5]⟩, ⟨none, none, .st 3, [.tm 4, .tm 38]⟩] [4]) .ret) .skip)) (.seq (.dreg [⟨some 39, none, .ld true 4 false, [.tm 2]⟩, ⟨some 40, none, .ld true 2 false, [.tm 6]⟩, ⟨some 41, none, .call 74, [.tm 39, .tm 40, .cn (.b false)]⟩, ⟨some 42, none, .ld true 4 false, [.tm 2]⟩, ⟨some 43, none, .ld true 2 false, [.tm 7]⟩, ⟨some 44, none, .call 74, [.tm 42, .tm 43, .cn (.b true)]⟩, ⟨some 10, none, .alloc [.b false, .sl 0 [] true], []⟩, ⟨some 11, none, .alloc [.b false, .sl 0 [] true], []⟩, ⟨none, none, .st 2, [.tm 10, .tm 41]⟩, ⟨none, none, .st 2, [.tm 11, .tm 44]⟩] [] [2, 4, 5, 10, 11]) (.seq (.seq (.reg [⟨some 45, none, .ld true 2 false, [.tm 10]⟩, ⟨some 46, none, .ld true 2 false, [.tm 11]⟩, ⟨some 47, none, .call 128, [.tm 45, .tm 46]⟩, ⟨some 48, none, .po (.fld false 2 1), [.tm 47]⟩] [2, 4, 5, 10, 11, 48]) (.cond (.tm 48) (.seq (.reg [⟨some 49, none, .ld true 3 false, [.tm 5]⟩, ⟨none, none, .st 3, [.tm 4, .tm 49]⟩] [4]) .ret) .skip)) (.seq (.dreg [⟨some 50, none, .ld true 2 false, [.tm 10]⟩, ⟨some 51, none, .fa 1, [.tm 2]⟩, ⟨some 52, none, .ld false 1 false, [.tm 51]⟩, ⟨some 53, none, .call 16, [.tm 52]⟩, ⟨some 54, none, .call 29, [.tm 50, .tm 53]⟩, ⟨some 55, none, .ld true 2 false, [.tm 11]⟩, ⟨some 56, none, .fa 1, [.tm 2]⟩, ⟨some 57, none, .ld false 1 false, [.tm 56]⟩, ⟨some 58, none, .call 16, [.tm 57]⟩, ⟨some 59, none, .call 29, [.tm 55, .tm 58]⟩, ⟨some 60, none, .call 128, [.tm 54, .tm 59]⟩, ⟨none, none, .st 3, [.tm 4, .tm 60]⟩] [] [4]) .ret)))))))), [.cell 4 true 3]⟩
theorem of79 : Fn1.of Try.prog 79 ⟨false, [], false⟩ [[2, 3, 4], [2, 3, 4, 5], [2, 4, 5, 6, 7, 8], [2, 4, 5, 6, 7, 25], [4], [2, 4, 5, 6, 7, 9], [2, 4, 5, 6, 7, 37], [4], [2, 4, 5, 10, 11], [2, 4, 5, 10, 11, 48], [4], [4]] = some F79 := by kernel_rfl
/-- spyglass/spylaw1.ScaleAngles -/
def F11 : Fn1 := ⟨64, .seq (.reg [⟨some 3, none, .box, [.tm 0]⟩, ⟨some 4, none, .box, [.tm 1]⟩, ⟨some 6, none, .mv, [.cn (.b false)]⟩] [2, 3, 4]) (.seq (.reg [⟨some 8, none, .po (.build [.b false, .sl 0 [] true] []), []⟩, ⟨some 7, none, .alloc [.b false, .sl 0 [] true], []⟩, ⟨none, none, .st 2, [.tm 7, .tm 8]⟩] [2, 3, 4, 7]) (.seq (.seq (.reg [⟨some 9, none, .ld true 4 false, [.tm 3]⟩, ⟨some 10, none, .call 64, [.tm 9]⟩, ⟨some 11, none, .po (.bin .eql), [.tm 10, .cn (.n .i64 0)]⟩, ⟨some 12, none, .mv, [.tm 11]⟩, ⟨some 13, some (12, true), .mv, [.tm 2]⟩, ⟨some 14, some (12, true), .po (.bin .geq), [.tm 13, .cn (.n .i64 (-17592186044416))]⟩, ⟨some 15, none, .pick, [.tm 12, .tm 14, .cn (.b false)]⟩, ⟨some 16, none, .mv, [.tm 15]⟩, ⟨some 17, some (16, true), .mv, [.tm 2]⟩, ⟨some 18, some (16, true), .po (.bin .leq), [.tm 17, .cn (.n .i64 17592186044416)]⟩, ⟨some 19, none, .pick, [.tm 16, .tm 18, .cn (.b false)]⟩] [2, 3, 4, 7, 19]) (.cond (.tm 19) (.dreg [⟨some 21, none, .ld true 4 false, [.tm 3]⟩, ⟨some 22, none, .mv, [.tm 2]⟩, ⟨some 23, none, .call 16, [.tm 22]⟩, ⟨some 24, none, .call 74, [.tm 21, .tm 23, .cn (.b false)]⟩, ⟨some 25, none, .fa 1, [.tm 3]⟩, ⟨some 26, none, .ld false 1 false, [.tm 25]⟩, ⟨some 27, none, .call 16, [.tm 26]⟩, ⟨some 28, none, .call 29, [.tm 24, .tm 27]⟩, ⟨some 29, none, .call 75, [.cn (.n .i64 32)]⟩, ⟨some 30, none, .call 67, [.tm 28, .tm 29]⟩, ⟨some 20, none, .mv, [.tm 30]⟩, ⟨some 31, none, .po (.ext 0), [.tm 20]⟩, ⟨some 32, none, .po (.ext 1), [.tm 20]⟩, ⟨none, none, .st 2, [.tm 7, .tm 32]⟩] [] [2, 3, 4, 7]) .skip)) (.seq (.dreg [⟨some 33, none, .call 65, []⟩, ⟨some 34, none, .mv, [.tm 33]⟩, ⟨some 35, some (34, true), .ld true 4 false, [.tm 3]⟩, ⟨some 36, some (34, true), .call 76, [.tm 35]⟩, ⟨some 37, some (34, true), .ld true 4 false, [.tm 3]⟩, ⟨some 38, some (34, true), .call 64, [.tm 37]⟩, ⟨some 39, some (34, true), .po (.bin .eql), [.tm 36, .tm 38]⟩, ⟨some 40, none, .pick, [.tm 34, .tm 39, .cn (.b false)]⟩, ⟨some 41, none, .mv, [.tm 40]⟩, ⟨some 42, some (41, true), .call 77, []⟩, ⟨some 43, some (41, true), .po (.build [.n .i64 0, .n .i64 0] [(0, 1), (1, 1)]), [.cn (.n .i64 41072144766976), .cn (.n .i64 823974609375)]⟩, ⟨some 44, some (41, true), .po (.veq false [(0, .n), (1, .n)]), [.tm 42, .tm 43]⟩, ⟨some 45, none, .pick, [.tm 41, .tm 44, .cn (.b false)]⟩, ⟨some 46, none, .mv, [.tm 45]⟩, ⟨some 47, some (46, true), .ld true 4 false, [.tm 3]⟩, ⟨some 48, some (46, true), .ld true 3 false, [.tm 4]⟩, ⟨some 49, some (46, true), .call 78, [.tm 47, .tm 48]⟩, ⟨some 50, some (46, true), .ld true 4 false, [.tm 3]⟩, ⟨some 51, some (46, true), .ld true 3 false, [.tm 4]⟩, ⟨some 52, some (46, true), .call 79, [.tm 50, .tm 51]⟩, ⟨some 53, some (46, true), .po (.veq false [(0, .n), (1, .n), (2, .b)]), [.tm 49, .tm 52]⟩, ⟨some 54, none, .pick, [.tm 46, .tm 53, .cn (.b false)]⟩, ⟨some 55, none, .mv, [.tm 54]⟩, ⟨some 56, some (55, true), .ld true 2 false, [.tm 7]⟩, ⟨some 57, some (55, true), .ld true 4 false, [.tm 3]⟩, ⟨some 58, some (55, true), .mv, [.tm 2]⟩, ⟨some 59, some (55, true), .call 80, [.tm 57, .tm 58]⟩, ⟨some 60, some (55, true), .call 16, [.tm 59]⟩, ⟨some 61, some (55, true), .call 14, [.tm 56, .tm 60]⟩, ⟨some 62, some (55, true), .po (.bin .eql), [.tm 61, .cn (.n .i64 0)]⟩, ⟨some 63, none, .pick, [.tm 55, .tm 62, .cn (.b false)]⟩, ⟨some 6, none, .mv, [.tm 63]⟩] [] [6]) .ret))), [.tm 6]⟩
theorem of11 : Fn1.of Try.prog 11 ⟨false, [], false⟩ [[2, 3, 4], [2, 3, 4, 7], [2, 3, 4, 7, 19], [2, 3, 4, 7], [6]] = some F11 := by kernel_rfl
/-- The bound of the angle, where the rotation is right; the times counted from its own. -/
def sidB (a0 n d : Int) : Bd → Bd
  | none => none
  | some p => addB (mkB (p.1 * n / d) (cdiv (p.2 * n) d)) (some (a0, a0))
def sidF (t0 a0 n d : Int) (x : Bd) : Bd := if rateErr t0 a0 n d ≠ 0 then none else sidB a0 n d (addB x (some (-t0, -t0)))
theorem cdiv_le' {x c k : Int} (hc : 1 ≤ c) : cdiv x c ≤ k ↔ x ≤ k * c := by
  unfold cdiv
  constructor
  · intro h
    have h1 := Int.mul_le_mul_of_nonneg_right (show -k ≤ -x / c by omega) (show 0 ≤ c by omega)
    have h2 := Int.ediv_mul_le (-x) (show c ≠ 0 by omega)
    rw [Int.neg_mul] at h1
    omega
  · intro h
    have := Int.le_ediv_of_mul_le (show 0 < c by omega) (show -k * c ≤ -x by rw [Int.neg_mul]; omega)
    omega
theorem cdiv_near {x c : Int} (hc : 1 ≤ c) : x / c ≤ cdiv x c ∧ cdiv x c ≤ x / c + 1 :=
  ⟨cdiv_ge hc, (cdiv_le' hc).2 (by have := Int.lt_ediv_add_one_mul_self x (show 0 < c by omega); omega)⟩
set_option maxHeartbeats 1000000 in
theorem sidereal_ok (t0 a0 n d : Int) (hn : fits n) (hd : fits d) (lo hi : Int) (u : Bool) : Pure Try.prog 78 [rateV t0 a0 n d, bdV lo hi u] (encB (sidF t0 a0 n d (normB lo hi u))) := by
  obtain ⟨r, hr⟩ : ∃ r, r = sidF t0 a0 n d (normB lo hi u) := ⟨_, rfl⟩
  rw [← hr]
  have te := exactTick t0
  have ts := subTick lo hi u (bLo (mkB t0 t0)) (bHi (mkB t0 t0)) (bUn (mkB t0 t0))
  rw [norm_enc (mk_ok t0 t0)] at ts
  refine pure_of_wp of78 (Nat.le_of_ble_eq_true rfl) ?_
  refine CallK.mk _ te rfl ?_
  refine CallK.mk _ ts rfl ?_
  refine OptK.mk _ rfl ?_
  refine CallK.mk _ (rateCheck t0 a0 n d hn hd) rfl ?_
  unfold sidF at hr
  refine DecK.bne (fun g => ?_) (fun g => ?_)
  · rw [if_pos g] at hr
    subst hr
    repeat' (refine DecK.tt ?_)
    refine CallK.mk _ noneArc rfl ?_
    refine OptK.mk _ rfl ?_
    ((repeat' first | refine DecK.tt ?_ | refine DecK.ff ?_ | refine DecK.beq (fun _ => ?_) (fun _ => ?_) | refine DecK.bne (fun _ => ?_) (fun _ => ?_) | refine DecK.dec (fun _ => ?_) (fun _ => ?_) | refine OptK.mk _ rfl ?_ | refine endV (by rfl) ?_) <;> (try with_reducible rfl))
    rfl
  have g' : rateErr t0 a0 n d = 0 := by simpa using g
  rw [if_neg (by simpa using g)] at hr
  have hi' := rate_in g'
  have bt := hi'.ht
  have bn := hi'.hn
  have bd := hi'.hd
  have ba := hi'.ha
  rw [mkB_some (show bval t0 t0 by unfold bval; omega)] at *
  have hok : bdOk (addB (normB lo hi u) (negB (some (t0, t0)))) := by
    have := norm_ok lo hi u
    generalize normB lo hi u = x at *
    rcases x with _ | p
    · trivial
    · exact mk_ok _ _
  rw [show negB (some (t0, t0)) = some (-t0, -t0) from rfl] at *
  generalize addB (normB lo hi u) (some (-t0, -t0)) = x at *
  rcases x with _ | ⟨p, q⟩
  · obtain rfl : r = none := hr
    refine DecK.yes rfl ?_
    refine CallK.mk _ noneArc rfl ?_
    refine OptK.mk _ rfl ?_
    ((repeat' first | refine DecK.tt ?_ | refine DecK.ff ?_ | refine DecK.beq (fun _ => ?_) (fun _ => ?_) | refine DecK.bne (fun _ => ?_) (fun _ => ?_) | refine DecK.dec (fun _ => ?_) (fun _ => ?_) | refine OptK.mk _ rfl ?_ | refine endV (by rfl) ?_) <;> (try with_reducible rfl))
    rfl
  refine DecK.no rfl ?_
  unfold bdOk bval at hok
  simp only at hok
  have k1 := mulDiv_ok p n d (by unfold fits; omega) hn hd
  have k2 := mulDivUp_ok q n d (by unfold fits; omega) hn hd
  rw [quoT, if_neg (by omega)] at k1
  rw [upT, if_neg (by omega)] at k2
  have nr := cdiv_near (x := q * n) (c := d) (by omega)
  simp only [sidB] at hr
  have none_case : ¬ (fits (p * n / d) ∧ fits (q * n / d) ∧ fits (cdiv (q * n) d)) → mkB (p * n / d) (cdiv (q * n) d) = none := fun h => mkB_none (by
    unfold bval
    unfold fits at h
    have : p * n / d ≤ q * n / d := Int.ediv_le_ediv (by omega) (Int.mul_le_mul_of_nonneg_right hok.2.1 (by omega))
    omega)
  by_cases f1 : fits (p * n / d)
  · rw [if_pos f1] at k1
    refine CallK.mk _ k1 rfl ?_
    by_cases f2 : fits (q * n / d) ∧ fits (cdiv (q * n) d)
    · rw [if_pos f2] at k2
      refine CallK.mk _ k2 rfl ?_
      refine DecK.no rfl ?_
      refine DecK.no rfl ?_
      have ta := addArc (bLo (mkB (p * n / d) (cdiv (q * n) d))) (bHi (mkB (p * n / d) (cdiv (q * n) d))) (bUn (mkB (p * n / d) (cdiv (q * n) d))) a0 a0 false
      rw [norm_enc (mk_ok _ _), show normB a0 a0 false = some (a0, a0) from mkB_some (by unfold bval; omega), ← hr] at ta
      have tx := exactArc a0
      rw [mkB_some (show bval a0 a0 by unfold bval; omega)] at tx
      refine CallK.mk _ (ofArc _ _) rfl ?_
      refine CallK.mk _ tx rfl ?_
      refine CallK.mk _ ta rfl ?_
      refine OptK.mk _ rfl ?_
      ((repeat' first | refine DecK.tt ?_ | refine DecK.ff ?_ | refine DecK.beq (fun _ => ?_) (fun _ => ?_) | refine DecK.bne (fun _ => ?_) (fun _ => ?_) | refine DecK.dec (fun _ => ?_) (fun _ => ?_) | refine OptK.mk _ rfl ?_ | refine endV (by rfl) ?_) <;> (try with_reducible rfl))
      rfl
    · rw [if_neg f2] at k2
      rw [none_case (fun h => f2 h.2)] at hr
      obtain rfl : r = none := hr
      refine CallK.mk _ k2 rfl ?_
      refine DecK.no rfl ?_
      refine DecK.yes rfl ?_
      refine CallK.mk _ noneArc rfl ?_
      refine OptK.mk _ rfl ?_
      ((repeat' first | refine DecK.tt ?_ | refine DecK.ff ?_ | refine DecK.beq (fun _ => ?_) (fun _ => ?_) | refine DecK.bne (fun _ => ?_) (fun _ => ?_) | refine DecK.dec (fun _ => ?_) (fun _ => ?_) | refine OptK.mk _ rfl ?_ | refine endV (by rfl) ?_) <;> (try with_reducible rfl))
      rfl
  · rw [if_neg f1] at k1
    rw [none_case (fun h => f1 h.1)] at hr
    obtain rfl : r = none := hr
    have k2' : ∃ x e, Pure Try.prog 113 [.n .i64 q, .n .i64 n, .n .i64 d] (.tup [.n .i64 x, .n .i64 e]) := by
      split at k2 <;> exact ⟨_, _, k2⟩
    obtain ⟨x, e, k3⟩ := k2'
    refine CallK.mk _ k1 rfl ?_
    refine CallK.mk _ k3 rfl ?_
    refine DecK.yes rfl ?_
    repeat' (refine DecK.tt ?_)
    refine CallK.mk _ noneArc rfl ?_
    refine OptK.mk _ rfl ?_
    ((repeat' first | refine DecK.tt ?_ | refine DecK.ff ?_ | refine DecK.beq (fun _ => ?_) (fun _ => ?_) | refine DecK.bne (fun _ => ?_) (fun _ => ?_) | refine DecK.dec (fun _ => ?_) (fun _ => ?_) | refine OptK.mk _ rfl ?_ | refine endV (by rfl) ?_) <;> (try with_reducible rfl))
    rfl
theorem sidF_none (t0 a0 n d : Int) : sidF t0 a0 n d none = none := by unfold sidF; split <;> rfl
theorem zb_cdiv {k : Nat} {a g : Int} (h : zb k a) (hg : 1 ≤ g) : zb k (cdiv a g) := by
  have := zb_div (k := k) (a := -a) (by unfold zb at *; omega) hg
  unfold cdiv
  unfold zb at *
  omega
set_option maxHeartbeats 1000000 in
theorem siderealOf_ok (t0 a0 n d : Int) (hn : fits n) (hd : fits d) (lo hi : Int) (u : Bool) : Pure Try.prog 79 [rateV t0 a0 n d, bdV lo hi u] (encB (sidF t0 a0 n d (normB lo hi u))) := by
  obtain ⟨r, hr⟩ : ∃ r, r = sidF t0 a0 n d (normB lo hi u) := ⟨_, rfl⟩
  rw [← hr]
  refine pure_of_wp of79 (Nat.le_of_ble_eq_true rfl) ?_
  refine OptK.mk _ rfl ?_
  refine CallK.mk _ (sidesTick lo hi u) rfl ?_
  refine OptK.mk _ rfl ?_
  refine OptK.mk _ rfl ?_
  rcases bd_cases lo hi u with ⟨g1, g2⟩ | ⟨g1, rfl, g3, g2⟩
  · rw [g1, sidF_none] at hr
    subst hr
    rw [g1]
    refine DecK.yes rfl ?_
    repeat' (refine DecK.tt ?_)
    refine OptK.mk _ rfl ?_
    ((repeat' first | refine DecK.tt ?_ | refine DecK.ff ?_ | refine DecK.beq (fun _ => ?_) (fun _ => ?_) | refine DecK.bne (fun _ => ?_) (fun _ => ?_) | refine DecK.dec (fun _ => ?_) (fun _ => ?_) | refine OptK.mk _ rfl ?_ | refine endV (by rfl) ?_) <;> (try with_reducible rfl))
    rfl
  rw [g1] at hr ⊢
  unfold bval at g3
  refine DecK.no rfl ?_
  refine CallK.mk _ (rateErr2 t0 a0 n d hn hd) rfl ?_
  unfold sidF at hr
  refine DecK.bne (fun g => ?_) (fun g => ?_)
  · rw [if_pos g] at hr
    subst hr
    refine OptK.mk _ rfl ?_
    ((repeat' first | refine DecK.tt ?_ | refine DecK.ff ?_ | refine DecK.beq (fun _ => ?_) (fun _ => ?_) | refine DecK.bne (fun _ => ?_) (fun _ => ?_) | refine DecK.dec (fun _ => ?_) (fun _ => ?_) | refine OptK.mk _ rfl ?_ | refine endV (by rfl) ?_) <;> (try with_reducible rfl))
    rfl
  have g' : rateErr t0 a0 n d = 0 := by simpa using g
  rw [if_neg (by simpa using g)] at hr
  have hi' := rate_in g'
  have bt := hi'.ht
  have bn := hi'.hn
  have bd := hi'.hd
  have ba := hi'.ha
  refine CallK.mk _ (I_ok t0 (by omega)) rfl ?_
  refine OptK.mk _ rfl ?_
  refine CallK.mk _ (Less_ok lo t0 (by first | exact (zb_64 (by omega)).mono (by decide) | exact ((zb_64 (by omega)).mul (zb_64 (by omega))).mono (by decide)) (by first | exact (zb_64 (by omega)).mono (by decide) | exact ((zb_64 (by omega)).mul (zb_64 (by omega))).mono (by decide))) rfl ?_
  refine CallK.mk _ (Less_ok hi t0 (by first | exact (zb_64 (by omega)).mono (by decide) | exact ((zb_64 (by omega)).mul (zb_64 (by omega))).mono (by decide)) (by first | exact (zb_64 (by omega)).mono (by decide) | exact ((zb_64 (by omega)).mul (zb_64 (by omega))).mono (by decide))) rfl ?_
  refine CallK.mk _ (boundedTick (lo - t0) (hi - t0) (by first | exact (zb_64 (by omega)).mono (by decide) | exact ((zb_64 (by omega)).mul (zb_64 (by omega))).mono (by decide)) (by first | exact (zb_64 (by omega)).mono (by decide) | exact ((zb_64 (by omega)).mul (zb_64 (by omega))).mono (by decide))) rfl ?_
  rw [show addB (some (lo, hi)) (some (-t0, -t0)) = mkB (lo - t0) (hi - t0) from rfl] at hr
  by_cases c : bval (lo - t0) (hi - t0)
  case' neg =>
    rw [mkB_none c] at hr ⊢
    subst hr
    refine DecK.yes rfl ?_
    refine OptK.mk _ rfl ?_
    ((repeat' first | refine DecK.tt ?_ | refine DecK.ff ?_ | refine DecK.beq (fun _ => ?_) (fun _ => ?_) | refine DecK.bne (fun _ => ?_) (fun _ => ?_) | refine DecK.dec (fun _ => ?_) (fun _ => ?_) | refine OptK.mk _ rfl ?_ | refine endV (by rfl) ?_) <;> (try with_reducible rfl))
    rfl
  rw [mkB_some c] at hr ⊢
  unfold bval at c
  refine DecK.no rfl ?_
  refine CallK.mk _ (Turned_dn hi' lo (by omega)) rfl ?_
  refine CallK.mk _ (Turned_up hi' hi (by omega)) rfl ?_
  refine OptK.mk _ rfl ?_
  refine OptK.mk _ rfl ?_
  have z1 : zb 8 ((lo - t0) * n / d) := zb_div ((zb_64 (n := lo - t0) (by omega)).mul (zb_64 (n := n) (by omega)) |>.mono (by decide)) (by omega)
  have z2 : zb 8 (cdiv ((hi - t0) * n) d) := zb_cdiv ((zb_64 (n := hi - t0) (by omega)).mul (zb_64 (n := n) (by omega)) |>.mono (by decide)) (by omega)
  simp only [sidB] at hr
  generalize (lo - t0) * n / d = x at *
  generalize cdiv ((hi - t0) * n) d = y at *
  refine CallK.mk _ (boundedArc x y (z1.mono (by decide)) (z2.mono (by decide))) rfl ?_
  by_cases c2 : bval x y
  case' neg =>
    rw [mkB_none c2] at hr ⊢
    obtain rfl : r = none := hr
    refine DecK.yes rfl ?_
    refine OptK.mk _ rfl ?_
    ((repeat' first | refine DecK.tt ?_ | refine DecK.ff ?_ | refine DecK.beq (fun _ => ?_) (fun _ => ?_) | refine DecK.bne (fun _ => ?_) (fun _ => ?_) | refine DecK.dec (fun _ => ?_) (fun _ => ?_) | refine OptK.mk _ rfl ?_ | refine endV (by rfl) ?_) <;> (try with_reducible rfl))
    rfl
  rw [mkB_some c2] at hr ⊢
  unfold bval at c2
  obtain rfl : r = mkB (x + a0) (y + a0) := hr
  refine DecK.no rfl ?_
  refine CallK.mk _ (I_ok a0 (by omega)) rfl ?_
  refine CallK.mk _ (Plus_ok x a0 (by first | exact (zb_64 (by omega)).mono (by decide) | exact ((zb_64 (by omega)).mul (zb_64 (by omega))).mono (by decide)) (by first | exact (zb_64 (by omega)).mono (by decide) | exact ((zb_64 (by omega)).mul (zb_64 (by omega))).mono (by decide))) rfl ?_
  refine CallK.mk _ (I_ok a0 (by omega)) rfl ?_
  refine CallK.mk _ (Plus_ok y a0 (by first | exact (zb_64 (by omega)).mono (by decide) | exact ((zb_64 (by omega)).mul (zb_64 (by omega))).mono (by decide)) (by first | exact (zb_64 (by omega)).mono (by decide) | exact ((zb_64 (by omega)).mul (zb_64 (by omega))).mono (by decide))) rfl ?_
  refine CallK.mk _ (boundedArc (x + a0) (y + a0) (by first | exact (zb_64 (by omega)).mono (by decide) | exact ((zb_64 (by omega)).mul (zb_64 (by omega))).mono (by decide)) (by first | exact (zb_64 (by omega)).mono (by decide) | exact ((zb_64 (by omega)).mul (zb_64 (by omega))).mono (by decide))) rfl ?_
  refine OptK.mk _ rfl ?_
  ((repeat' first | refine DecK.tt ?_ | refine DecK.ff ?_ | refine DecK.beq (fun _ => ?_) (fun _ => ?_) | refine DecK.bne (fun _ => ?_) (fun _ => ?_) | refine DecK.dec (fun _ => ?_) (fun _ => ?_) | refine OptK.mk _ rfl ?_ | refine endV (by rfl) ?_) <;> (try with_reducible rfl))
  rfl
theorem earth_ok : Pure Try.prog 77 [] (fracV 41072144766976 823974609375) := by
  refine pure_of_wp of77 (Nat.le_of_ble_eq_true rfl) ?_
  refine OptK.mk _ rfl ?_
  ((repeat' first | refine DecK.tt ?_ | refine DecK.ff ?_ | refine DecK.beq (fun _ => ?_) (fun _ => ?_) | refine DecK.bne (fun _ => ?_) (fun _ => ?_) | refine DecK.dec (fun _ => ?_) (fun _ => ?_) | refine OptK.mk _ rfl ?_ | refine endV (by rfl) ?_) <;> (try with_reducible rfl))
  rfl
theorem eqEar {objs : List (Nat × List V)} : (SO.po (.veq false [(0, .n), (1, .n)])).rdx objs [.v (fracV 41072144766976 823974609375), .v (fracV 41072144766976 823974609375)] = some (.v (.b true)) := by
  simp [SO.rdx, SO.rd, allV, PO.run, veqV, eqLv, eqk]
theorem eqBd {objs : List (Nat × List V)} (x : Bd) : (SO.po (.veq false [(0, .n), (1, .n), (2, .b)])).rdx objs [.v (encB x), .v (encB x)] = some (.v (.b true)) := by
  simp [SO.rdx, SO.rd, allV, PO.run, veqV, eqLv, eqk]
theorem scaleAngles_pure (t0 a0 n d lo hi : Int) (u : Bool) (t : Int) (hn : fits n) (hd : fits d) : Pure Try.prog 11 [rateV t0 a0 n d, bdV lo hi u, .n .i64 t] (.b true) := by
  have ta := Angle_ok t0 a0 n d hn hd t
  have te := rateErr2 t0 a0 n d hn hd
  have tc := rateCheck t0 a0 n d hn hd
  have t1 := sidereal_ok t0 a0 n d hn hd lo hi u
  have t2 := siderealOf_ok t0 a0 n d hn hd lo hi u
  have two : Pure Try.prog 75 [.n .i64 32] (zV 4294967296) := Two_ok 32 (by decide)
  unfold angleF at ta
  refine pure_of_wp of11 (Nat.le_of_ble_eq_true rfl) ?_
  refine OptK.mk _ rfl ?_
  refine CallK.mk _ te rfl ?_
  by_cases g : rateErr t0 a0 n d ≠ 0 ∨ t < -17592186044416 ∨ t > 17592186044416
  · rw [if_pos g] at ta
    refine DecK.beq (fun g1 => ?_) (fun g1 => ?_)
    case' refine_1 => refine DecK.dec (fun g2 => ?_) (fun g2 => ?_)
    case' refine_1.refine_1 => refine DecK.no (decide_eq_false (by omega)) ?_
    all_goals
      repeat' (refine DecK.ff ?_)
      refine CallK.mk _ scales_ok rfl ?_
      refine DecK.tt ?_
      refine CallK.mk _ tc rfl ?_
      refine CallK.mk _ te rfl ?_
      refine DecK.yes (beq_self_eq_true _) ?_
      refine CallK.mk _ earth_ok rfl ?_
      refine OptK.mk _ eqEar ?_
      refine DecK.tt ?_
      refine CallK.mk _ t1 rfl ?_
      refine CallK.mk _ t2 rfl ?_
      refine OptK.mk _ (eqBd _) ?_
      refine DecK.tt ?_
      refine CallK.mk _ ta rfl ?_
      refine CallK.mk _ (I_ok 0 (by decide)) rfl ?_
      have e0 : VLe (.agg [.b false, .sl 0 [] true]) (zV 0) := zNone
      refine CallK.mk _ (.of (.cons e0 (.cons (.refl _) .nil)) (Cmp_ok 0 0 (by first | exact (zb_64 (by omega)).mono (by decide) | exact ((zb_64 (by omega)).mul (zb_64 (by omega))).mono (by decide)) (by first | exact (zb_64 (by omega)).mono (by decide) | exact ((zb_64 (by omega)).mul (zb_64 (by omega))).mono (by decide)))) rfl ?_
      ((repeat' first | refine DecK.tt ?_ | refine DecK.ff ?_ | refine DecK.beq (fun _ => ?_) (fun _ => ?_) | refine DecK.bne (fun _ => ?_) (fun _ => ?_) | refine DecK.dec (fun _ => ?_) (fun _ => ?_) | refine OptK.mk _ rfl ?_ | refine endV (by rfl) ?_) <;> (try with_reducible rfl))
      rfl
  · rw [if_neg g] at ta
    have g0 : rateErr t0 a0 n d = 0 := by omega
    have hi' := rate_in g0
    have ba := hi'.ha
    have b := turn_in hi' (t := t) (T := 35184372088832) (by decide) (by have := hi'.ht; omega)
    have hm := Int.emod_nonneg ((t - t0) * n / d + a0) (show (4294967296 : Int) ≠ 0 by decide)
    have hm' := Int.emod_lt_of_pos ((t - t0) * n / d + a0) (show (0 : Int) < 4294967296 by decide)
    refine DecK.beq (fun _ => ?_) (fun g1 => absurd g0 g1)
    refine DecK.yes (decide_eq_true (by omega)) ?_
    refine DecK.yes (decide_eq_true (by omega)) ?_
    refine CallK.mk _ (I_ok t (by omega)) rfl ?_
    refine CallK.mk _ (Turned_dn hi' t (by omega)) rfl ?_
    refine CallK.mk _ (I_ok a0 (by omega)) rfl ?_
    refine CallK.mk _ (Plus_ok ((t - t0) * n / d) a0 (by first | exact (zb_64 (by omega)).mono (by decide) | exact ((zb_64 (by omega)).mul (zb_64 (by omega))).mono (by decide)) (by first | exact (zb_64 (by omega)).mono (by decide) | exact ((zb_64 (by omega)).mul (zb_64 (by omega))).mono (by decide))) rfl ?_
    refine CallK.mk _ two rfl ?_
    refine CallK.mk _ (Split_ok ((t - t0) * n / d + a0) 4294967296 (by first | exact (zb_64 (by omega)).mono (by decide) | exact ((zb_64 (by omega)).mul (zb_64 (by omega))).mono (by decide)) (by first | exact (zb_64 (by omega)).mono (by decide) | exact ((zb_64 (by omega)).mul (zb_64 (by omega))).mono (by decide)) (by decide)) rfl ?_
    refine OptK.mk _ rfl ?_
    generalize ((t - t0) * n / d + a0) % 4294967296 = m at *
    refine CallK.mk _ scales_ok rfl ?_
    refine DecK.tt ?_
    refine CallK.mk _ tc rfl ?_
    refine CallK.mk _ te rfl ?_
    refine DecK.yes (beq_self_eq_true _) ?_
    refine CallK.mk _ earth_ok rfl ?_
    refine OptK.mk _ eqEar ?_
    refine DecK.tt ?_
    refine CallK.mk _ t1 rfl ?_
    refine CallK.mk _ t2 rfl ?_
    refine OptK.mk _ (eqBd _) ?_
    refine DecK.tt ?_
    refine CallK.mk _ ta rfl ?_
    refine CallK.mk _ (I_ok m (by omega)) rfl ?_
    refine CallK.mk _ (Cmp_ok m m (by first | exact (zb_64 (by omega)).mono (by decide) | exact ((zb_64 (by omega)).mul (zb_64 (by omega))).mono (by decide)) (by first | exact (zb_64 (by omega)).mono (by decide) | exact ((zb_64 (by omega)).mul (zb_64 (by omega))).mono (by decide))) rfl ?_
    ((repeat' first | refine DecK.tt ?_ | refine DecK.ff ?_ | refine DecK.beq (fun _ => ?_) (fun _ => ?_) | refine DecK.bne (fun _ => ?_) (fun _ => ?_) | refine DecK.dec (fun _ => ?_) (fun _ => ?_) | refine OptK.mk _ rfl ?_ | refine endV (by rfl) ?_) <;> (try with_reducible rfl))
    rw [icmp_eq rfl]
    rfl
end Go.Proofs.Ytpggblmopgfloaa.Sv
