/- Roots of bounds: the statement. No condition. -/
import Derived.Test.YtpggblmopgfloaaByFix
import Derived.Test.YtpggblmopgfloaaBo
import Derived.Test.YtpggblmopgfloaaZg
namespace Go.Proofs.Ytpggblmopgfloaa.Sv
open Go Go.RowKit
set_option linter.unusedVariables false
set_option linter.unusedSimpArgs false
set_option maxRecDepth 100000
/-- spyglass/spylaw1.BoundRoots -/
def F10 : Fn1 := ⟨64, .seq (.reg [⟨some 2, none, .box, [.tm 0]⟩, ⟨some 4, none, .mv, [.cn (.b false)]⟩] [1, 2]) (.seq (.reg [⟨some 12, none, .ld true 3 false, [.tm 2]⟩, ⟨some 13, none, .call 13, [.tm 12]⟩, ⟨some 11, none, .mv, [.tm 13]⟩, ⟨some 14, none, .po (.ext 0), [.tm 11]⟩, ⟨some 15, none, .po (.ext 1), [.tm 11]⟩, ⟨some 16, none, .po (.ext 2), [.tm 11]⟩, ⟨some 5, none, .alloc [.b false, .sl 0 [] true], []⟩, ⟨some 6, none, .alloc [.b false, .sl 0 [] true], []⟩, ⟨none, none, .st 2, [.tm 5, .tm 14]⟩, ⟨none, none, .st 2, [.tm 6, .tm 15]⟩, ⟨some 7, none, .mv, [.tm 16]⟩] [1, 2, 5, 6, 7]) (.seq (.reg [⟨some 17, none, .po (.build [.n .i64 0, .n .i64 0, .b false] [(2, 1)]), [.cn (.b true)]⟩, ⟨some 8, none, .alloc [.n .i64 0, .n .i64 0, .b false], []⟩, ⟨none, none, .st 3, [.tm 8, .tm 17]⟩] [1, 2, 5, 6, 7, 8]) (.seq (.seq (.reg [⟨some 18, none, .mv, [.tm 7]⟩, ⟨some 19, none, .mv, [.tm 18]⟩, ⟨some 20, some (19, true), .mv, [.tm 1]⟩, ⟨some 21, some (19, true), .po (.bin .geq), [.tm 20, .cn (.n .i64 1)]⟩, ⟨some 22, none, .pick, [.tm 19, .tm 21, .cn (.b false)]⟩, ⟨some 23, none, .mv, [.tm 22]⟩, ⟨some 24, some (23, true), .fa 0, [.tm 6]⟩, ⟨some 25, some (23, true), .ld false 1 false, [.tm 24]⟩, ⟨some 26, some (23, true), .po (.un .not), [.tm 25]⟩, ⟨some 27, none, .pick, [.tm 23, .tm 26, .cn (.b false)]⟩] [1, 2, 5, 6, 8, 27]) (.cond (.tm 27) (.seq (.seq (.reg [⟨some 28, none, .fa 0, [.tm 5]⟩, ⟨some 29, none, .ld false 1 false, [.tm 28]⟩] [1, 2, 5, 6, 8, 29]) (.cond (.tm 29) (.reg [⟨some 30, none, .po (.build [.b false, .sl 0 [] true] []), []⟩, ⟨none, none, .st 2, [.tm 5, .tm 30]⟩] [1, 2, 5, 6, 8]) .skip)) (.seq (.dreg [⟨some 31, none, .ld true 2 false, [.tm 5]⟩, ⟨some 32, none, .mv, [.tm 1]⟩, ⟨some 33, none, .call 16, [.tm 32]⟩, ⟨some 34, none, .call 50, [.tm 31, .tm 33]⟩, ⟨some 35, none, .call 72, [.tm 34]⟩, ⟨some 9, none, .alloc [.b false, .sl 0 [] true], []⟩, ⟨none, none, .st 2, [.tm 9, .tm 35]⟩] [] [1, 2, 6, 8, 9]) (.seq (.dreg [⟨some 36, none, .ld true 2 false, [.tm 6]⟩, ⟨some 37, none, .mv, [.tm 1]⟩, ⟨some 38, none, .call 16, [.tm 37]⟩, ⟨some 39, none, .call 50, [.tm 36, .tm 38]⟩, ⟨some 40, none, .call 72, [.tm 39]⟩, ⟨some 10, none, .alloc [.b false, .sl 0 [] true], []⟩, ⟨none, none, .st 2, [.tm 10, .tm 40]⟩] [] [1, 2, 6, 8, 9, 10]) (.seq (.seq (.dreg [⟨some 41, none, .ld true 2 false, [.tm 10]⟩, ⟨some 42, none, .ld true 2 false, [.tm 10]⟩, ⟨some 43, none, .call 50, [.tm 41, .tm 42]⟩, ⟨some 44, none, .ld true 2 false, [.tm 6]⟩, ⟨some 45, none, .mv, [.tm 1]⟩, ⟨some 46, none, .call 16, [.tm 45]⟩, ⟨some 47, none, .call 50, [.tm 44, .tm 46]⟩, ⟨some 48, none, .call 14, [.tm 43, .tm 47]⟩, ⟨some 49, none, .po (.bin .neq), [.tm 48, .cn (.n .i64 0)]⟩] [] [1, 2, 8, 9, 10, 49]) (.cond (.tm 49) (.dreg [⟨some 50, none, .ld true 2 false, [.tm 10]⟩, ⟨some 51, none, .call 16, [.cn (.n .i64 1)]⟩, ⟨some 52, none, .call 29, [.tm 50, .tm 51]⟩, ⟨none, none, .st 2, [.tm 10, .tm 52]⟩] [] [1, 2, 8, 9, 10]) .skip)) (.reg [⟨some 53, none, .ld true 2 false, [.tm 9]⟩, ⟨some 54, none, .ld true 2 false, [.tm 10]⟩, ⟨some 55, none, .call 23, [.tm 53, .tm 54]⟩, ⟨none, none, .st 3, [.tm 8, .tm 55]⟩] [1, 2, 8]))))) .skip)) (.seq (.dreg [⟨some 56, none, .call 17, []⟩, ⟨some 57, none, .mv, [.tm 56]⟩, ⟨some 58, some (57, true), .ld true 3 false, [.tm 2]⟩, ⟨some 59, some (57, true), .mv, [.tm 1]⟩, ⟨some 60, some (57, true), .call 73, [.tm 58, .tm 59]⟩, ⟨some 61, some (57, true), .ld true 3 false, [.tm 8]⟩, ⟨some 62, some (57, true), .po (.veq false [(0, .n), (1, .n), (2, .b)]), [.tm 60, .tm 61]⟩, ⟨some 63, none, .pick, [.tm 57, .tm 62, .cn (.b false)]⟩, ⟨some 4, none, .mv, [.tm 63]⟩] [] [4]) .ret)))), [.tm 4]⟩
theorem of10 : Fn1.of Try.prog 10 ⟨false, [], false⟩ [[1, 2], [1, 2, 5, 6, 7], [1, 2, 5, 6, 7, 8], [1, 2, 5, 6, 8, 27], [1, 2, 5, 6, 8, 29], [1, 2, 5, 6, 8], [1, 2, 6, 8, 9], [1, 2, 6, 8, 9, 10], [1, 2, 8, 9, 10, 49], [1, 2, 8, 9, 10], [1, 2, 8], [4]] = some F10 := by kernel_rfl
theorem zb11' {b : Int} (h : fits b) : zok (b + 1) := (show zb 5 (b + 1) by unfold fits at h; unfold zb; omega).mono (by decide)
theorem boundRoots_pure (lo hi : Int) (u : Bool) (unit : Int) (hu : fits unit) : Pure Try.prog 10 [bdV lo hi u, .n .i64 unit] (.b true) := by
  obtain ⟨r, hr, tr⟩ := rootFix lo hi u unit hu
  refine pure_of_wp of10 (Nat.le_of_ble_eq_true rfl) ?_
  refine CallK.mk _ (sidesFix lo hi u) rfl ?_
  refine OptK.mk _ rfl ?_
  refine OptK.mk _ rfl ?_
  rcases bd_cases lo hi u with ⟨g1, g2⟩ | ⟨g1, rfl, g3, g2⟩
  · rw [g1] at hr ⊢
    obtain rfl : r = none := hr
    repeat' first | (refine DecK.no rfl ?_) | (refine DecK.ff ?_) | (refine OptK.mk _ rfl ?_)
    refine CallK.mk _ bounds_ok rfl ?_
    refine DecK.tt ?_
    refine CallK.mk _ tr rfl ?_
    refine OptK.mk _ (eqBf _) ?_
    ((repeat' first | refine DecK.tt ?_ | refine DecK.ff ?_ | refine DecK.beq (fun _ => ?_) (fun _ => ?_) | refine DecK.bne (fun _ => ?_) (fun _ => ?_) | refine DecK.dec (fun _ => ?_) (fun _ => ?_) | refine OptK.mk _ rfl ?_ | refine endV (by rfl) ?_) <;> (try with_reducible rfl))
  rw [g1] at hr ⊢
  unfold bval at g3
  have fu := hu
  unfold fits at fu
  refine OptK.mk _ rfl ?_
  refine DecK.yes rfl ?_
  rcases hr with ⟨k, rfl⟩ | ⟨k, a, b, ⟨a0, a1, a2⟩, ⟨b0, b1, b2⟩, hr⟩
  · by_cases j : unit ≥ 1
    · refine DecK.yes (decide_eq_true j) ?_
      refine DecK.no (by show (!decide (hi < 0)) = false; rw [decide_eq_true (by simpa using (show hi < 0 by omega))]; rfl) ?_
      refine CallK.mk _ bounds_ok rfl ?_
      refine DecK.tt ?_
      refine CallK.mk _ tr rfl ?_
      refine OptK.mk _ (eqBf _) ?_
      ((repeat' first | refine DecK.tt ?_ | refine DecK.ff ?_ | refine DecK.beq (fun _ => ?_) (fun _ => ?_) | refine DecK.bne (fun _ => ?_) (fun _ => ?_) | refine DecK.dec (fun _ => ?_) (fun _ => ?_) | refine OptK.mk _ rfl ?_ | refine endV (by rfl) ?_) <;> (try with_reducible rfl))
    · refine DecK.no (decide_eq_false j) ?_
      refine DecK.ff ?_
      refine CallK.mk _ bounds_ok rfl ?_
      refine DecK.tt ?_
      refine CallK.mk _ tr rfl ?_
      refine OptK.mk _ (eqBf _) ?_
      ((repeat' first | refine DecK.tt ?_ | refine DecK.ff ?_ | refine DecK.beq (fun _ => ?_) (fun _ => ?_) | refine DecK.bne (fun _ => ?_) (fun _ => ?_) | refine DecK.dec (fun _ => ?_) (fun _ => ?_) | refine OptK.mk _ rfl ?_ | refine endV (by rfl) ?_) <;> (try with_reducible rfl))
  simp only at k a1 a2 b1 b2
  refine DecK.yes (decide_eq_true (by omega)) ?_
  refine DecK.yes (by show (!decide (hi < 0)) = true; rw [decide_eq_false (by omega)]; rfl) ?_
  have zu : zb 4 unit := zb_64 (by omega)
  have zh : zb 4 hi := zb_64 (by omega)
  have zm : zb 4 (max lo 0) := zb_64 (by omega)
  have m1 : 0 ≤ hi * unit := Int.mul_nonneg (by omega) (by omega)
  have m2 : 0 ≤ max lo 0 * unit := Int.mul_nonneg (by omega) (by omega)
  have ti := I_ok unit hu
  have ta := Times_ok (max lo 0) unit (zm.mono (by decide)) (zu.mono (by decide))
  have tb := Times_ok hi unit (zh.mono (by decide)) (zu.mono (by decide))
  have ra := Root_ok (max lo 0 * unit) a ((zm.mul zu).mono (by decide)) m2 a0 a1 a2
  have rb := Root_ok (hi * unit) b ((zh.mul zu).mono (by decide)) m1 b0 b1 b2
  have fa := root_fits (show fits (max lo 0) by unfold fits; omega) hu (by omega) (by omega) a0 a1
  have fb := root_fits (show fits hi by unfold fits; omega) hu (by omega) (by omega) b0 b1
  have tt := Times_ok b b (fb.zb.mono (by decide)) (fb.zb.mono (by decide))
  have tk := Cmp_ok (b * b) (hi * unit) ((fb.zb.mul fb.zb).mono (by decide)) ((zh.mul zu).mono (by decide))
  have tp := Plus_ok b 1 (fb.zb.mono (by decide)) (by first | exact (zb_64 (by omega)).mono (by decide) | exact ((zb_64 (by omega)).mul (zb_64 (by omega))).mono (by decide))
  have ub1 := boundedFix a b (fa.zb.mono (by decide)) (fb.zb.mono (by decide))
  have ub2 := boundedFix a (b + 1) (fa.zb.mono (by decide)) (zb11' fb)
  have e0 : VLe (.agg [.b false, .sl 0 [] true]) (zV 0) := zNone
  refine DecK.dec (fun n => ?a) (fun n => ?b)
  case' a =>
    refine OptK.mk _ rfl ?_
    have n' : lo < 0 := n
    have e1 : max lo 0 = 0 := by omega
    refine CallK.mk _ ti rfl ?_
    refine CallK.mk _ (.of (.cons e0 (.cons (.refl _) .nil)) (ta.args (by rw [e1]))) rfl ?_
  case' b =>
    have n' : ¬ lo < 0 := n
    have e1 : max lo 0 = lo := by omega
    refine CallK.mk _ ti rfl ?_
    refine CallK.mk _ (ta.args (by rw [e1] <;> rfl)) rfl ?_
  all_goals
    refine CallK.mk _ ra rfl ?_
    refine OptK.mk _ rfl ?_
    refine CallK.mk _ ti rfl ?_
    refine CallK.mk _ tb rfl ?_
    refine CallK.mk _ rb rfl ?_
    refine OptK.mk _ rfl ?_
    refine CallK.mk _ tt rfl ?_
    refine CallK.mk _ ti rfl ?_
    refine CallK.mk _ tb rfl ?_
    refine CallK.mk _ tk rfl ?_
    by_cases w : b * b < hi * unit
    · rw [if_pos w] at hr
      subst hr
      refine DecK.yes (bne_iff_ne.2 fun i => by have := icmp_lt0.2 w; omega) ?_
      refine CallK.mk _ (I_ok 1 (by decide)) rfl ?_
      refine CallK.mk _ tp rfl ?_
      refine OptK.mk _ rfl ?_
      refine CallK.mk _ ub2 rfl ?_
      refine OptK.mk _ rfl ?_
      refine CallK.mk _ bounds_ok rfl ?_
      refine DecK.tt ?_
      refine CallK.mk _ tr rfl ?_
      refine OptK.mk _ (eqBf _) ?_
      ((repeat' first | refine DecK.tt ?_ | refine DecK.ff ?_ | refine DecK.beq (fun _ => ?_) (fun _ => ?_) | refine DecK.bne (fun _ => ?_) (fun _ => ?_) | refine DecK.dec (fun _ => ?_) (fun _ => ?_) | refine OptK.mk _ rfl ?_ | refine endV (by rfl) ?_) <;> (try with_reducible rfl))
    · rw [if_neg w] at hr
      subst hr
      refine DecK.no (by rw [icmp_eq (show b * b = hi * unit by omega)]; rfl) ?_
      refine CallK.mk _ ub1 rfl ?_
      refine OptK.mk _ rfl ?_
      refine CallK.mk _ bounds_ok rfl ?_
      refine DecK.tt ?_
      refine CallK.mk _ tr rfl ?_
      refine OptK.mk _ (eqBf _) ?_
      ((repeat' first | refine DecK.tt ?_ | refine DecK.ff ?_ | refine DecK.beq (fun _ => ?_) (fun _ => ?_) | refine DecK.bne (fun _ => ?_) (fun _ => ?_) | refine DecK.dec (fun _ => ?_) (fun _ => ?_) | refine OptK.mk _ rfl ?_ | refine endV (by rfl) ?_) <;> (try with_reducible rfl))
end Go.Proofs.Ytpggblmopgfloaa.Sv
