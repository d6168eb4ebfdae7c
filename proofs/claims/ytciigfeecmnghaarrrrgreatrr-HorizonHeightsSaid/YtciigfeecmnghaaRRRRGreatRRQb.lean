/- Sines and cosines: the reference's rule. No condition. -/
import Derived.Test.YtciigfeecmnghaaRRRRGreatRRQa
namespace Go.Proofs.YtciigfeecmnghaaRRRRGreatRR.Sv
open Go Go.RowKit
set_option linter.unusedVariables false
set_option linter.unusedSimpArgs false
set_option maxRecDepth 100000
/-- spyglass/spyref1.mulE -/
def F161 : Fn1 := ⟨10, .seq (.reg [⟨some 2, none, .box, [.tm 0]⟩, ⟨some 3, none, .box, [.tm 1]⟩, ⟨some 4, none, .alloc [.b false, .sl 0 [] true], []⟩] [2, 3, 4]) (.seq (.reg [⟨some 5, none, .ld true 2 false, [.tm 2]⟩, ⟨some 6, none, .ld true 2 false, [.tm 3]⟩, ⟨some 7, none, .call 61, [.tm 5, .tm 6]⟩, ⟨some 8, none, .call 59, [.cn (.n .i64 60)]⟩, ⟨some 9, none, .call 58, [.tm 7, .tm 8]⟩, ⟨none, none, .st 2, [.tm 4, .tm 9]⟩] [4]) .ret), [.cell 4 true 2]⟩
theorem of161 : Fn1.of Tryz.prog 161 ⟨false, [], false⟩ [[2, 3, 4], [4]] = some F161 := by kernel_rfl
/-- live: [3, 5, 7, 8, 9, 33, 34, 35] -/
def L127_0 : SC := .seq (.reg [⟨some 36, none, .po (.bin .lss), [.tm 35, .tm 34]⟩] [3, 5, 7, 8, 9, 33, 34, 35, 36]) (.seq (.cond (.tm 36) .skip (.exit 0)) (.seq (.block 1 (.seq (.reg [⟨some 37, none, .ia none 1, [.tm 33, .tm 35]⟩, ⟨some 38, none, .ld false 1 true, [.tm 37]⟩, ⟨some 11, none, .mv, [.tm 38]⟩] [3, 5, 7, 8, 9, 11, 33, 34, 35]) (.dreg [⟨some 39, none, .ld true 2 false, [.tm 3]⟩, ⟨some 40, none, .ld true 2 false, [.tm 8]⟩, ⟨some 41, none, .ld true 2 false, [.tm 9]⟩, ⟨some 42, none, .call 161, [.tm 40, .tm 41]⟩, ⟨some 43, none, .mv, [.tm 11]⟩, ⟨some 44, none, .call 48, [.tm 43]⟩, ⟨some 45, none, .call 58, [.tm 42, .tm 44]⟩, ⟨some 46, none, .call 125, [.tm 39, .tm 45]⟩, ⟨none, none, .st 2, [.tm 9, .tm 46]⟩] [] [3, 5, 7, 8, 9, 33, 34, 35]))) (.reg [⟨some 47, none, .po (.bin .add), [.tm 35, .cn (.n .i64 1)]⟩, ⟨some 35, none, .mv, [.tm 47]⟩] [3, 5, 7, 8, 9, 33, 34, 35])))
/-- spyglass/spyref1.Rule -/
def F127 : Fn1 := ⟨63, .seq (.reg [⟨some 2, none, .mv, [.cn (.n .i64 0)]⟩] [0]) (.seq (.reg [⟨some 14, none, .call 59, [.cn (.n .i64 60)]⟩, ⟨some 15, none, .call 48, [.cn (.n .i64 1811004864519280710)]⟩, ⟨some 3, none, .alloc [.b false, .sl 0 [] true], []⟩, ⟨some 4, none, .alloc [.b false, .sl 0 [] true], []⟩, ⟨none, none, .st 2, [.tm 3, .tm 14]⟩, ⟨none, none, .st 2, [.tm 4, .tm 15]⟩] [0, 3, 4]) (.seq (.reg [⟨some 16, none, .mv, [.tm 0]⟩, ⟨some 17, none, .po (.bin .gtr), [.tm 16, .cn (.n .i64 536870912)]⟩, ⟨some 5, none, .mv, [.tm 17]⟩] [0, 3, 4, 5]) (.seq (.reg [⟨some 18, none, .po (.bsl 6 [.n .i64 0] [(0, 1), (1, 1), (2, 1), (3, 1), (4, 1), (5, 1)]), [.cn (.n .i64 156), .cn (.n .i64 110), .cn (.n .i64 72), .cn (.n .i64 42), .cn (.n .i64 20), .cn (.n .i64 6)]⟩, ⟨some 6, none, .mv, [.tm 18]⟩] [0, 3, 4, 5, 6]) (.seq (.seq (.reg [⟨some 19, none, .mv, [.tm 5]⟩] [0, 3, 4, 5, 6, 19]) (.cond (.tm 19) (.reg [⟨some 20, none, .mv, [.tm 0]⟩, ⟨some 21, none, .po (.bin .sub), [.cn (.n .i64 1073741824), .tm 20]⟩, ⟨some 22, none, .po (.bsl 7 [.n .i64 0] [(0, 1), (1, 1), (2, 1), (3, 1), (4, 1), (5, 1), (6, 1)]), [.cn (.n .i64 182), .cn (.n .i64 132), .cn (.n .i64 90), .cn (.n .i64 56), .cn (.n .i64 30), .cn (.n .i64 12), .cn (.n .i64 2)]⟩, ⟨some 0, none, .mv, [.tm 21]⟩, ⟨some 6, none, .mv, [.tm 22]⟩] [0, 3, 4, 5, 6]) .skip)) (.seq (.dreg [⟨some 23, none, .mv, [.tm 0]⟩, ⟨some 24, none, .call 48, [.tm 23]⟩, ⟨some 25, none, .ld true 2 false, [.tm 4]⟩, ⟨some 26, none, .call 61, [.tm 24, .tm 25]⟩, ⟨some 27, none, .call 59, [.cn (.n .i64 30)]⟩, ⟨some 28, none, .call 58, [.tm 26, .tm 27]⟩, ⟨some 7, none, .alloc [.b false, .sl 0 [] true], []⟩, ⟨none, none, .st 2, [.tm 7, .tm 28]⟩] [] [3, 5, 6, 7]) (.seq (.dreg [⟨some 29, none, .ld true 2 false, [.tm 7]⟩, ⟨some 30, none, .ld true 2 false, [.tm 7]⟩, ⟨some 31, none, .call 161, [.tm 29, .tm 30]⟩, ⟨some 32, none, .ld true 2 false, [.tm 3]⟩, ⟨some 8, none, .alloc [.b false, .sl 0 [] true], []⟩, ⟨some 9, none, .alloc [.b false, .sl 0 [] true], []⟩, ⟨none, none, .st 2, [.tm 8, .tm 31]⟩, ⟨none, none, .st 2, [.tm 9, .tm 32]⟩] [(3, 6)] [3, 5, 6, 7, 8, 9]) (.seq (.seq (.reg [⟨some 33, none, .mv, [.tm 6]⟩, ⟨some 34, none, .len false, [.tm 33]⟩, ⟨some 35, none, .mv, [.cn (.n .i64 0)]⟩] [3, 5, 7, 8, 9, 33, 34, 35]) (.block 0 (.loop [3, 5, 7, 8, 9, 33, 34, 35] L127_0))) (.seq (.seq (.reg [⟨some 48, none, .mv, [.tm 5]⟩, ⟨some 49, none, .po (.un .not), [.tm 48]⟩] [7, 9, 49]) (.cond (.tm 49) (.reg [⟨some 50, none, .ld true 2 false, [.tm 7]⟩, ⟨some 51, none, .ld true 2 false, [.tm 9]⟩, ⟨some 52, none, .call 161, [.tm 50, .tm 51]⟩, ⟨none, none, .st 2, [.tm 9, .tm 52]⟩] [9]) .skip)) (.seq (.dreg [⟨some 54, none, .ld true 2 false, [.tm 9]⟩, ⟨some 55, none, .call 59, [.cn (.n .i64 29)]⟩, ⟨some 56, none, .call 50, [.tm 54, .tm 55]⟩, ⟨some 57, none, .call 59, [.cn (.n .i64 30)]⟩, ⟨some 58, none, .call 58, [.tm 56, .tm 57]⟩, ⟨some 59, none, .call 120, [.tm 58]⟩, ⟨some 53, none, .mv, [.tm 59]⟩, ⟨some 60, none, .po (.ext 0), [.tm 53]⟩, ⟨some 61, none, .po (.ext 1), [.tm 53]⟩, ⟨some 12, none, .mv, [.tm 60]⟩, ⟨some 13, none, .mv, [.tm 61]⟩] [] [12]) (.seq (.reg [⟨some 62, none, .mv, [.tm 12]⟩, ⟨some 2, none, .mv, [.tm 62]⟩] [2]) .ret)))))))))), [.tm 2]⟩
theorem of127 : Fn1.of Tryz.prog 127 ⟨false, [], false⟩ [[0], [0, 3, 4], [0, 3, 4, 5], [0, 3, 4, 5, 6], [0, 3, 4, 5, 6, 19], [0, 3, 4, 5, 6], [3, 5, 6, 7], [3, 5, 6, 7, 8, 9], [3, 5, 7, 8, 9, 33, 34, 35], [3, 5, 7, 8, 9, 33, 34, 35], [3, 5, 7, 8, 9, 33, 34, 35, 36], [3, 5, 7, 8, 9, 11, 33, 34, 35], [3, 5, 7, 8, 9, 33, 34, 35], [3, 5, 7, 8, 9, 33, 34, 35], [7, 9, 49], [9], [12], [2]] = some F127 := by kernel_rfl
/-- spyglass/spyref1.Sine -/
def F53 : Fn1 := ⟨41, .seq (.reg [⟨some 2, none, .mv, [.cn (.n .i64 0)]⟩] [0]) (.seq (.reg [⟨some 8, none, .mv, [.tm 0]⟩, ⟨some 9, none, .call 48, [.tm 8]⟩, ⟨some 10, none, .call 59, [.cn (.n .i64 32)]⟩, ⟨some 11, none, .call 126, [.tm 9, .tm 10]⟩, ⟨some 7, none, .mv, [.tm 11]⟩, ⟨some 12, none, .po (.ext 0), [.tm 7]⟩, ⟨some 13, none, .po (.ext 1), [.tm 7]⟩, ⟨some 3, none, .alloc [.b false, .sl 0 [] true], []⟩, ⟨some 4, none, .alloc [.b false, .sl 0 [] true], []⟩, ⟨none, none, .st 2, [.tm 3, .tm 12]⟩, ⟨none, none, .st 2, [.tm 4, .tm 13]⟩] [4]) (.seq (.reg [⟨some 15, none, .ld true 2 false, [.tm 4]⟩, ⟨some 16, none, .call 120, [.tm 15]⟩, ⟨some 14, none, .mv, [.tm 16]⟩, ⟨some 17, none, .po (.ext 0), [.tm 14]⟩, ⟨some 18, none, .po (.ext 1), [.tm 14]⟩, ⟨some 5, none, .mv, [.tm 17]⟩, ⟨some 6, none, .mv, [.tm 18]⟩] [5]) (.seq (.block 0 (.seq (.reg [⟨some 20, none, .mv, [.tm 5]⟩, ⟨some 21, none, .po (.bin .leq), [.tm 20, .cn (.n .i64 1073741824)]⟩, ⟨some 19, none, .mv, [.tm 21]⟩] [5, 19]) (.cond (.tm 19) (.seq (.reg [⟨some 22, none, .mv, [.tm 5]⟩, ⟨some 23, none, .call 127, [.tm 22]⟩, ⟨some 2, none, .mv, [.tm 23]⟩] [2]) .ret) (.seq (.reg [⟨some 25, none, .mv, [.tm 5]⟩, ⟨some 26, none, .po (.bin .leq), [.tm 25, .cn (.n .i64 2147483648)]⟩, ⟨some 24, none, .mv, [.tm 26]⟩] [5, 24]) (.cond (.tm 24) (.seq (.reg [⟨some 27, none, .mv, [.tm 5]⟩, ⟨some 28, none, .po (.bin .sub), [.cn (.n .i64 2147483648), .tm 27]⟩, ⟨some 29, none, .call 127, [.tm 28]⟩, ⟨some 2, none, .mv, [.tm 29]⟩] [2]) .ret) (.seq (.reg [⟨some 31, none, .mv, [.tm 5]⟩, ⟨some 32, none, .po (.bin .leq), [.tm 31, .cn (.n .i64 3221225472)]⟩, ⟨some 30, none, .mv, [.tm 32]⟩] [5, 30]) (.cond (.tm 30) (.seq (.reg [⟨some 33, none, .mv, [.tm 5]⟩, ⟨some 34, none, .po (.bin .sub), [.tm 33, .cn (.n .i64 2147483648)]⟩, ⟨some 35, none, .call 127, [.tm 34]⟩, ⟨some 36, none, .po (.un .neg), [.tm 35]⟩, ⟨some 2, none, .mv, [.tm 36]⟩] [2]) .ret) .skip))))))) (.seq (.reg [⟨some 37, none, .mv, [.tm 5]⟩, ⟨some 38, none, .po (.bin .sub), [.cn (.n .i64 4294967296), .tm 37]⟩, ⟨some 39, none, .call 127, [.tm 38]⟩, ⟨some 40, none, .po (.un .neg), [.tm 39]⟩, ⟨some 2, none, .mv, [.tm 40]⟩] [2]) .ret)))), [.tm 2]⟩
theorem of53 : Fn1.of Tryz.prog 53 ⟨false, [], false⟩ [[0], [4], [5], [5, 19], [2], [5, 24], [2], [5, 30], [2], [2]] = some F53 := by kernel_rfl
/-- spyglass/spyref1.Cosine -/
def F54 : Fn1 := ⟨23, .seq (.reg [⟨some 2, none, .mv, [.cn (.n .i64 0)]⟩] [0]) (.seq (.reg [⟨some 8, none, .mv, [.tm 0]⟩, ⟨some 9, none, .call 48, [.tm 8]⟩, ⟨some 10, none, .call 59, [.cn (.n .i64 30)]⟩, ⟨some 11, none, .call 50, [.tm 9, .tm 10]⟩, ⟨some 12, none, .call 59, [.cn (.n .i64 32)]⟩, ⟨some 13, none, .call 126, [.tm 11, .tm 12]⟩, ⟨some 7, none, .mv, [.tm 13]⟩, ⟨some 14, none, .po (.ext 0), [.tm 7]⟩, ⟨some 15, none, .po (.ext 1), [.tm 7]⟩, ⟨some 3, none, .alloc [.b false, .sl 0 [] true], []⟩, ⟨some 4, none, .alloc [.b false, .sl 0 [] true], []⟩, ⟨none, none, .st 2, [.tm 3, .tm 14]⟩, ⟨none, none, .st 2, [.tm 4, .tm 15]⟩] [4]) (.seq (.reg [⟨some 17, none, .ld true 2 false, [.tm 4]⟩, ⟨some 18, none, .call 120, [.tm 17]⟩, ⟨some 16, none, .mv, [.tm 18]⟩, ⟨some 19, none, .po (.ext 0), [.tm 16]⟩, ⟨some 20, none, .po (.ext 1), [.tm 16]⟩, ⟨some 5, none, .mv, [.tm 19]⟩, ⟨some 6, none, .mv, [.tm 20]⟩] [5]) (.seq (.reg [⟨some 21, none, .mv, [.tm 5]⟩, ⟨some 22, none, .call 53, [.tm 21]⟩, ⟨some 2, none, .mv, [.tm 22]⟩] [2]) .ret))), [.tm 2]⟩
theorem of54 : Fn1.of Tryz.prog 54 ⟨false, [], false⟩ [[0], [4], [5], [2]] = some F54 := by kernel_rfl
theorem mulE_ok (a b : Int) (ha : zb 5 a) (hb : zb 5 b) : Pure Tryz.prog 161 [zV a, zV b] (zV (tms a b)) := by
  refine pure_of_wp of161 (Nat.le_of_ble_eq_true rfl) ?_
  have z2 : zb 4 ((2 : Int) ^ (60 : Int).toNat) := zb_64 (by decide)
  refine CallK.mk _ (Times_ok a b (ha.mono (by decide)) (hb.mono (by decide))) rfl ?_
  refine CallK.mk _ (Two_ok 60 (by decide)) rfl ?_
  refine CallK.mk _ (Floor_ok (a * b) _ ((ha.mul hb).mono (by decide)) (z2.mono (by decide)) (by decide)) rfl ?_
  ((repeat' first | refine DecK.tt ?_ | refine DecK.ff ?_ | refine DecK.beq (fun _ => ?_) (fun _ => ?_) | refine DecK.bne (fun _ => ?_) (fun _ => ?_) | refine DecK.dec (fun _ => ?_) (fun _ => ?_) | refine OptK.mk _ rfl ?_ | refine endV (by rfl) ?_) <;> (try with_reducible rfl))
  rfl
theorem two60 : Pure Tryz.prog 59 [.n .i64 60] (zV 1152921504606846976) := Two_ok 60 (by decide)
theorem two30 : Pure Tryz.prog 59 [.n .i64 30] (zV 1073741824) := Two_ok 30 (by decide)
theorem two29 : Pure Tryz.prog 59 [.n .i64 29] (zV 536870912) := Two_ok 29 (by decide)
theorem two32 : Pure Tryz.prog 59 [.n .i64 32] (zV 4294967296) := Two_ok 32 (by decide)
theorem ruleLoop {Q : Exit → St → Prop} (far : Bool) (x u : Int) (l : List Int) (t : Bool) (hu : 0 ≤ u ∧ u ≤ 1152921504606846976) (hl : ∀ k ∈ l, 2 ≤ k ∧ k ≤ 1000) (hll : l.length ≤ 1000)
    (hQ : ∀ tail, Q (.exit 0) ⟨(3, .ref 3 0) :: (5, .v (.b far)) :: (7, .ref 7 0) :: (8, .ref 8 0) :: (9, .ref 9 0) :: tail, [(9, zC (serF u l 1152921504606846976)), (8, zC u), (7, zC x), (3, zC 1152921504606846976)]⟩) :
    loopW Tryz.prog [3, 5, 7, 8, 9, 33, 34, 35] L127_0 Q ⟨[(3, .ref 3 0), (5, .v (.b far)), (7, .ref 7 0), (8, .ref 8 0), (9, .ref 9 0), (33, .v (.sl l.length (l.flatMap ni) t)), (34, .v (.n .i64 l.length)), (35, .v (.n .i64 0))], [(9, zC 1152921504606846976), (8, zC u), (7, zC x), (3, zC 1152921504606846976)]⟩ := by
  have zz : ∀ x : Int, -18446744073709551616 ≤ x ∧ x ≤ 18446744073709551616 → zb 4 x := fun x h => zb_64 h
  refine loop_ind2 (fun (s i : Int) => ⟨[(3, .ref 3 0), (5, .v (.b far)), (7, .ref 7 0), (8, .ref 8 0), (9, .ref 9 0), (33, .v (.sl l.length (l.flatMap ni) t)), (34, .v (.n .i64 l.length)), (35, .v (.n .i64 i))], [(9, zC s), (8, zC u), (7, zC x), (3, zC 1152921504606846976)]⟩) (fun s i => l.length - i.toNat)
    (fun s i => 0 ≤ i ∧ i ≤ l.length ∧ 0 ≤ s ∧ s ≤ 1152921504606846976 ∧ serF u (l.drop i.toNat) s = serF u l 1152921504606846976) _ _ (by simp) ?_
  intro s iz ⟨h1, h2, h3, h4, h5⟩ ih
  obtain ⟨i, rfl⟩ : ∃ i : Nat, iz = i := ⟨iz.toNat, by omega⟩
  simp only [Int.toNat_natCast] at h5
  refine DecK.dec (fun h => ?_) (fun h => ?_)
  · obtain ⟨k, hx, ex⟩ := drop_at (l := l) (k := i) (by omega)
    have bk := hl k (List.mem_of_getElem? hx)
    have hs := ser_step hu ⟨h3, h4⟩ bk.1
    have ht := tms_le hu.1 ⟨h3, h4⟩
    have wi : IntKind.i64.wrap ((i : Int) + 1) = ((i + 1 : Nat) : Int) := by simp (discharger := omega) only [w64, wu64, wu8, w32, wu32, tdivC, tmodC]; omega
    refine OptK.mk _ (ria i rfl (by omega)) ?_
    refine OptK.mk _ (rld1 (g := fun x => .n .i64 x) hx) ?_
    refine CallK.mk _ (mulE_ok u s ((zz _ (by omega)).mono (by decide)) ((zz _ (by omega)).mono (by decide))) rfl ?_
    refine CallK.mk _ (I_ok k (by omega)) rfl ?_
    refine CallK.mk _ (Floor_ok _ k ((zz _ (by omega)).mono (by decide)) ((zz _ (by omega)).mono (by decide)) (by omega)) rfl ?_
    refine CallK.mk _ (Less_ok 1152921504606846976 _ ((zz _ (by decide)).mono (by decide)) ((zz _ (by omega)).mono (by decide))) rfl ?_
    refine OptK.mk _ rfl ?_
    refine ih _ _ ⟨?_, ?_, ?_, ?_, ?_⟩ ?_
    all_goals try simp only [wi, Int.toNat_natCast]
    · omega
    · omega
    · omega
    · omega
    · rw [ex, serF] at h5; exact h5
    · omega
  · rw [List.drop_eq_nil_of_le (by omega), serF] at h5
    subst h5
    exact hQ _
theorem rule_ok (t : Int) (ht : 0 ≤ t ∧ t ≤ 1073741824) : Pure Tryz.prog 127 [.n .i64 t] (.n .i64 (quarF t)) := by
  refine pure_of_wp of127 (Nat.le_of_ble_eq_true rfl) ?_
  have zz : ∀ x : Int, -18446744073709551616 ≤ x ∧ x ≤ 18446744073709551616 → zb 4 x := fun x h => zb_64 h
  have fin : ∀ v : Int, 0 ≤ v ∧ v ≤ 1152921504606846976 → small ((v + 536870912) / 1073741824) = (v + 536870912) / 1073741824 := fun v hv => by rw [small, if_pos (by unfold fits; omega)]
  refine CallK.mk _ two60 rfl ?_
  refine CallK.mk _ (I_ok _ (by decide)) rfl ?_
  refine OptK.mk _ rfl ?_
  refine OptK.mk _ rfl ?_
  refine DecK.dec (fun h => ?_) (fun h => ?_)
  · have w1 : IntKind.i64.wrap (1073741824 - t) = 1073741824 - t := w64 (by omega)
    have hx := quarX_in (t := 1073741824 - t) (by omega)
    have hu := tms_le (a := quarX (1073741824 - t)) (b := quarX (1073741824 - t)) hx.1 (by omega)
    have hs := serF_in (u := tms (quarX (1073741824 - t)) (quarX (1073741824 - t))) (by omega) (l := highs) (s := 1152921504606846976) (by decide) (by decide)
    refine CallK.mk _ (I_ok _ (by rw [w1]; omega)) rfl ?_
    refine CallK.mk _ (Times_ok _ _ (by rw [w1]; exact (zz _ (by omega)).mono (by decide)) ((zz _ (by decide)).mono (by decide))) rfl ?_
    refine CallK.mk _ two30 rfl ?_
    refine CallK.mk _ (Floor_ok _ _ (by rw [w1]; exact ((zz _ (by omega)).mul (zz _ (by decide))).mono (by decide)) ((zz _ (by decide)).mono (by decide)) (by decide)) rfl ?_
    refine OptK.mk _ rfl ?_
    have ex : IntKind.i64.wrap (1073741824 - t) * 1811004864519280710 / 1073741824 = quarX (1073741824 - t) := by rw [w1]; rfl
    rw [ex]
    refine CallK.mk _ (mulE_ok _ _ ((zz _ (by omega)).mono (by decide)) ((zz _ (by omega)).mono (by decide))) rfl ?_
    refine OptK.mk _ rfl ?_
    refine OptK.mk _ rfl ?_
    refine ruleLoop (decide (t > 536870912)) (quarX (1073741824 - t)) _ highs true (by omega) (by decide) (by decide) fun tail => ?_
    refine DecK.no (by simp [h]) ?_
    refine CallK.mk _ two29 rfl ?_
    refine CallK.mk _ (Plus_ok _ _ ((zz _ (by omega)).mono (by decide)) ((zz _ (by decide)).mono (by decide))) rfl ?_
    refine CallK.mk _ two30 rfl ?_
    refine CallK.mk _ (Floor_ok _ _ ((zz _ (by omega)).mono (by decide)) ((zz _ (by decide)).mono (by decide)) (by decide)) rfl ?_
    refine CallK.mk _ (Small_ok _ ((zz _ (by omega)).mono (by decide))) rfl ?_
    ((repeat' first | refine DecK.tt ?_ | refine DecK.ff ?_ | refine DecK.beq (fun _ => ?_) (fun _ => ?_) | refine DecK.bne (fun _ => ?_) (fun _ => ?_) | refine DecK.dec (fun _ => ?_) (fun _ => ?_) | refine OptK.mk _ rfl ?_ | refine endV (by rfl) ?_) <;> (try with_reducible rfl))
    rw [fin _ hs, quarF, if_pos h]
  · have hx := quarX_in (t := t) (by omega)
    have hu := tms_le (a := quarX t) (b := quarX t) hx.1 (by omega)
    have hs := serF_in (u := tms (quarX t) (quarX t)) (by omega) (l := lows) (s := 1152921504606846976) (by decide) (by decide)
    have hv := tms_le (a := quarX t) (b := serF (tms (quarX t) (quarX t)) lows 1152921504606846976) hx.1 hs
    refine CallK.mk _ (I_ok _ (by omega)) rfl ?_
    refine CallK.mk _ (Times_ok _ _ ((zz _ (by omega)).mono (by decide)) ((zz _ (by decide)).mono (by decide))) rfl ?_
    refine CallK.mk _ two30 rfl ?_
    refine CallK.mk _ (Floor_ok _ _ (((zz _ (by omega)).mul (zz _ (by decide))).mono (by decide)) ((zz _ (by decide)).mono (by decide)) (by decide)) rfl ?_
    refine OptK.mk _ rfl ?_
    have ex : t * 1811004864519280710 / 1073741824 = quarX t := rfl
    rw [ex]
    refine CallK.mk _ (mulE_ok _ _ ((zz _ (by omega)).mono (by decide)) ((zz _ (by omega)).mono (by decide))) rfl ?_
    refine OptK.mk _ rfl ?_
    refine OptK.mk _ rfl ?_
    refine ruleLoop (decide (t > 536870912)) (quarX t) _ lows true (by omega) (by decide) (by decide) fun tail => ?_
    refine DecK.yes (by simp [h]) ?_
    refine CallK.mk _ (mulE_ok _ _ ((zz _ (by omega)).mono (by decide)) ((zz _ (by omega)).mono (by decide))) rfl ?_
    refine OptK.mk _ rfl ?_
    refine CallK.mk _ two29 rfl ?_
    refine CallK.mk _ (Plus_ok _ _ ((zz _ (by omega)).mono (by decide)) ((zz _ (by decide)).mono (by decide))) rfl ?_
    refine CallK.mk _ two30 rfl ?_
    refine CallK.mk _ (Floor_ok _ _ ((zz _ (by omega)).mono (by decide)) ((zz _ (by decide)).mono (by decide)) (by decide)) rfl ?_
    refine CallK.mk _ (Small_ok _ ((zz _ (by omega)).mono (by decide))) rfl ?_
    ((repeat' first | refine DecK.tt ?_ | refine DecK.ff ?_ | refine DecK.beq (fun _ => ?_) (fun _ => ?_) | refine DecK.bne (fun _ => ?_) (fun _ => ?_) | refine DecK.dec (fun _ => ?_) (fun _ => ?_) | refine OptK.mk _ rfl ?_ | refine endV (by rfl) ?_) <;> (try with_reducible rfl))
    rw [fin _ (by omega), quarF, if_neg h]
theorem sine_ok (a : Int) (ha : fits a) : Pure Tryz.prog 53 [.n .i64 a] (.n .i64 (sinF a)) := by
  refine pure_of_wp of53 (Nat.le_of_ble_eq_true rfl) ?_
  have zz : ∀ x : Int, -18446744073709551616 ≤ x ∧ x ≤ 18446744073709551616 → zb 4 x := fun x h => zb_64 h
  refine CallK.mk _ (I_ok a ha) rfl ?_
  refine CallK.mk _ two32 rfl ?_
  refine CallK.mk _ (Split_ok a _ (ha.zb.mono (by decide)) ((zz _ (by decide)).mono (by decide)) (by decide)) rfl ?_
  refine OptK.mk _ rfl ?_
  refine OptK.mk _ rfl ?_
  have tS := Small_ok (a % 4294967296) ((zz _ (by omega)).mono (by decide))
  rw [small, if_pos (by unfold fits; omega)] at tS
  refine CallK.mk _ tS rfl ?_
  have hr0 : 0 ≤ a % 4294967296 ∧ a % 4294967296 < 4294967296 := by omega
  have eS : sinF a = if a % 4294967296 ≤ 1073741824 then quarF (a % 4294967296) else if a % 4294967296 ≤ 2147483648 then quarF (2147483648 - a % 4294967296) else if a % 4294967296 ≤ 3221225472 then -quarF (a % 4294967296 - 2147483648) else -quarF (4294967296 - a % 4294967296) := rfl
  rw [eS]
  generalize a % 4294967296 = r at *
  have ng : ∀ y : Int, 0 ≤ y ∧ y ≤ 1073741824 → IntKind.i64.wrap (0 - quarF y) = -quarF y := fun y hy => by have := quarF_in hy; rw [w64 (by omega)]; omega
  have w1 : IntKind.i64.wrap (2147483648 - r) = 2147483648 - r := w64 (by omega)
  have w2 : IntKind.i64.wrap (r - 2147483648) = r - 2147483648 := w64 (by omega)
  have w3 : IntKind.i64.wrap (4294967296 - r) = 4294967296 - r := w64 (by omega)
  refine DecK.dec (fun h1 => ?_) (fun h1 => ?_)
  · refine CallK.mk _ (rule_ok r (by omega)) rfl ?_
    ((repeat' first | refine DecK.tt ?_ | refine DecK.ff ?_ | refine DecK.beq (fun _ => ?_) (fun _ => ?_) | refine DecK.bne (fun _ => ?_) (fun _ => ?_) | refine DecK.dec (fun _ => ?_) (fun _ => ?_) | refine OptK.mk _ rfl ?_ | refine endV (by rfl) ?_) <;> (try with_reducible rfl))
    rw [if_pos h1]
  refine DecK.dec (fun h2 => ?_) (fun h2 => ?_)
  · refine CallK.mk _ ((rule_ok (2147483648 - r) (by omega)).args (by rw [w1])) rfl ?_
    ((repeat' first | refine DecK.tt ?_ | refine DecK.ff ?_ | refine DecK.beq (fun _ => ?_) (fun _ => ?_) | refine DecK.bne (fun _ => ?_) (fun _ => ?_) | refine DecK.dec (fun _ => ?_) (fun _ => ?_) | refine OptK.mk _ rfl ?_ | refine endV (by rfl) ?_) <;> (try with_reducible rfl))
    rw [if_neg h1, if_pos h2]
  refine DecK.dec (fun h3 => ?_) (fun h3 => ?_)
  · refine CallK.mk _ ((rule_ok (r - 2147483648) (by omega)).args (by rw [w2])) rfl ?_
    ((repeat' first | refine DecK.tt ?_ | refine DecK.ff ?_ | refine DecK.beq (fun _ => ?_) (fun _ => ?_) | refine DecK.bne (fun _ => ?_) (fun _ => ?_) | refine DecK.dec (fun _ => ?_) (fun _ => ?_) | refine OptK.mk _ rfl ?_ | refine endV (by rfl) ?_) <;> (try with_reducible rfl))
    rw [ng _ (by omega), if_neg h1, if_neg h2, if_pos h3]
  · refine CallK.mk _ ((rule_ok (4294967296 - r) (by omega)).args (by rw [w3])) rfl ?_
    ((repeat' first | refine DecK.tt ?_ | refine DecK.ff ?_ | refine DecK.beq (fun _ => ?_) (fun _ => ?_) | refine DecK.bne (fun _ => ?_) (fun _ => ?_) | refine DecK.dec (fun _ => ?_) (fun _ => ?_) | refine OptK.mk _ rfl ?_ | refine endV (by rfl) ?_) <;> (try with_reducible rfl))
    rw [ng _ (by omega), if_neg h1, if_neg h2, if_neg h3]
theorem cosine_ok (a : Int) (ha : fits a) : Pure Tryz.prog 54 [.n .i64 a] (.n .i64 (sinF (a + 1073741824))) := by
  refine pure_of_wp of54 (Nat.le_of_ble_eq_true rfl) ?_
  have zz : ∀ x : Int, -18446744073709551616 ≤ x ∧ x ≤ 18446744073709551616 → zb 4 x := fun x h => zb_64 h
  have zs : zb 4 (a + 1073741824) := zz _ (by unfold fits at ha; omega)
  refine CallK.mk _ (I_ok a ha) rfl ?_
  refine CallK.mk _ two30 rfl ?_
  refine CallK.mk _ (Plus_ok a _ (ha.zb.mono (by decide)) ((zz _ (by decide)).mono (by decide))) rfl ?_
  refine CallK.mk _ two32 rfl ?_
  refine CallK.mk _ (Split_ok _ _ (zs.mono (by decide)) ((zz _ (by decide)).mono (by decide)) (by decide)) rfl ?_
  refine OptK.mk _ rfl ?_
  refine OptK.mk _ rfl ?_
  have tS := Small_ok ((a + 1073741824) % 4294967296) ((zz _ (by omega)).mono (by decide))
  rw [small, if_pos (by unfold fits; omega)] at tS
  refine CallK.mk _ tS rfl ?_
  refine CallK.mk _ (sine_ok _ (by unfold fits; omega)) rfl ?_
  ((repeat' first | refine DecK.tt ?_ | refine DecK.ff ?_ | refine DecK.beq (fun _ => ?_) (fun _ => ?_) | refine DecK.bne (fun _ => ?_) (fun _ => ?_) | refine DecK.dec (fun _ => ?_) (fun _ => ?_) | refine OptK.mk _ rfl ?_ | refine endV (by rfl) ?_) <;> (try with_reducible rfl))
  rw [sinF_mod]
end Go.Proofs.YtciigfeecmnghaaRRRRGreatRR.Sv
