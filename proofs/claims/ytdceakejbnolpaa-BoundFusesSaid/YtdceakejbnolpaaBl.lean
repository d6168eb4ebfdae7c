/- Bounds that are fused: the statement. No condition. -/
import Derived.Test.YtdceakejbnolpaaBo
namespace Go.Proofs.Ytdceakejbnolpaa.Sv
open Go Go.RowKit
set_option linter.unusedVariables false
set_option linter.unusedSimpArgs false
set_option maxRecDepth 100000
/-- live: [0, 1, 2, 7, 13, 43, 44, 45, 70, 71, 72] -/
def L8_0 : SC := .seq (.reg [⟨some 73, none, .po (.bin .lss), [.tm 72, .tm 71]⟩] [0, 1, 2, 7, 13, 43, 44, 45, 70, 71, 72, 73]) (.seq (.cond (.tm 73) .skip (.exit 4)) (.seq (.block 5 (.seq (.reg [⟨some 74, none, .ia none 1, [.tm 70, .tm 72]⟩, ⟨some 75, none, .ld false 1 true, [.tm 74]⟩, ⟨some 20, none, .mv, [.tm 75]⟩] [0, 1, 2, 7, 13, 20, 43, 44, 45, 70, 71, 72]) (.seq (.seq (.reg [⟨some 76, none, .mv, [.tm 0]⟩, ⟨some 77, none, .mv, [.tm 20]⟩, ⟨some 78, none, .call 39, [.tm 76, .tm 77]⟩, ⟨some 79, none, .mv, [.tm 7]⟩, ⟨some 80, none, .mv, [.tm 2]⟩, ⟨some 81, none, .po (.bin .sub), [.tm 79, .tm 80]⟩, ⟨some 82, none, .po (.bin .lss), [.tm 78, .tm 81]⟩] [0, 1, 2, 7, 13, 20, 43, 44, 45, 70, 71, 72, 82]) (.cond (.tm 82) (.exit 5) .skip)) (.seq (.seq (.reg [⟨some 83, none, .fa 2, [.tm 13]⟩, ⟨some 84, none, .ld false 1 false, [.tm 83]⟩] [0, 1, 2, 7, 13, 20, 43, 44, 45, 70, 71, 72, 84]) (.cond (.tm 84) (.reg [⟨some 85, none, .mv, [.tm 20]⟩, ⟨some 86, none, .mv, [.tm 20]⟩, ⟨some 87, none, .po (.build [.n .i64 0, .n .i64 0, .b false] [(0, 1), (1, 1)]), [.tm 85, .tm 86]⟩, ⟨none, none, .st 3, [.tm 13, .tm 87]⟩] [0, 1, 2, 7, 13, 20, 43, 44, 45, 70, 71, 72]) .skip)) (.reg [⟨some 88, none, .fa 0, [.tm 13]⟩, ⟨some 89, none, .ld false 1 false, [.tm 88]⟩, ⟨some 90, none, .mv, [.tm 20]⟩, ⟨some 91, none, .po .mn, [.tm 89, .tm 90]⟩, ⟨some 92, none, .fa 1, [.tm 13]⟩, ⟨some 93, none, .ld false 1 false, [.tm 92]⟩, ⟨some 94, none, .mv, [.tm 20]⟩, ⟨some 95, none, .po .mx, [.tm 93, .tm 94]⟩, ⟨some 96, none, .fa 0, [.tm 13]⟩, ⟨none, none, .st 1, [.tm 96, .tm 91]⟩, ⟨some 97, none, .fa 1, [.tm 13]⟩, ⟨none, none, .st 1, [.tm 97, .tm 95]⟩] [0, 1, 2, 7, 13, 43, 44, 45, 70, 71, 72]))))) (.reg [⟨some 98, none, .po (.bin .add), [.tm 72, .cn (.n .i64 1)]⟩, ⟨some 72, none, .mv, [.tm 98]⟩] [0, 1, 2, 7, 13, 43, 44, 45, 70, 71, 72])))
/-- live: [0, 1, 2, 7, 13, 43, 44, 45] -/
def L8_1 : SC := .seq (.reg [⟨some 46, none, .po (.bin .lss), [.tm 45, .tm 44]⟩] [0, 1, 2, 7, 13, 43, 44, 45, 46]) (.seq (.cond (.tm 46) .skip (.exit 2)) (.seq (.block 3 (.seq (.reg [⟨some 47, none, .ia none 3, [.tm 43, .tm 45]⟩, ⟨some 48, none, .ld true 3 true, [.tm 47]⟩, ⟨some 15, none, .alloc [.n .i64 0, .n .i64 0, .b false], []⟩, ⟨none, none, .st 3, [.tm 15, .tm 48]⟩] [0, 1, 2, 7, 13, 15, 43, 44, 45]) (.seq (.seq (.reg [⟨some 50, none, .ld true 3 false, [.tm 15]⟩, ⟨some 51, none, .call 38, [.tm 50]⟩, ⟨some 49, none, .mv, [.tm 51]⟩, ⟨some 52, none, .po (.ext 0), [.tm 49]⟩, ⟨some 53, none, .po (.ext 1), [.tm 49]⟩, ⟨some 54, none, .po (.ext 2), [.tm 49]⟩, ⟨some 16, none, .alloc [.b false, .sl 0 [] true], []⟩, ⟨some 17, none, .alloc [.b false, .sl 0 [] true], []⟩, ⟨none, none, .st 2, [.tm 16, .tm 52]⟩, ⟨none, none, .st 2, [.tm 17, .tm 53]⟩, ⟨some 18, none, .mv, [.tm 54]⟩] [0, 1, 2, 7, 13, 15, 18, 43, 44, 45]) (.seq (.reg [⟨some 55, none, .mv, [.tm 18]⟩, ⟨some 56, none, .po (.un .not), [.tm 55]⟩, ⟨some 57, none, .mv, [.tm 56]⟩, ⟨some 58, some (57, false), .mv, [.tm 2]⟩, ⟨some 59, some (57, false), .po (.bin .lss), [.tm 58, .cn (.n .i64 0)]⟩, ⟨some 60, none, .pick, [.tm 57, .cn (.b true), .tm 59]⟩, ⟨some 61, none, .mv, [.tm 60]⟩, ⟨some 62, some (61, false), .mv, [.tm 7]⟩, ⟨some 63, some (61, false), .mv, [.tm 2]⟩, ⟨some 64, some (61, false), .po (.bin .leq), [.tm 62, .tm 63]⟩, ⟨some 65, none, .pick, [.tm 61, .cn (.b true), .tm 64]⟩] [0, 1, 2, 7, 13, 15, 43, 44, 45, 65]) (.cond (.tm 65) (.exit 3) .skip))) (.seq (.reg [⟨some 66, none, .fa 0, [.tm 15]⟩, ⟨some 67, none, .ld false 1 false, [.tm 66]⟩, ⟨some 68, none, .fa 1, [.tm 15]⟩, ⟨some 69, none, .ld false 1 false, [.tm 68]⟩, ⟨some 70, none, .po (.bsl 2 [.n .i64 0] [(0, 1), (1, 1)]), [.tm 67, .tm 69]⟩, ⟨some 71, none, .len false, [.tm 70]⟩, ⟨some 72, none, .mv, [.cn (.n .i64 0)]⟩] [0, 1, 2, 7, 13, 43, 44, 45, 70, 71, 72]) (.block 4 (.loop [0, 1, 2, 7, 13, 43, 44, 45, 70, 71, 72] L8_0)))))) (.reg [⟨some 99, none, .po (.bin .add), [.tm 45, .cn (.n .i64 1)]⟩, ⟨some 45, none, .mv, [.tm 99]⟩] [0, 1, 2, 7, 13, 43, 44, 45])))
/-- live: [0, 1, 2, 7, 26, 27, 28] -/
def L8_2 : SC := .seq (.reg [⟨some 29, none, .po (.bin .lss), [.tm 28, .tm 27]⟩] [0, 1, 2, 7, 26, 27, 28, 29]) (.seq (.cond (.tm 29) .skip (.exit 0)) (.seq (.block 1 (.seq (.reg [⟨some 30, none, .ia none 3, [.tm 26, .tm 28]⟩, ⟨some 31, none, .ld true 3 true, [.tm 30]⟩, ⟨some 9, none, .alloc [.n .i64 0, .n .i64 0, .b false], []⟩, ⟨none, none, .st 3, [.tm 9, .tm 31]⟩] [0, 1, 2, 7, 9, 26, 27, 28]) (.seq (.reg [⟨some 33, none, .ld true 3 false, [.tm 9]⟩, ⟨some 34, none, .call 38, [.tm 33]⟩, ⟨some 32, none, .mv, [.tm 34]⟩, ⟨some 35, none, .po (.ext 0), [.tm 32]⟩, ⟨some 36, none, .po (.ext 1), [.tm 32]⟩, ⟨some 37, none, .po (.ext 2), [.tm 32]⟩, ⟨some 10, none, .alloc [.b false, .sl 0 [] true], []⟩, ⟨some 11, none, .alloc [.b false, .sl 0 [] true], []⟩, ⟨none, none, .st 2, [.tm 10, .tm 35]⟩, ⟨none, none, .st 2, [.tm 11, .tm 36]⟩, ⟨some 12, none, .mv, [.tm 37]⟩] [0, 1, 2, 7, 12, 26, 27, 28]) (.seq (.reg [⟨some 38, none, .mv, [.tm 12]⟩] [0, 1, 2, 7, 26, 27, 28, 38]) (.cond (.tm 38) (.reg [⟨some 39, none, .mv, [.tm 7]⟩, ⟨some 40, none, .po (.bin .add), [.tm 39, .cn (.n .i64 1)]⟩, ⟨some 7, none, .mv, [.tm 40]⟩] [0, 1, 2, 7, 26, 27, 28]) .skip))))) (.reg [⟨some 41, none, .po (.bin .add), [.tm 28, .cn (.n .i64 1)]⟩, ⟨some 28, none, .mv, [.tm 41]⟩] [0, 1, 2, 7, 26, 27, 28])))
/-- spyglass/spylaw1.BoundFuses -/
def F8 : Fn1 := ⟨114, .seq (.reg [⟨some 6, none, .mv, [.cn (.b false)]⟩] [0, 1, 2]) (.seq (.seq (.reg [⟨some 21, none, .call 37, []⟩, ⟨some 22, none, .po (.un .not), [.tm 21]⟩] [0, 1, 2, 22]) (.cond (.tm 22) (.seq (.reg [⟨some 6, none, .mv, [.cn (.b false)]⟩] [6]) .ret) .skip)) (.seq (.seq (.reg [⟨some 23, none, .mv, [.tm 0]⟩, ⟨some 24, none, .len false, [.tm 23]⟩, ⟨some 25, none, .po (.bin .gtr), [.tm 24, .cn (.n .i64 300)]⟩] [0, 1, 2, 25]) (.cond (.tm 25) (.seq (.reg [⟨some 6, none, .mv, [.cn (.b true)]⟩] [6]) .ret) .skip)) (.seq (.reg [⟨some 7, none, .mv, [.cn (.n .i64 0)]⟩] [0, 1, 2, 7]) (.seq (.seq (.reg [⟨some 26, none, .mv, [.tm 0]⟩, ⟨some 27, none, .len false, [.tm 26]⟩, ⟨some 28, none, .mv, [.cn (.n .i64 0)]⟩] [0, 1, 2, 7, 26, 27, 28]) (.block 0 (.loop [0, 1, 2, 7, 26, 27, 28] L8_2))) (.seq (.reg [⟨some 42, none, .po (.build [.n .i64 0, .n .i64 0, .b false] [(2, 1)]), [.cn (.b true)]⟩, ⟨some 13, none, .alloc [.n .i64 0, .n .i64 0, .b false], []⟩, ⟨none, none, .st 3, [.tm 13, .tm 42]⟩] [0, 1, 2, 7, 13]) (.seq (.seq (.reg [⟨some 43, none, .mv, [.tm 0]⟩, ⟨some 44, none, .len false, [.tm 43]⟩, ⟨some 45, none, .mv, [.cn (.n .i64 0)]⟩] [0, 1, 2, 7, 13, 43, 44, 45]) (.block 2 (.loop [0, 1, 2, 7, 13, 43, 44, 45] L8_1))) (.seq (.dreg [⟨some 100, none, .mv, [.tm 0]⟩, ⟨some 101, none, .mv, [.tm 1]⟩, ⟨some 102, none, .call 40, [.tm 100, .tm 101]⟩, ⟨some 103, none, .mv, [.tm 0]⟩, ⟨some 104, none, .mv, [.tm 1]⟩, ⟨some 105, none, .call 39, [.tm 103, .tm 104]⟩, ⟨some 106, none, .po (.bin .eql), [.tm 102, .tm 105]⟩, ⟨some 107, none, .mv, [.tm 106]⟩, ⟨some 108, some (107, true), .mv, [.tm 0]⟩, ⟨some 109, some (107, true), .mv, [.tm 2]⟩, ⟨some 110, some (107, true), .call 41, [.tm 108, .tm 109]⟩, ⟨some 111, some (107, true), .ld true 3 false, [.tm 13]⟩, ⟨some 112, some (107, true), .po (.veq false [(0, .n), (1, .n), (2, .b)]), [.tm 110, .tm 111]⟩, ⟨some 113, none, .pick, [.tm 107, .tm 112, .cn (.b false)]⟩, ⟨some 6, none, .mv, [.tm 113]⟩] [] [6]) .ret))))))), [.tm 6]⟩
theorem of8 : Fn1.of Try.prog 8 ⟨false, []⟩ [[0, 1, 2], [0, 1, 2, 22], [6], [0, 1, 2, 25], [6], [0, 1, 2, 7], [0, 1, 2, 7, 26, 27, 28], [0, 1, 2, 7, 26, 27, 28], [0, 1, 2, 7, 26, 27, 28, 29], [0, 1, 2, 7, 9, 26, 27, 28], [0, 1, 2, 7, 12, 26, 27, 28], [0, 1, 2, 7, 26, 27, 28, 38], [0, 1, 2, 7, 26, 27, 28], [0, 1, 2, 7, 26, 27, 28], [0, 1, 2, 7, 13], [0, 1, 2, 7, 13, 43, 44, 45], [0, 1, 2, 7, 13, 43, 44, 45], [0, 1, 2, 7, 13, 43, 44, 45, 46], [0, 1, 2, 7, 13, 15, 43, 44, 45], [0, 1, 2, 7, 13, 15, 18, 43, 44, 45], [0, 1, 2, 7, 13, 15, 43, 44, 45, 65], [0, 1, 2, 7, 13, 43, 44, 45, 70, 71, 72], [0, 1, 2, 7, 13, 43, 44, 45, 70, 71, 72], [0, 1, 2, 7, 13, 43, 44, 45, 70, 71, 72, 73], [0, 1, 2, 7, 13, 20, 43, 44, 45, 70, 71, 72], [0, 1, 2, 7, 13, 20, 43, 44, 45, 70, 71, 72, 82], [0, 1, 2, 7, 13, 20, 43, 44, 45, 70, 71, 72, 84], [0, 1, 2, 7, 13, 20, 43, 44, 45, 70, 71, 72], [0, 1, 2, 7, 13, 43, 44, 45, 70, 71, 72], [0, 1, 2, 7, 13, 43, 44, 45, 70, 71, 72], [0, 1, 2, 7, 13, 43, 44, 45], [6]] = some F8 := by kernel_rfl
abbrev fuS (l : List BdT) (v f n : Int) : List (Nat × D) := [(0, .v (rowV bdT l)), (1, .v (.n .i64 v)), (2, .v (.n .i64 f)), (7, .v (.n .i64 n)), (13, .ref 13 0)]
/-- The two ends of a bound. -/
theorem fuse_in {Q : Exit → St → Prop} (l : List BdT) (v f n need : Int) (hl : l.length ≤ 1000000) (hw : IntKind.i64.wrap (n - f) = need) (ix : Int) (a b : Int) (ha : fits a) (hb : fits b) (w : Bd)
    (hX : ∀ w' i c, w' = ([a, b].filter fun x => decide (need ≤ votesF (l.map nrm) x)).foldl stepW w → Q (.exit 4) ⟨fuS l v f n ++ [(43, .v (rowV bdT l)), (44, .v (.n .i64 l.length)), (45, .v (.n .i64 ix)), (70, .v (.sl 2 [.n .i64 a, .n .i64 b] true)), (71, .v (.n .i64 2)), (72, .v (.n .i64 i)), (73, .v (.b c))], [(13, encC w')]⟩) :
    loopW Try.prog [0, 1, 2, 7, 13, 43, 44, 45, 70, 71, 72] L8_0 Q ⟨fuS l v f n ++ [(43, .v (rowV bdT l)), (44, .v (.n .i64 l.length)), (45, .v (.n .i64 ix)), (70, .v (.sl 2 [.n .i64 a, .n .i64 b] true)), (71, .v (.n .i64 2)), (72, .v (.n .i64 0))], [(13, encC w)]⟩ := by
  refine loop_ind2 (fun (w : Bd) (k : Int) => ⟨fuS l v f n ++ [(43, .v (rowV bdT l)), (44, .v (.n .i64 l.length)), (45, .v (.n .i64 ix)), (70, .v (.sl 2 [.n .i64 a, .n .i64 b] true)), (71, .v (.n .i64 2)), (72, .v (.n .i64 k))], [(13, encC w)]⟩) (fun w k => 2 - k.toNat)
    (fun w' k => 0 ≤ k ∧ k ≤ 2 ∧ (([a, b].drop k.toNat).filter fun x => decide (need ≤ votesF (l.map nrm) x)).foldl stepW w' = ([a, b].filter fun x => decide (need ≤ votesF (l.map nrm) x)).foldl stepW w) w 0 ⟨by decide, by decide, rfl⟩ ?_
  intro w' k ⟨k0, k2, k4⟩ ih
  refine DecK.dec (fun h => ?_) (fun h => ?_)
  · obtain ⟨y, hy, hyk, hyd⟩ : ∃ y, fits y ∧ [a, b][k.toNat]? = some y ∧ [a, b].drop k.toNat = y :: [a, b].drop (k.toNat + 1) := by
      rcases (show k = 0 ∨ k = 1 by omega) with rfl | rfl
      · exact ⟨a, ha, rfl, rfl⟩
      · exact ⟨b, hb, rfl, rfl⟩
    have wk : IntKind.i64.wrap (k + 1) = k + 1 := w64 (by omega)
    have hk1 : (k + 1).toNat = k.toNat + 1 := by omega
    rw [hyd, List.filter_cons] at k4
    refine OptK.mk _ (ria (n := 2) k.toNat (by omega) (by omega)) ?_
    refine OptK.mk _ (rld1 (g := fun x => .n .i64 x) (l := [a, b]) hyk) ?_
    refine CallK.mk _ (spreadFix l y hl hy) rfl ?_
    refine DecK.dec (fun g => ?_) (fun g => ?_)
    · rw [hw] at g
      rw [if_neg (by rw [decide_eq_true_eq]; omega)] at k4
      refine loop_eq (by rw [wk] <;> rfl) (ih w' (k + 1) ⟨by omega, by omega, by rw [hk1]; exact k4⟩ (by omega))
    · rw [hw] at g
      rw [if_pos (by rw [decide_eq_true_eq]; omega), List.foldl_cons] at k4
      rcases w' with _ | ⟨p, q⟩
      · refine DecK.tt ?_
        refine OptK.mk _ rfl ?_
        refine OptK.mk _ rfl ?_
        refine OptK.mk _ rfl ?_
        refine loop_eq ?_ (ih (some (y, y)) (k + 1) ⟨by omega, by omega, by rw [hk1]; exact k4⟩ (by omega))
        have e1 : (if y < y then y else y) = y := by simp
        have e2 : (if y > y then y else y) = y := by simp
        rw [wk]
        first | rfl | (simp only [e1, e2]; rfl) | (simp; done)
      · refine DecK.ff ?_
        refine OptK.mk _ rfl ?_
        refine OptK.mk _ rfl ?_
        refine loop_eq ?_ (ih (some (min p y, max q y)) (k + 1) ⟨by omega, by omega, by rw [hk1]; exact k4⟩ (by omega))
        have e1 : (if y < p then y else p) = min p y := by omega
        have e2 : (if y > q then y else q) = max q y := by omega
        rw [wk, ← e1, ← e2]
        rfl
  · obtain rfl : k = 2 := by omega
    exact hX w' _ _ k4
theorem boundFuses_pure (l : List BdT) (v f : Int) (hv : fits v) (hf : fits f) (hll : l.length ≤ 9000000000000000000) : Pure Try.prog 8 [rowV bdT l, .n .i64 v, .n .i64 f] (.b true) := by
  refine pure_of_wp of8 (Nat.le_of_ble_eq_true rfl) ?_
  have hff := hf
  unfold fits at hff
  refine CallK.mk _ bounds_ok rfl ?_
  refine DecK.ff ?_
  refine DecK.dec (fun h => ?_) (fun h => ?_)
  · ((repeat' first | refine DecK.tt ?_ | refine DecK.ff ?_ | refine DecK.beq (fun _ => ?_) (fun _ => ?_) | refine DecK.bne (fun _ => ?_) (fun _ => ?_) | refine DecK.dec (fun _ => ?_) (fun _ => ?_) | refine OptK.mk _ rfl ?_ | refine endV (by rfl) ?_) <;> (try with_reducible rfl))
  have hl : l.length ≤ 1000000 := by omega
  have hend := ends_len (l.map nrm)
  simp only [List.length_map] at hend
  refine loop_left 0 (fun (e : Int × Bool) tail => ⟨[(0, .v (rowV bdT l)), (1, .v (.n .i64 v)), (2, .v (.n .i64 f)), (7, .v (.n .i64 (cntB (l.map nrm)))), (26, .v (rowV bdT l)), (27, .v (.n .i64 l.length)), (28, .v (.n .i64 e.1)), (29, .v (.b e.2))], []⟩) (fun _ => True) ?_ ?_
  · refine loop_ind2 (fun (n i : Int) => ⟨[(0, .v (rowV bdT l)), (1, .v (.n .i64 v)), (2, .v (.n .i64 f)), (7, .v (.n .i64 n)), (26, .v (rowV bdT l)), (27, .v (.n .i64 l.length)), (28, .v (.n .i64 i))], []⟩) (fun n i => l.length - i.toNat)
      (fun n i => 0 ≤ i ∧ i ≤ l.length ∧ 0 ≤ n ∧ n ≤ i ∧ n + cntB ((l.drop i.toNat).map nrm) = cntB (l.map nrm)) 0 0 (by simp) ?_
    intro n iz ⟨h1, h2, h3, h4, h5⟩ ih
    obtain ⟨i, rfl⟩ : ∃ i : Nat, iz = i := ⟨iz.toNat, by omega⟩
    simp only [Int.toNat_natCast] at h5
    refine DecK.dec (fun h => ?_) (fun h => ?_)
    · obtain ⟨x, hx, ex, mx, _⟩ := at_ex' (l := l) (k := i) (by omega)
      have wi : IntKind.i64.wrap ((i : Int) + 1) = ((i + 1 : Nat) : Int) := by simp (discharger := omega) only [w64, wu64, wu8, w32, wu32, tdivC, tmodC]; omega
      have wn : IntKind.i64.wrap (n + 1) = n + 1 := w64 (by omega)
      rw [ex, List.map_cons] at h5
      refine OptK.mk _ (ria i rfl (by omega)) ?_
      refine OptK.mk _ (rld bdz hx) ?_
      refine OptK.mk _ rfl ?_
      refine CallK.mk _ (sidesFix x.1 x.2.1 x.2.2.1) rfl ?_
      rw [show normB x.1 x.2.1 x.2.2.1 = nrm x from rfl]
      generalize nrm x = y at *
      refine OptK.mk _ rfl ?_
      refine OptK.mk _ rfl ?_
      rcases y with _ | p
      · refine DecK.no rfl ?_
        refine ih n _ ⟨?_, ?_, ?_, ?_, ?_⟩ ?_
        all_goals try simp only [wi, Int.toNat_natCast]
        all_goals try simp only [cntB] at h5
        all_goals omega
      · refine DecK.yes rfl ?_
        refine ih _ _ ⟨?_, ?_, ?_, ?_, ?_⟩ ?_
        all_goals try simp only [wi, wn, Int.toNat_natCast]
        all_goals try simp only [cntB] at h5
        all_goals omega
    · refine .mk ((i : Int), decide ((i : Int) < l.length)) [] rfl ?_ trivial
      rw [List.drop_eq_nil_of_le (by omega)] at h5
      simp only [List.map_nil, cntB] at h5
      rw [show n = (cntB (l.map nrm) : Int) by omega]
  intro ⟨i0, b0⟩ tail _
  refine inBlk ?_
  refine OptK.mk _ rfl ?_
  generalize hn : (cntB (l.map nrm) : Int) = n at *
  -- the loop over the ends
  refine loop_left 2 (fun (e : Int × Bool) tail => ⟨fuS l v f n ++ [(43, .v (rowV bdT l)), (44, .v (.n .i64 l.length)), (45, .v (.n .i64 e.1)), (46, .v (.b e.2))], [(13, encC (fuseF (l.map nrm) f))]⟩) (fun _ => True) ?_ ?_
  · by_cases act : f < 0 ∨ n ≤ f
    · have e : fuseF (l.map nrm) f = none := if_pos (by rw [hn]; exact act)
      rw [e]
      refine loop_ind (fun (i : Int) => ⟨fuS l v f n ++ [(43, .v (rowV bdT l)), (44, .v (.n .i64 l.length)), (45, .v (.n .i64 i))], [(13, encC none)]⟩) (fun i => l.length - i.toNat) (fun i => 0 ≤ i ∧ i ≤ l.length) 0 (by simp) ?_
      intro iz ⟨h1, h2⟩ ih
      obtain ⟨i, rfl⟩ : ∃ i : Nat, iz = i := ⟨iz.toNat, by omega⟩
      refine DecK.dec (fun h => ?_) (fun h => ?_)
      · obtain ⟨x, hx, ex, mx, _⟩ := at_ex' (l := l) (k := i) (by omega)
        have wi : IntKind.i64.wrap ((i : Int) + 1) = ((i + 1 : Nat) : Int) := by simp (discharger := omega) only [w64, wu64, wu8, w32, wu32, tdivC, tmodC]; omega
        refine OptK.mk _ (ria i rfl (by omega)) ?_
        refine OptK.mk _ (rld bdz hx) ?_
        refine OptK.mk _ rfl ?_
        refine CallK.mk _ (sidesFix x.1 x.2.1 x.2.2.1) rfl ?_
        refine OptK.mk _ rfl ?_
        refine OptK.mk _ rfl ?_
        rw [show normB x.1 x.2.1 x.2.2.1 = nrm x from rfl]
        generalize nrm x = y at *
        have go : loopW Try.prog [0, 1, 2, 7, 13, 43, 44, 45] L8_1 _ ⟨fuS l v f n ++ [(43, .v (rowV bdT l)), (44, .v (.n .i64 l.length)), (45, .v (.n .i64 ((i + 1 : Nat) : Int)))], [(13, encC none)]⟩ := ih _ ⟨by omega, by omega⟩ (by simp only [Int.toNat_natCast]; omega)
        rcases y with _ | p
        · refine DecK.yes rfl ?_
          repeat' first | (refine DecK.tt ?_) | (refine DecK.yes rfl ?_)
          exact loop_eq (by rw [wi] <;> rfl) go
        · refine DecK.no rfl ?_
          refine DecK.dec (fun g => ?_) (fun g => ?_)
          · repeat' first | (refine DecK.tt ?_) | (refine DecK.yes rfl ?_)
            exact loop_eq (by rw [wi] <;> rfl) go
          · refine DecK.yes (decide_eq_true (by omega)) ?_
            exact loop_eq (by rw [wi] <;> rfl) go
      · exact .mk ((i : Int), _) [] rfl rfl trivial
    · have e : fuseF (l.map nrm) f = wrapB (keptF (l.map nrm) (n - f)) := by rw [← hn]; exact if_neg (by rw [hn]; exact act)
      have hw : IntKind.i64.wrap (n - f) = n - f := w64 (by omega)
      rw [e]
      obtain ⟨need, hneed⟩ : ∃ need, need = n - f := ⟨_, rfl⟩
      have hw : IntKind.i64.wrap (n - f) = need := by rw [hw, hneed]
      rw [← hneed]
      refine loop_ind2 (fun (w : Bd) (i : Int) => ⟨fuS l v f n ++ [(43, .v (rowV bdT l)), (44, .v (.n .i64 l.length)), (45, .v (.n .i64 i))], [(13, encC w)]⟩) (fun w i => l.length - i.toNat)
        (fun w i => 0 ≤ i ∧ i ≤ l.length ∧ ((endsF ((l.drop i.toNat).map nrm)).filter fun x => decide (need ≤ votesF (l.map nrm) x)).foldl stepW w = wrapB (keptF (l.map nrm) need)) none 0 ⟨by decide, by omega, rfl⟩ ?_
      intro w iz ⟨h1, h2, h5⟩ ih
      obtain ⟨i, rfl⟩ : ∃ i : Nat, iz = i := ⟨iz.toNat, by omega⟩
      simp only [Int.toNat_natCast] at h5
      refine DecK.dec (fun h => ?_) (fun h => ?_)
      · obtain ⟨x, hx, ex, mx, _⟩ := at_ex' (l := l) (k := i) (by omega)
        have wi : IntKind.i64.wrap ((i : Int) + 1) = ((i + 1 : Nat) : Int) := by simp (discharger := omega) only [w64, wu64, wu8, w32, wu32, tdivC, tmodC]; omega
        have ec : endsF ((x :: l.drop (i + 1)).map nrm) = endsB (nrm x) ++ endsF ((l.drop (i + 1)).map nrm) := by simp [endsF]
        rw [ex, ec, List.filter_append, List.foldl_append] at h5
        refine OptK.mk _ (ria i rfl (by omega)) ?_
        refine OptK.mk _ (rld bdz hx) ?_
        refine OptK.mk _ rfl ?_
        refine CallK.mk _ (sidesFix x.1 x.2.1 x.2.2.1) rfl ?_
        refine OptK.mk _ rfl ?_
        refine OptK.mk _ rfl ?_
        have hc := bd_cases x.1 x.2.1 x.2.2.1
        rw [show normB x.1 x.2.1 x.2.2.1 = nrm x from rfl] at hc ⊢
        rcases hc with ⟨g1, _⟩ | ⟨g1, _, hbv, _⟩
        · rw [g1] at h5 ⊢
          refine DecK.yes rfl ?_
          repeat' first | (refine DecK.tt ?_) | (refine DecK.yes rfl ?_)
          exact loop_eq (by rw [wi] <;> rfl) (ih w ((i + 1 : Nat) : Int) ⟨by omega, by omega, by simpa [endsB] using h5⟩ (by simp only [Int.toNat_natCast]; omega))
        · rw [g1] at h5 ⊢
          refine DecK.no rfl ?_
          refine DecK.no (decide_eq_false (by omega)) ?_
          refine DecK.no (decide_eq_false (by omega)) ?_
          refine fuse_in l v f n need hl hw i x.1 x.2.1 hbv.f1.1 hbv.f1.2 w (fun w' k c hw' => ?_)
          refine inBlk ?_
          exact loop_eq (by rw [wi] <;> rfl) (ih w' ((i + 1 : Nat) : Int) ⟨by omega, by omega, by rw [hw']; simpa [endsB] using h5⟩ (by simp only [Int.toNat_natCast]; omega))
      · refine .mk ((i : Int), decide ((i : Int) < l.length)) [] rfl ?_ trivial
        rw [List.drop_eq_nil_of_le (by omega)] at h5
        simp only [List.map_nil, endsF, List.flatMap_nil, List.filter_nil, List.foldl_nil] at h5
        rw [h5]
        rfl
  · intro ⟨i1, b1⟩ tail _
    refine inBlk ?_
    refine CallK.mk _ (votesFix l v hl) rfl ?_
    refine CallK.mk _ (spreadFix l v hl hv) rfl ?_
    refine DecK.yes (by simp) ?_
    refine CallK.mk _ (fuseFix l f hl hf) rfl ?_
    refine OptK.mk _ (eqBf _) ?_
    ((repeat' first | refine DecK.tt ?_ | refine DecK.ff ?_ | refine DecK.beq (fun _ => ?_) (fun _ => ?_) | refine DecK.bne (fun _ => ?_) (fun _ => ?_) | refine DecK.dec (fun _ => ?_) (fun _ => ?_) | refine OptK.mk _ rfl ?_ | refine endV (by rfl) ?_) <;> (try with_reducible rfl))
end Go.Proofs.Ytdceakejbnolpaa.Sv
