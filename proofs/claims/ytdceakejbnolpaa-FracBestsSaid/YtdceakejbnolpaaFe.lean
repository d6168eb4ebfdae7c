/- Fractions: the reference's search for the nearest. No condition. -/
import Derived.Test.YtdceakejbnolpaaFb
import Derived.Test.YtdceakejbnolpaaFd
import Derived.Test.YtdceakejbnolpaaBe
namespace Go.Proofs.Ytdceakejbnolpaa.Sv
open Go Go.RowKit
set_option linter.unusedVariables false
set_option linter.unusedSimpArgs false
set_option maxRecDepth 100000
/-- live: [1, 2, 4, 5, 6, 7, 8, 9, 32, 33, 34] -/
def L44_0 : SC := .seq (.reg [⟨some 35, none, .po (.bin .lss), [.tm 34, .tm 33]⟩] [1, 2, 4, 5, 6, 7, 8, 9, 32, 33, 34, 35]) (.seq (.cond (.tm 35) .skip (.exit 2)) (.seq (.block 3 (.seq (.reg [⟨some 36, none, .ia none 2, [.tm 32, .tm 34]⟩, ⟨some 37, none, .ld true 2 true, [.tm 36]⟩, ⟨some 11, none, .alloc [.b false, .sl 0 [] true], []⟩, ⟨none, none, .st 2, [.tm 11, .tm 37]⟩] [1, 2, 4, 5, 6, 7, 8, 9, 11, 32, 33, 34]) (.seq (.dreg [⟨some 38, none, .ld true 2 false, [.tm 11]⟩, ⟨some 39, none, .fa 1, [.tm 2]⟩, ⟨some 40, none, .ld false 1 false, [.tm 39]⟩, ⟨some 41, none, .call 15, [.tm 40]⟩, ⟨some 42, none, .call 16, [.tm 38, .tm 41]⟩, ⟨some 43, none, .fa 0, [.tm 2]⟩, ⟨some 44, none, .ld false 1 false, [.tm 43]⟩, ⟨some 45, none, .call 15, [.tm 44]⟩, ⟨some 46, none, .mv, [.tm 8]⟩, ⟨some 47, none, .call 15, [.tm 46]⟩, ⟨some 48, none, .call 16, [.tm 45, .tm 47]⟩, ⟨some 49, none, .call 18, [.tm 42, .tm 48]⟩, ⟨some 50, none, .call 20, [.tm 49]⟩, ⟨some 12, none, .alloc [.b false, .sl 0 [] true], []⟩, ⟨none, none, .st 2, [.tm 12, .tm 50]⟩] [] [1, 2, 4, 5, 6, 7, 8, 9, 11, 12, 32, 33, 34]) (.seq (.dreg [⟨some 51, none, .mv, [.tm 8]⟩, ⟨some 52, none, .po (.bin .eql), [.tm 51, .cn (.n .i64 1)]⟩, ⟨some 53, none, .mv, [.tm 52]⟩, ⟨some 54, some (53, true), .ld true 2 false, [.tm 11]⟩, ⟨some 55, some (53, true), .ld true 2 false, [.tm 9]⟩, ⟨some 56, some (53, true), .call 21, [.tm 54, .tm 55]⟩, ⟨some 57, some (53, true), .po (.bin .eql), [.tm 56, .cn (.n .i64 0)]⟩, ⟨some 58, none, .pick, [.tm 53, .tm 57, .cn (.b false)]⟩, ⟨some 59, none, .mv, [.tm 58]⟩, ⟨some 60, some (59, false), .ld true 2 false, [.tm 12]⟩, ⟨some 61, some (59, false), .ld true 2 false, [.tm 7]⟩, ⟨some 62, some (59, false), .call 16, [.tm 60, .tm 61]⟩, ⟨some 63, some (59, false), .ld true 2 false, [.tm 6]⟩, ⟨some 64, some (59, false), .mv, [.tm 8]⟩, ⟨some 65, some (59, false), .call 15, [.tm 64]⟩, ⟨some 66, some (59, false), .call 16, [.tm 63, .tm 65]⟩, ⟨some 67, some (59, false), .call 21, [.tm 62, .tm 66]⟩, ⟨some 68, some (59, false), .po (.bin .lss), [.tm 67, .cn (.n .i64 0)]⟩, ⟨some 69, none, .pick, [.tm 59, .cn (.b true), .tm 68]⟩] [] [1, 2, 4, 5, 6, 7, 8, 9, 11, 12, 32, 33, 34, 69]) (.cond (.tm 69) (.seq (.dreg [⟨some 70, none, .ld true 2 false, [.tm 12]⟩, ⟨some 71, none, .mv, [.tm 8]⟩, ⟨some 72, none, .call 15, [.tm 71]⟩, ⟨none, none, .st 2, [.tm 6, .tm 70]⟩, ⟨none, none, .st 2, [.tm 7, .tm 72]⟩] [] [1, 2, 4, 5, 6, 7, 8, 9, 11, 32, 33, 34]) (.dreg [⟨some 74, none, .ld true 2 false, [.tm 11]⟩, ⟨some 75, none, .mv, [.tm 8]⟩, ⟨some 76, none, .call 15, [.tm 75]⟩, ⟨some 77, none, .call 100, [.tm 74, .tm 76]⟩, ⟨some 73, none, .mv, [.tm 77]⟩, ⟨some 78, none, .po (.ext 0), [.tm 73]⟩, ⟨some 79, none, .po (.ext 1), [.tm 73]⟩, ⟨none, none, .st 2, [.tm 5, .tm 78]⟩] [(6, 7)] [1, 2, 4, 5, 6, 7, 8, 9, 32, 33, 34])) .skip))))) (.reg [⟨some 80, none, .po (.bin .add), [.tm 34, .cn (.n .i64 1)]⟩, ⟨some 34, none, .mv, [.tm 80]⟩] [1, 2, 4, 5, 6, 7, 8, 9, 32, 33, 34])))
/-- live: [1, 2, 4, 5, 6, 7, 8] -/
def L44_1 : SC := .seq (.seq (.reg [⟨some 13, none, .mv, [.tm 8]⟩, ⟨some 14, none, .mv, [.tm 1]⟩, ⟨some 15, none, .po (.bin .leq), [.tm 13, .tm 14]⟩] [1, 2, 4, 5, 6, 7, 8, 15]) (.cond (.tm 15) .skip (.exit 0))) (.seq (.block 1 (.seq (.dreg [⟨some 18, none, .fa 0, [.tm 2]⟩, ⟨some 19, none, .ld false 1 false, [.tm 18]⟩, ⟨some 20, none, .call 15, [.tm 19]⟩, ⟨some 21, none, .mv, [.tm 8]⟩, ⟨some 22, none, .call 15, [.tm 21]⟩, ⟨some 23, none, .call 16, [.tm 20, .tm 22]⟩, ⟨some 24, none, .fa 1, [.tm 2]⟩, ⟨some 25, none, .ld false 1 false, [.tm 24]⟩, ⟨some 26, none, .call 15, [.tm 25]⟩, ⟨some 27, none, .call 66, [.tm 23, .tm 26]⟩, ⟨some 9, none, .alloc [.b false, .sl 0 [] true], []⟩, ⟨none, none, .st 2, [.tm 9, .tm 27]⟩] [] [1, 2, 4, 5, 6, 7, 8, 9]) (.seq (.dreg [⟨some 28, none, .ld true 2 false, [.tm 9]⟩, ⟨some 29, none, .ld true 2 false, [.tm 9]⟩, ⟨some 30, none, .call 15, [.cn (.n .i64 1)]⟩, ⟨some 31, none, .call 22, [.tm 29, .tm 30]⟩, ⟨some 32, none, .po (.bsl 2 [.b false, .sl 0 [] true] [(0, 2), (2, 2)]), [.tm 28, .tm 31]⟩, ⟨some 33, none, .len false, [.tm 32]⟩, ⟨some 34, none, .mv, [.cn (.n .i64 0)]⟩] [] [1, 2, 4, 5, 6, 7, 8, 9, 32, 33, 34]) (.block 2 (.loop [1, 2, 4, 5, 6, 7, 8, 9, 32, 33, 34] L44_0))))) (.reg [⟨some 16, none, .mv, [.tm 8]⟩, ⟨some 17, none, .po (.bin .add), [.tm 16, .cn (.n .i64 1)]⟩, ⟨some 8, none, .mv, [.tm 17]⟩] [1, 2, 4, 5, 6, 7, 8]))
/-- spyglass/spyref1.Nearest -/
def F44 : Fn1 := ⟨82, .seq (.reg [⟨some 2, none, .box, [.tm 0]⟩, ⟨some 4, none, .alloc [.n .i64 0, .n .i64 0], []⟩] [1, 2, 4]) (.seq (.reg [⟨some 5, none, .alloc [.n .i64 0, .n .i64 0], []⟩] [1, 2, 4, 5]) (.seq (.reg [⟨some 6, none, .alloc [.b false, .sl 0 [] true], []⟩, ⟨some 7, none, .alloc [.b false, .sl 0 [] true], []⟩] [1, 2, 4, 5, 6, 7]) (.seq (.seq (.reg [⟨some 8, none, .mv, [.cn (.n .i64 1)]⟩] [1, 2, 4, 5, 6, 7, 8]) (.block 0 (.loop [1, 2, 4, 5, 6, 7, 8] L44_1))) (.seq (.reg [⟨some 81, none, .ld true 2 false, [.tm 5]⟩, ⟨none, none, .st 2, [.tm 4, .tm 81]⟩] [4]) .ret)))), [.cell 4 true 2]⟩
theorem of44 : Fn1.of Try.prog 44 ⟨false, [], false⟩ [[1, 2, 4], [1, 2, 4, 5], [1, 2, 4, 5, 6, 7], [1, 2, 4, 5, 6, 7, 8], [1, 2, 4, 5, 6, 7, 8], [1, 2, 4, 5, 6, 7, 8, 15], [1, 2, 4, 5, 6, 7, 8, 9], [1, 2, 4, 5, 6, 7, 8, 9, 32, 33, 34], [1, 2, 4, 5, 6, 7, 8, 9, 32, 33, 34], [1, 2, 4, 5, 6, 7, 8, 9, 32, 33, 34, 35], [1, 2, 4, 5, 6, 7, 8, 9, 11, 32, 33, 34], [1, 2, 4, 5, 6, 7, 8, 9, 11, 12, 32, 33, 34], [1, 2, 4, 5, 6, 7, 8, 9, 11, 12, 32, 33, 34, 69], [1, 2, 4, 5, 6, 7, 8, 9, 11, 32, 33, 34], [1, 2, 4, 5, 6, 7, 8, 9, 32, 33, 34], [1, 2, 4, 5, 6, 7, 8, 9, 32, 33, 34], [1, 2, 4, 5, 6, 7, 8], [4]] = some F44 := by kernel_rfl
theorem zbB {x : Int} (h : -1000000000000000000000000000000000000000000000000 ≤ x ∧ x ≤ 1000000000000000000000000000000000000000000000000) : zb 11 x := by
  unfold zb
  have e : (1000000 : Int) ^ 11 = 1000000000000000000000000000000000000000000000000000000000000000000 := by decide
  rw [e]
  omega
theorem icmp_lt0 {a b : Int} : icmp a b < 0 ↔ a < b := by unfold icmp; split <;> (try split) <;> omega
theorem seenI_iff {N D a b : Int} {s s' : Prop} (h : s ↔ s') {best : Int × Int} {aw un : Int} (hI : SeenI N D a b s best aw un) : SeenI N D a b s' best aw un := by rwa [← propext h]
theorem lowT_ex {n q a b : Int} (hg : (Int.gcd a b : Int) = 1) (ha : -1152921504606846976 ≤ a ∧ a ≤ 1152921504606846976) (hb : b ≤ 1152921504606846976) : ∃ x y e, lowT n q = .tup [fracV x y, .n .i64 e] ∧ (q = b → n = a → (x, y) = (a, b)) := by
  by_cases h : q = b ∧ n = a
  · obtain ⟨rfl, rfl⟩ := h
    refine ⟨n, q, 0, ?_, fun _ _ => rfl⟩
    unfold lowT
    rw [hg, Int.ediv_one, Int.ediv_one, if_neg (by omega)]
  · unfold lowT
    split
    · exact ⟨0, 0, 2, rfl, fun h1 h2 => absurd ⟨h1, h2⟩ h⟩
    · exact ⟨_, _, 0, rfl, fun h1 h2 => absurd ⟨h1, h2⟩ h⟩
set_option maxHeartbeats 2000000 in
theorem nearest_ok (N D most a b : Int) (hE : frErr N D = 0) (hm : 1 ≤ most ∧ most ≤ 4096) (h : Good N D most a b) : Pure Try.prog 44 [fracV N D, .n .i64 most] (fracV a b) := by
  have hout : ¬ frOut N D := fun h => by rw [frErr, if_pos h] at hE; omega
  unfold frOut at hout
  obtain ⟨hT, ha, hg, ho⟩ := h
  have hb : 1 ≤ b ∧ b ≤ most := ⟨hT.1, hT.2.1⟩
  refine pure_of_wp of44 (Nat.le_of_ble_eq_true rfl) ?_
  refine loop_eq (st' := ⟨[(1, .v (.n .i64 most)), (2, .ref 2 0), (4, .ref 4 0), (5, .ref 5 0), (6, .ref 6 0), (7, .ref 7 0), (8, .v (.n .i64 1))], [(7, zCt 0 true), (6, zCt 0 true), (5, frC 0 0), (4, frC 0 0), (2, frC N D)]⟩) (by rw [zCt_zero]; rfl) ?_
  refine loop_ind4 (fun (c : Int × Int) (aw un : Int) (k : Int × Bool) => ⟨[(1, .v (.n .i64 most)), (2, .ref 2 0), (4, .ref 4 0), (5, .ref 5 0), (6, .ref 6 0), (7, .ref 7 0), (8, .v (.n .i64 k.1))], [(7, zCt un k.2), (6, zCt aw k.2), (5, frC c.1 c.2), (4, frC 0 0), (2, frC N D)]⟩)
    (fun c aw un k => (most + 1 - k.1).toNat)
    (fun c aw un k => 1 ≤ k.1 ∧ k.1 ≤ most + 1 ∧ SeenI N D a b (b < k.1) c aw un ∧ (un = 0 → k.1 = 1) ∧ 0 ≤ un ∧ un ≤ 4096 ∧ 0 ≤ aw ∧ aw ≤ 1152921504606846976) (0, 0) 0 0 (1, true) ⟨by decide, by dsimp only; omega, ⟨fun g => by dsimp only at g; omega, fun _ => .inl rfl⟩, fun _ => rfl, by decide, by decide, by decide, by decide⟩ ?_
  rintro ⟨x, y⟩ aw un ⟨q, tt⟩ ⟨h1, h2, h3, h4, h5, h6, h7, h8⟩ ih
  simp only at h1 h2 h3 h4 ih
  refine DecK.dec (fun hq => ?_) (fun hq => ?_)
  · have hNq : -4722366482869645213696 ≤ N * q ∧ N * q ≤ 4722366482869645213696 := by
      have m1 := Int.mul_le_mul_of_nonneg_right (show -1152921504606846976 ≤ N by omega) (show 0 ≤ q by omega)
      have m2 := Int.mul_le_mul_of_nonneg_right (show N ≤ 1152921504606846976 by omega) (show 0 ≤ q by omega)
      omega
    refine CallK.mk _ (I_ok N (by omega)) rfl ?_
    refine CallK.mk _ (I_ok q (by omega)) rfl ?_
    refine CallK.mk _ (Times_ok N q ((zbB (by omega)).mono (by decide)) ((zbB (by omega)).mono (by decide))) rfl ?_
    refine CallK.mk _ (I_ok D (by omega)) rfl ?_
    refine CallK.mk _ (Floor_ok (N * q) D ((zbB (by omega)).mono (by decide)) ((zbB (by omega)).mono (by decide)) (by omega)) rfl ?_
    have d1 := Int.ediv_mul_le (N * q) (show D ≠ 0 by omega)
    have d2 := Int.lt_ediv_add_one_mul_self (N * q) (show 0 < D by omega)
    rw [Int.add_mul] at d2
    have hz := zb_div (k := 11) (zbB (x := N * q) (by omega)) (show 1 ≤ D by omega)
    have hpl : b = q → N * q / D ≤ a ∧ a ≤ N * q / D + 1 := fun e => by
      subst e
      unfold offF at ho
      constructor
      · refine Decidable.byContradiction fun g => ?_
        have := Int.mul_le_mul_of_nonneg_right (show a + 1 ≤ N * b / D by omega) (show 0 ≤ D by omega)
        rw [Int.add_mul] at this
        omega
      · refine Decidable.byContradiction fun g => ?_
        have := Int.mul_le_mul_of_nonneg_right (show N * b / D + 2 ≤ a by omega) (show 0 ≤ D by omega)
        rw [Int.add_mul] at this
        omega
    have hpb : -4722366482869645213696 ≤ N * q / D ∧ N * q / D ≤ 4722366482869645213696 := by
      constructor
      · refine Decidable.byContradiction fun g => ?_
        have := Int.mul_le_mul_of_nonneg_left (show 1 ≤ D by omega) (show 0 ≤ -(N * q / D) by omega)
        rw [Int.neg_mul, Int.neg_mul] at this
        have := Int.mul_le_mul_of_nonneg_right (show N * q / D + 1 ≤ -4722366482869645213696 by omega) (show 0 ≤ D by omega)
        rw [Int.add_mul] at this
        omega
      · refine Decidable.byContradiction fun g => ?_
        have := Int.mul_le_mul_of_nonneg_left (show 1 ≤ D by omega) (show 0 ≤ N * q / D by omega)
        omega
    generalize N * q / D = p at *
    refine OptK.mk _ rfl ?_
    refine CallK.mk _ (I_ok 1 (by decide)) rfl ?_
    refine CallK.mk _ (Plus_ok p 1 ((zbB (by omega)).mono (by decide)) (by first | exact (zb_64 (by omega)).mono (by decide) | exact ((zb_64 (by omega)).mul (zb_64 (by omega))).mono (by decide))) rfl ?_
    refine loop_eq (st' := ⟨[(1, .v (.n .i64 most)), (2, .ref 2 0), (4, .ref 4 0), (5, .ref 5 0), (6, .ref 6 0), (7, .ref 7 0), (8, .v (.n .i64 q)), (9, .ref 9 0), (32, .v (.sl 2 ([p, p + 1].flatMap zC) true)), (33, .v (.n .i64 2)), (34, .v (.n .i64 0))], [(9, zC p), (7, zCt un tt), (6, zCt aw tt), (5, frC x y), (4, frC 0 0), (2, frC N D)]⟩) rfl ?_
    refine loop_ind4 (fun (c : Int × Int) (aw un : Int) (k : Int × Bool) => ⟨[(1, .v (.n .i64 most)), (2, .ref 2 0), (4, .ref 4 0), (5, .ref 5 0), (6, .ref 6 0), (7, .ref 7 0), (8, .v (.n .i64 q)), (9, .ref 9 0), (32, .v (.sl 2 ([p, p + 1].flatMap zC) true)), (33, .v (.n .i64 2)), (34, .v (.n .i64 k.1))], [(9, zC p), (7, zCt un k.2), (6, zCt aw k.2), (5, frC c.1 c.2), (4, frC 0 0), (2, frC N D)]⟩)
      (fun c aw un k => (2 - k.1).toNat)
      (fun c aw un k => 0 ≤ k.1 ∧ k.1 ≤ 2 ∧ SeenI N D a b (b < q ∨ (b = q ∧ a < p + k.1)) c aw un ∧ (un = 0 → q = 1 ∧ k.1 = 0) ∧ 0 ≤ un ∧ un ≤ 4096 ∧ 0 ≤ aw ∧ aw ≤ 1152921504606846976) (x, y) aw un (0, tt) ⟨Int.le_refl 0, by dsimp only; omega, seenI_iff (by dsimp only; omega) h3, fun g => ⟨h4 g, rfl⟩, h5, h6, h7, h8⟩ ?_
    clear h3 h4 h5 h6 h7 h8
    rintro ⟨x, y⟩ aw un ⟨j, tt⟩ ⟨g1, g2, h3, h4, h5, h6, h7, h8⟩ ih2
    simp only at g1 g2 h3 h4 ih2
    refine DecK.dec (fun hj => ?_) (fun hj => ?_)
    · obtain ⟨m, rfl⟩ : ∃ m : Nat, j = m := ⟨j.toNat, by dsimp only at hj; omega⟩
      have hm2 : m < 2 := by dsimp only at hj; omega
      have hx : [p, p + 1][m]? = some (p + (m : Int)) := by
        rcases (show m = 0 ∨ m = 1 by omega) with rfl | rfl <;> simp
      refine OptK.mk _ (ria m rfl hm2) ?_
      refine OptK.mk _ (rld zz2 hx) ?_
      refine OptK.mk _ rfl ?_
      obtain ⟨n, en⟩ : ∃ n, n = p + (m : Int) := ⟨_, rfl⟩
      rw [← en]
      have hnD : p * D ≤ n * D ∧ n * D ≤ p * D + D := by
        rcases (show m = 0 ∨ m = 1 by omega) with rfl | rfl
        · rw [en]; simp; omega
        · rw [en, Int.add_mul]; simp; omega
      have bD : -6000000000000000000000 * 1152921504606846976 ≤ n * D ∧ n * D ≤ 6000000000000000000000 * 1152921504606846976 := by omega
      have hof : 0 ≤ offF N D n q ∧ offF N D n q ≤ D := by unfold offF; omega
      refine CallK.mk _ (I_ok D (by omega)) rfl ?_
      refine CallK.mk _ (Times_ok n D ((zbB (by omega)).mono (by decide)) ((zbB (by omega)).mono (by decide))) rfl ?_
      refine CallK.mk _ (I_ok N (by omega)) rfl ?_
      refine CallK.mk _ (I_ok q (by omega)) rfl ?_
      refine CallK.mk _ (Times_ok N q ((zbB (by omega)).mono (by decide)) ((zbB (by omega)).mono (by decide))) rfl ?_
      refine CallK.mk _ (Less_ok (n * D) (N * q) ((zbB (by omega)).mono (by decide)) ((zbB (by omega)).mono (by decide))) rfl ?_
      refine CallK.mk _ (Abs_ok (n * D - N * q)) rfl ?_
      rw [show ((n * D - N * q).natAbs : Int) = offF N D n q from rfl]
      refine OptK.mk _ rfl ?_
      have wj : IntKind.i64.wrap ((m : Int) + 1) = (m : Int) + 1 := w64 (by omega)
      obtain ⟨x', y', e', hl, hl'⟩ := lowT_ex (n := n) (q := q) hg ha (show b ≤ 1152921504606846976 by omega)
      obtain ⟨st1, st2⟩ := seen_step (best' := (x', y')) hT (n := n) (p := p) ⟨h1, hq⟩ (fun e => (hpl e).1) (seenI_iff (by rw [en]) h3) (fun e => ⟨(h4 e).1, by have := (h4 e).2; omega⟩) (by omega) hl'
      have tl := lowest_ok n q (zbB (by omega)) (zbB (by omega)) (by omega)
      rw [if_neg (by omega), hl] at tl
      have mD := Int.mul_le_mul hof.2 (show un ≤ 4096 by omega) h5 (by omega)
      have mD0 := Int.mul_nonneg hof.1 h5
      have mA := Int.mul_le_mul h8 (show q ≤ 4096 by omega) (by omega) (by decide)
      have mA0 := Int.mul_nonneg h7 (show 0 ≤ q by omega)
      have done1 : (q = 1 ∧ n = p ∨ offF N D n q * un < aw * q) → _ := fun hU => ih2 (x', y') (offF N D n q) q ((m : Int) + 1, false) ⟨by dsimp only; omega, by dsimp only; omega, seenI_iff (by rw [en]; dsimp only; omega) (st1 hU), fun g => by omega, by omega, by omega, hof.1, by omega⟩ (by dsimp only; omega)
      have done2 : ¬(q = 1 ∧ n = p ∨ offF N D n q * un < aw * q) → _ := fun hU => ih2 (x, y) aw un ((m : Int) + 1, tt) ⟨by dsimp only; omega, by dsimp only; omega, seenI_iff (by rw [en]; dsimp only; omega) (st2 hU), fun g => absurd (.inl ⟨(h4 g).1, by have := (h4 g).2; omega⟩) hU, h5, h6, h7, h8⟩ (by dsimp only; omega)
      by_cases c1 : q = 1 ∧ n = p
      · have hU : q = 1 ∧ n = p ∨ offF N D n q * un < aw * q := .inl c1
        refine DecK.yes (beq_iff_eq.2 c1.1) ?_
        refine CallK.mk _ (Cmp_ok n p ((zbB (by omega)).mono (by decide)) ((zbB (by omega)).mono (by decide))) rfl ?_
        refine DecK.yes (beq_iff_eq.2 (icmp_eq c1.2)) ?_
        repeat' (refine DecK.tt ?_)
        refine CallK.mk _ (I_ok q (by omega)) rfl ?_
        refine OptK.mk _ rfl ?_
        refine OptK.mk _ rfl ?_
        refine CallK.mk _ (I_ok q (by omega)) rfl ?_
        refine CallK.mk _ tl rfl ?_
        refine OptK.mk _ rfl ?_
        refine loop_eq (by rw [wj] <;> rfl) (done1 hU)
      · by_cases c2 : q = 1
        · refine DecK.yes (beq_iff_eq.2 c2) ?_
          refine CallK.mk _ (Cmp_ok n p ((zbB (by omega)).mono (by decide)) ((zbB (by omega)).mono (by decide))) rfl ?_
          refine DecK.no (beq_eq_false_iff_ne.2 fun k => c1 ⟨c2, by revert k; unfold icmp; split <;> (try split) <;> omega⟩) ?_
          refine CallK.mk _ (.of (.cons (.refl _) (.cons zT .nil)) (Times_ok (offF N D n q) un ((zbB (by omega)).mono (by decide)) ((zbB (by omega)).mono (by decide)))) rfl ?_
          refine CallK.mk _ (I_ok q (by omega)) rfl ?_
          refine CallK.mk _ (.of (.cons zT (.cons (.refl _) .nil)) (Times_ok aw q ((zbB (by omega)).mono (by decide)) ((zbB (by omega)).mono (by decide)))) rfl ?_
          refine CallK.mk _ (Cmp_ok (offF N D n q * un) (aw * q) ((zbB (by omega)).mono (by decide)) ((zbB (by omega)).mono (by decide))) rfl ?_
          refine DecK.dec (fun c => ?_) (fun c => ?_)
          · have hU : q = 1 ∧ n = p ∨ offF N D n q * un < aw * q := .inr (icmp_lt0.1 c)
            refine CallK.mk _ (I_ok q (by omega)) rfl ?_
            refine OptK.mk _ rfl ?_
            refine OptK.mk _ rfl ?_
            refine CallK.mk _ (I_ok q (by omega)) rfl ?_
            refine CallK.mk _ tl rfl ?_
            refine OptK.mk _ rfl ?_
            refine loop_eq (by rw [wj] <;> rfl) (done1 hU)
          · have hU : ¬(q = 1 ∧ n = p ∨ offF N D n q * un < aw * q) := fun k => k.elim c1 fun k => c (icmp_lt0.2 k)
            refine loop_eq (by rw [wj] <;> rfl) (done2 hU)
        · refine DecK.no (beq_eq_false_iff_ne.2 c2) ?_
          repeat' (refine DecK.ff ?_)
          refine CallK.mk _ (.of (.cons (.refl _) (.cons zT .nil)) (Times_ok (offF N D n q) un ((zbB (by omega)).mono (by decide)) ((zbB (by omega)).mono (by decide)))) rfl ?_
          refine CallK.mk _ (I_ok q (by omega)) rfl ?_
          refine CallK.mk _ (.of (.cons zT (.cons (.refl _) .nil)) (Times_ok aw q ((zbB (by omega)).mono (by decide)) ((zbB (by omega)).mono (by decide)))) rfl ?_
          refine CallK.mk _ (Cmp_ok (offF N D n q * un) (aw * q) ((zbB (by omega)).mono (by decide)) ((zbB (by omega)).mono (by decide))) rfl ?_
          refine DecK.dec (fun c => ?_) (fun c => ?_)
          · have hU : q = 1 ∧ n = p ∨ offF N D n q * un < aw * q := .inr (icmp_lt0.1 c)
            refine CallK.mk _ (I_ok q (by omega)) rfl ?_
            refine OptK.mk _ rfl ?_
            refine OptK.mk _ rfl ?_
            refine CallK.mk _ (I_ok q (by omega)) rfl ?_
            refine CallK.mk _ tl rfl ?_
            refine OptK.mk _ rfl ?_
            refine loop_eq (by rw [wj] <;> rfl) (done1 hU)
          · have hU : ¬(q = 1 ∧ n = p ∨ offF N D n q * un < aw * q) := fun k => k.elim c1 fun k => c (icmp_lt0.2 k)
            refine loop_eq (by rw [wj] <;> rfl) (done2 hU)
    · dsimp only at hj
      have hj2 : j = 2 := by omega
      subst hj2
      have wq : IntKind.i64.wrap (q + 1) = q + 1 := w64 (by omega)
      refine loop_eq (by rw [wq] <;> rfl) (ih (x, y) aw un (q + 1, tt) ⟨by dsimp only; omega, by dsimp only at hq ⊢; omega, seenI_iff (by dsimp only; omega) h3, fun g => by have := (h4 g).2; omega, h5, h6, h7, h8⟩ (by dsimp only at hq ⊢; omega))
  · have hs : b < q := by omega
    obtain ⟨e1, e2, e3⟩ := h3.1 hs
    obtain ⟨rfl, rfl⟩ : x = a ∧ y = b := by simpa using e1
    refine OptK.mk _ rfl ?_
    ((repeat' first | refine DecK.tt ?_ | refine DecK.ff ?_ | refine DecK.beq (fun _ => ?_) (fun _ => ?_) | refine DecK.bne (fun _ => ?_) (fun _ => ?_) | refine DecK.dec (fun _ => ?_) (fun _ => ?_) | refine OptK.mk _ rfl ?_ | refine endV (by rfl) ?_) <;> (try with_reducible rfl))
    rfl
end Go.Proofs.Ytdceakejbnolpaa.Sv
