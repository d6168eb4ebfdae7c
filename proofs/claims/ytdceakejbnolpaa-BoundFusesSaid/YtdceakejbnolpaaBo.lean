/- Products of bounds: the statement. No condition. -/
import Derived.Test.YtdceakejbnolpaaBnFix
import Derived.Test.YtdceakejbnolpaaBhFix
namespace Go.Proofs.Ytdceakejbnolpaa.Sv
open Go Go.RowKit
set_option linter.unusedVariables false
set_option linter.unusedSimpArgs false
set_option maxRecDepth 100000
/-- spyglass/spylaw1.bounds -/
def F37 : Fn1 := ⟨17, .seq (.reg [⟨some 0, none, .mv, [.cn (.b false)]⟩] []) (.seq (.reg [⟨some 2, none, .po (.build [.n .i64 0, .n .i64 0, .b false] [(0, 1), (1, 1)]), [.cn (.n .i64 8), .cn (.n .i64 12)]⟩, ⟨some 3, none, .po (.build [.n .i64 0, .n .i64 0, .b false] [(0, 1), (1, 1)]), [.cn (.n .i64 11), .cn (.n .i64 13)]⟩, ⟨some 4, none, .po (.build [.n .i64 0, .n .i64 0, .b false] [(0, 1), (1, 1)]), [.cn (.n .i64 14), .cn (.n .i64 15)]⟩, ⟨some 5, none, .po (.bsl 3 [.n .i64 0, .n .i64 0, .b false] [(0, 3), (3, 3), (6, 3)]), [.tm 2, .tm 3, .tm 4]⟩, ⟨some 1, none, .mv, [.tm 5]⟩] [1]) (.seq (.reg [⟨some 6, none, .po (.build [.n .i64 0, .n .i64 0, .b false] [(0, 1), (1, 1)]), [.cn (.n .i64 (-3)), .cn (.n .i64 2)]⟩, ⟨some 7, none, .po (.build [.n .i64 0, .n .i64 0, .b false] [(0, 1), (1, 1)]), [.cn (.n .i64 5), .cn (.n .i64 7)]⟩, ⟨some 8, none, .call 57, [.tm 6, .tm 7, .cn (.n .i64 2)]⟩, ⟨some 9, none, .po (.build [.n .i64 0, .n .i64 0, .b false] [(0, 1), (1, 1)]), [.cn (.n .i64 (-11)), .cn (.n .i64 7)]⟩, ⟨some 10, none, .po (.veq false [(0, .n), (1, .n), (2, .b)]), [.tm 8, .tm 9]⟩, ⟨some 11, none, .mv, [.tm 10]⟩, ⟨some 12, some (11, true), .mv, [.tm 1]⟩, ⟨some 13, some (11, true), .call 41, [.tm 12, .cn (.n .i64 1)]⟩, ⟨some 14, some (11, true), .po (.build [.n .i64 0, .n .i64 0, .b false] [(0, 1), (1, 1)]), [.cn (.n .i64 11), .cn (.n .i64 12)]⟩, ⟨some 15, some (11, true), .po (.veq false [(0, .n), (1, .n), (2, .b)]), [.tm 13, .tm 14]⟩, ⟨some 16, none, .pick, [.tm 11, .tm 15, .cn (.b false)]⟩, ⟨some 0, none, .mv, [.tm 16]⟩] [0]) .ret)), [.tm 0]⟩
theorem of37 : Fn1.of Try.prog 37 ⟨false, []⟩ [[], [1], [0]] = some F37 := by kernel_rfl
/-- spyglass/spylaw1.BoundProducts -/
def F13 : Fn1 := ⟨149, .seq (.reg [⟨some 5, none, .box, [.tm 0]⟩, ⟨some 6, none, .box, [.tm 1]⟩, ⟨some 10, none, .mv, [.cn (.b false)]⟩] [2, 3, 4, 5, 6]) (.seq (.reg [⟨some 23, none, .ld true 3 false, [.tm 5]⟩, ⟨some 24, none, .call 38, [.tm 23]⟩, ⟨some 22, none, .mv, [.tm 24]⟩, ⟨some 25, none, .po (.ext 0), [.tm 22]⟩, ⟨some 26, none, .po (.ext 1), [.tm 22]⟩, ⟨some 27, none, .po (.ext 2), [.tm 22]⟩, ⟨some 11, none, .alloc [.b false, .sl 0 [] true], []⟩, ⟨some 12, none, .alloc [.b false, .sl 0 [] true], []⟩, ⟨none, none, .st 2, [.tm 11, .tm 25]⟩, ⟨none, none, .st 2, [.tm 12, .tm 26]⟩, ⟨some 13, none, .mv, [.tm 27]⟩] [2, 3, 4, 5, 6, 11, 12, 13]) (.seq (.reg [⟨some 29, none, .ld true 3 false, [.tm 6]⟩, ⟨some 30, none, .call 38, [.tm 29]⟩, ⟨some 28, none, .mv, [.tm 30]⟩, ⟨some 31, none, .po (.ext 0), [.tm 28]⟩, ⟨some 32, none, .po (.ext 1), [.tm 28]⟩, ⟨some 33, none, .po (.ext 2), [.tm 28]⟩, ⟨some 14, none, .alloc [.b false, .sl 0 [] true], []⟩, ⟨some 15, none, .alloc [.b false, .sl 0 [] true], []⟩, ⟨none, none, .st 2, [.tm 14, .tm 31]⟩, ⟨none, none, .st 2, [.tm 15, .tm 32]⟩, ⟨some 16, none, .mv, [.tm 33]⟩] [2, 3, 4, 5, 6, 11, 12, 13, 14, 15, 16]) (.seq (.reg [⟨some 34, none, .po (.build [.n .i64 0, .n .i64 0, .b false] [(2, 1)]), [.cn (.b true)]⟩, ⟨some 17, none, .alloc [.n .i64 0, .n .i64 0, .b false], []⟩, ⟨none, none, .st 3, [.tm 17, .tm 34]⟩] [2, 3, 4, 5, 6, 11, 12, 13, 14, 15, 16, 17]) (.seq (.dreg [⟨some 35, none, .ld true 3 false, [.tm 17]⟩, ⟨some 36, none, .ld true 3 false, [.tm 17]⟩, ⟨some 37, none, .ld true 3 false, [.tm 17]⟩, ⟨some 18, none, .alloc [.n .i64 0, .n .i64 0, .b false], []⟩, ⟨some 19, none, .alloc [.n .i64 0, .n .i64 0, .b false], []⟩, ⟨some 20, none, .alloc [.n .i64 0, .n .i64 0, .b false], []⟩, ⟨none, none, .st 3, [.tm 18, .tm 35]⟩, ⟨none, none, .st 3, [.tm 19, .tm 36]⟩, ⟨none, none, .st 3, [.tm 20, .tm 37]⟩] [(1, 6), (2, 6), (2, 7)] [2, 3, 4, 5, 6, 11, 12, 13, 14, 15, 16, 18, 19, 20]) (.seq (.reg [⟨some 38, none, .mv, [.tm 2]⟩, ⟨some 39, none, .call 15, [.tm 38]⟩, ⟨some 21, none, .alloc [.b false, .sl 0 [] true], []⟩, ⟨none, none, .st 2, [.tm 21, .tm 39]⟩] [2, 3, 4, 5, 6, 11, 12, 13, 14, 15, 16, 18, 19, 20, 21]) (.seq (.seq (.reg [⟨some 40, none, .mv, [.tm 13]⟩, ⟨some 41, none, .mv, [.tm 40]⟩, ⟨some 42, some (41, true), .mv, [.tm 16]⟩, ⟨some 43, none, .pick, [.tm 41, .tm 42, .cn (.b false)]⟩, ⟨some 44, none, .mv, [.tm 43]⟩, ⟨some 45, some (44, true), .mv, [.tm 2]⟩, ⟨some 46, some (44, true), .po (.bin .geq), [.tm 45, .cn (.n .i64 1)]⟩, ⟨some 47, none, .pick, [.tm 44, .tm 46, .cn (.b false)]⟩] [2, 3, 4, 5, 6, 11, 12, 13, 14, 15, 18, 19, 20, 21, 47]) (.cond (.tm 47) (.seq (.dreg [⟨some 48, none, .ld true 2 false, [.tm 11]⟩, ⟨some 49, none, .ld true 2 false, [.tm 14]⟩, ⟨some 50, none, .call 16, [.tm 48, .tm 49]⟩, ⟨some 51, none, .ld true 2 false, [.tm 11]⟩, ⟨some 52, none, .ld true 2 false, [.tm 15]⟩, ⟨some 53, none, .call 16, [.tm 51, .tm 52]⟩, ⟨some 54, none, .ld true 2 false, [.tm 12]⟩, ⟨some 55, none, .ld true 2 false, [.tm 14]⟩, ⟨some 56, none, .call 16, [.tm 54, .tm 55]⟩, ⟨some 57, none, .ld true 2 false, [.tm 12]⟩, ⟨some 58, none, .ld true 2 false, [.tm 15]⟩, ⟨some 59, none, .call 16, [.tm 57, .tm 58]⟩, ⟨some 60, none, .po (.bsl 4 [.b false, .sl 0 [] true] [(0, 2), (2, 2), (4, 2), (6, 2)]), [.tm 50, .tm 53, .tm 56, .tm 59]⟩, ⟨some 61, none, .ld true 2 false, [.tm 21]⟩, ⟨some 62, none, .ld true 2 false, [.tm 21]⟩, ⟨some 63, none, .ld true 2 false, [.tm 21]⟩, ⟨some 64, none, .ld true 2 false, [.tm 21]⟩, ⟨some 65, none, .po (.bsl 4 [.b false, .sl 0 [] true] [(0, 2), (2, 2), (4, 2), (6, 2)]), [.tm 61, .tm 62, .tm 63, .tm 64]⟩, ⟨some 66, none, .call 56, [.tm 60, .tm 65]⟩, ⟨none, none, .st 3, [.tm 18, .tm 66]⟩] [] [2, 3, 4, 5, 6, 11, 12, 13, 14, 15, 18, 19, 20, 21]) (.seq (.dreg [⟨some 67, none, .ld true 2 false, [.tm 14]⟩, ⟨some 68, none, .call 29, [.tm 67]⟩, ⟨some 69, none, .ld true 2 false, [.tm 15]⟩, ⟨some 70, none, .call 29, [.tm 69]⟩, ⟨some 71, none, .po (.bin .eql), [.tm 68, .tm 70]⟩, ⟨some 72, none, .mv, [.tm 71]⟩, ⟨some 73, some (72, true), .ld true 2 false, [.tm 14]⟩, ⟨some 74, some (72, true), .call 29, [.tm 73]⟩, ⟨some 75, some (72, true), .po (.bin .neq), [.tm 74, .cn (.n .i64 0)]⟩, ⟨some 76, none, .pick, [.tm 72, .tm 75, .cn (.b false)]⟩] [] [2, 3, 4, 5, 6, 11, 12, 13, 14, 15, 18, 19, 20, 21, 76]) (.cond (.tm 76) (.dreg [⟨some 77, none, .ld true 2 false, [.tm 11]⟩, ⟨some 78, none, .ld true 2 false, [.tm 21]⟩, ⟨some 79, none, .call 16, [.tm 77, .tm 78]⟩, ⟨some 80, none, .ld true 2 false, [.tm 11]⟩, ⟨some 81, none, .ld true 2 false, [.tm 21]⟩, ⟨some 82, none, .call 16, [.tm 80, .tm 81]⟩, ⟨some 83, none, .ld true 2 false, [.tm 12]⟩, ⟨some 84, none, .ld true 2 false, [.tm 21]⟩, ⟨some 85, none, .call 16, [.tm 83, .tm 84]⟩, ⟨some 86, none, .ld true 2 false, [.tm 12]⟩, ⟨some 87, none, .ld true 2 false, [.tm 21]⟩, ⟨some 88, none, .call 16, [.tm 86, .tm 87]⟩, ⟨some 89, none, .po (.bsl 4 [.b false, .sl 0 [] true] [(0, 2), (2, 2), (4, 2), (6, 2)]), [.tm 79, .tm 82, .tm 85, .tm 88]⟩, ⟨some 90, none, .ld true 2 false, [.tm 14]⟩, ⟨some 91, none, .ld true 2 false, [.tm 15]⟩, ⟨some 92, none, .ld true 2 false, [.tm 14]⟩, ⟨some 93, none, .ld true 2 false, [.tm 15]⟩, ⟨some 94, none, .po (.bsl 4 [.b false, .sl 0 [] true] [(0, 2), (2, 2), (4, 2), (6, 2)]), [.tm 90, .tm 91, .tm 92, .tm 93]⟩, ⟨some 95, none, .call 56, [.tm 89, .tm 94]⟩, ⟨none, none, .st 3, [.tm 19, .tm 95]⟩] [] [2, 3, 4, 5, 6, 11, 12, 13, 18, 19, 20]) .skip))) .skip)) (.seq (.seq (.reg [⟨some 96, none, .mv, [.tm 13]⟩, ⟨some 97, none, .mv, [.tm 96]⟩, ⟨some 98, some (97, true), .mv, [.tm 4]⟩, ⟨some 99, some (97, true), .po (.bin .geq), [.tm 98, .cn (.n .i64 1)]⟩, ⟨some 100, none, .pick, [.tm 97, .tm 99, .cn (.b false)]⟩, ⟨some 101, none, .mv, [.tm 100]⟩, ⟨some 102, some (101, true), .mv, [.tm 3]⟩, ⟨some 103, some (101, true), .po (.bin .geq), [.tm 102, .cn (.n .i64 (-1152921504606846976))]⟩, ⟨some 104, none, .pick, [.tm 101, .tm 103, .cn (.b false)]⟩, ⟨some 105, none, .mv, [.tm 104]⟩, ⟨some 106, some (105, true), .mv, [.tm 3]⟩, ⟨some 107, some (105, true), .po (.bin .leq), [.tm 106, .cn (.n .i64 1152921504606846976)]⟩, ⟨some 108, none, .pick, [.tm 105, .tm 107, .cn (.b false)]⟩] [2, 3, 4, 5, 6, 11, 12, 18, 19, 20, 108]) (.cond (.tm 108) (.dreg [⟨some 109, none, .ld true 2 false, [.tm 11]⟩, ⟨some 110, none, .mv, [.tm 3]⟩, ⟨some 111, none, .call 15, [.tm 110]⟩, ⟨some 112, none, .call 16, [.tm 109, .tm 111]⟩, ⟨some 113, none, .ld true 2 false, [.tm 12]⟩, ⟨some 114, none, .mv, [.tm 3]⟩, ⟨some 115, none, .call 15, [.tm 114]⟩, ⟨some 116, none, .call 16, [.tm 113, .tm 115]⟩, ⟨some 117, none, .po (.bsl 2 [.b false, .sl 0 [] true] [(0, 2), (2, 2)]), [.tm 112, .tm 116]⟩, ⟨some 118, none, .mv, [.tm 4]⟩, ⟨some 119, none, .call 15, [.tm 118]⟩, ⟨some 120, none, .mv, [.tm 4]⟩, ⟨some 121, none, .call 15, [.tm 120]⟩, ⟨some 122, none, .po (.bsl 2 [.b false, .sl 0 [] true] [(0, 2), (2, 2)]), [.tm 119, .tm 121]⟩, ⟨some 123, none, .call 56, [.tm 117, .tm 122]⟩, ⟨none, none, .st 3, [.tm 20, .tm 123]⟩] [] [2, 3, 4, 5, 6, 18, 19, 20]) .skip)) (.seq (.dreg [⟨some 124, none, .call 37, []⟩, ⟨some 125, none, .mv, [.tm 124]⟩, ⟨some 126, some (125, true), .ld true 3 false, [.tm 5]⟩, ⟨some 127, some (125, true), .ld true 3 false, [.tm 6]⟩, ⟨some 128, some (125, true), .mv, [.tm 2]⟩, ⟨some 129, some (125, true), .call 57, [.tm 126, .tm 127, .tm 128]⟩, ⟨some 130, some (125, true), .ld true 3 false, [.tm 18]⟩, ⟨some 131, some (125, true), .po (.veq false [(0, .n), (1, .n), (2, .b)]), [.tm 129, .tm 130]⟩, ⟨some 132, none, .pick, [.tm 125, .tm 131, .cn (.b false)]⟩, ⟨some 133, none, .mv, [.tm 132]⟩, ⟨some 134, some (133, true), .ld true 3 false, [.tm 5]⟩, ⟨some 135, some (133, true), .ld true 3 false, [.tm 6]⟩, ⟨some 136, some (133, true), .mv, [.tm 2]⟩, ⟨some 137, some (133, true), .call 58, [.tm 134, .tm 135, .tm 136]⟩, ⟨some 138, some (133, true), .ld true 3 false, [.tm 19]⟩, ⟨some 139, some (133, true), .po (.veq false [(0, .n), (1, .n), (2, .b)]), [.tm 137, .tm 138]⟩, ⟨some 140, none, .pick, [.tm 133, .tm 139, .cn (.b false)]⟩, ⟨some 141, none, .mv, [.tm 140]⟩, ⟨some 142, some (141, true), .ld true 3 false, [.tm 5]⟩, ⟨some 143, some (141, true), .mv, [.tm 3]⟩, ⟨some 144, some (141, true), .mv, [.tm 4]⟩, ⟨some 145, some (141, true), .call 59, [.tm 142, .tm 143, .tm 144]⟩, ⟨some 146, some (141, true), .ld true 3 false, [.tm 20]⟩, ⟨some 147, some (141, true), .po (.veq false [(0, .n), (1, .n), (2, .b)]), [.tm 145, .tm 146]⟩, ⟨some 148, none, .pick, [.tm 141, .tm 147, .cn (.b false)]⟩, ⟨some 10, none, .mv, [.tm 148]⟩] [] [10]) .ret)))))))), [.tm 10]⟩
theorem of13 : Fn1.of Try.prog 13 ⟨false, []⟩ [[2, 3, 4, 5, 6], [2, 3, 4, 5, 6, 11, 12, 13], [2, 3, 4, 5, 6, 11, 12, 13, 14, 15, 16], [2, 3, 4, 5, 6, 11, 12, 13, 14, 15, 16, 17], [2, 3, 4, 5, 6, 11, 12, 13, 14, 15, 16, 18, 19, 20], [2, 3, 4, 5, 6, 11, 12, 13, 14, 15, 16, 18, 19, 20, 21], [2, 3, 4, 5, 6, 11, 12, 13, 14, 15, 18, 19, 20, 21, 47], [2, 3, 4, 5, 6, 11, 12, 13, 14, 15, 18, 19, 20, 21], [2, 3, 4, 5, 6, 11, 12, 13, 14, 15, 18, 19, 20, 21, 76], [2, 3, 4, 5, 6, 11, 12, 13, 18, 19, 20], [2, 3, 4, 5, 6, 11, 12, 18, 19, 20, 108], [2, 3, 4, 5, 6, 18, 19, 20], [10]] = some F13 := by kernel_rfl
theorem eqBf {objs : List (Nat × List V)} (x : Bd) : (SO.po (.veq false [(0, .n), (1, .n), (2, .b)])).rdx objs [.v (encB x), .v (encB x)] = some (.v (.b true)) := by
  simp [SO.rdx, SO.rd, allV, PO.run, veqV, eqLv, eqk]
theorem bounds_ok : Pure Try.prog 37 [] (.b true) := by
  refine pure_of_wp of37 (Nat.le_of_ble_eq_true rfl) ?_
  have hm := mulFix (-3) 2 false 5 7 false 2 (by decide)
  have em : mulB 2 (normB (-3) 2 false) (normB 5 7 false) = some (-11, 7) := by decide
  rw [em] at hm
  have hf := fuseFix [(8, 12, false, ()), (11, 13, false, ()), (14, 15, false, ())] 1 (by decide) (by decide)
  have ef : fuseF (([(8, 12, false, ()), (11, 13, false, ()), (14, 15, false, ())] : List BdT).map nrm) 1 = some (11, 12) := by decide
  rw [ef] at hf
  refine CallK.mk _ hm rfl ?_
  refine OptK.mk _ (eqBf (some (-11, 7))) ?_
  refine DecK.tt ?_
  refine CallK.mk _ (.of (.cons .loose (.cons (.refl _) .nil)) hf) rfl ?_
  refine OptK.mk _ (eqBf (some (11, 12))) ?_
  ((repeat' first | refine DecK.tt ?_ | refine DecK.ff ?_ | refine DecK.beq (fun _ => ?_) (fun _ => ?_) | refine DecK.bne (fun _ => ?_) (fun _ => ?_) | refine DecK.dec (fun _ => ?_) (fun _ => ?_) | refine OptK.mk _ rfl ?_ | refine endV (by rfl) ?_) <;> (try with_reducible rfl))
theorem rat4 (d1 u1 d2 u2 d3 u3 d4 u4 : Int) : ratB [(d1, u1), (d2, u2), (d3, u3), (d4, u4)] = mkB (min (min (min d1 d2) d3) d4) (max (max (max u1 u2) u3) u4) := rfl
theorem rat2 (d1 u1 d2 u2 : Int) : ratB [(d1, u1), (d2, u2)] = mkB (min d1 d2) (max u1 u2) := rfl
theorem quF_pos {t b : Int} (h : 1 ≤ b) : quF t b = (t / b, cdiv t b) := if_neg (by omega)
theorem quF_neg {t b : Int} (h : b ≤ -1) : quF t b = (-t / -b, cdiv (-t) (-b)) := if_pos (by omega)
theorem mul_rat {unit : Int} (p q : Int × Int) (h : 1 ≤ unit) : mulB unit (some p) (some q) = ratB [quF (p.1 * q.1) unit, quF (p.1 * q.2) unit, quF (p.2 * q.1) unit, quF (p.2 * q.2) unit] := by
  rw [mulB, if_neg (by omega), corn_rat _ _ _ _ _ _ h h h h]
  simp only [quF_pos h]
theorem div_rat {unit : Int} (p q : Int × Int) (h : 1 ≤ unit) (hq : q.1 ≤ q.2) (hs : 0 < q.1 ∨ q.2 < 0) : divB unit (some p) (some q) = ratB [quF (p.1 * unit) q.1, quF (p.1 * unit) q.2, quF (p.2 * unit) q.1, quF (p.2 * unit) q.2] := by
  rw [divB, if_neg (by omega)]
  by_cases hn : q.2 < 0
  · rw [if_pos hn, corn_rat _ _ _ _ _ _ (by omega) (by omega) (by omega) (by omega), quF_neg (by omega), quF_neg (by omega), quF_neg (by omega), quF_neg (by omega), rat4, rat4]
    simp only [Int.neg_mul]
    congr 1 <;> omega
  · rw [if_neg hn, corn_rat _ _ _ _ _ _ (by omega) (by omega) (by omega) (by omega), quF_pos (by omega), quF_pos (by omega), quF_pos (by omega), quF_pos (by omega)]
theorem scale_rat {d n : Int} (p : Int × Int) (h : 1 ≤ d) (hn : -1152921504606846976 ≤ n ∧ n ≤ 1152921504606846976) : mulB d (some p) (mkB n n) = ratB [quF (p.1 * n) d, quF (p.2 * n) d] := by
  rw [mkB_some (by unfold bval; omega), mul_rat p (n, n) h, quF_pos h, quF_pos h, rat4, rat2]
  congr 1 <;> omega
theorem scale_no {d n : Int} (p : Int × Int) (h : ¬ (1 ≤ d ∧ -1152921504606846976 ≤ n ∧ n ≤ 1152921504606846976)) : mulB d (some p) (mkB n n) = none := by
  by_cases hn : -1152921504606846976 ≤ n ∧ n ≤ 1152921504606846976
  · rw [mkB_some (by unfold bval; omega), mulB, if_pos (by omega)]
  · rw [mkB_none (by unfold bval; omega)]; rfl
theorem sgn_eq {a b : Int} (h : a ≤ b) : (sgn a = sgn b ∧ sgn a ≠ 0) ↔ (0 < a ∨ b < 0) := by unfold sgn; split <;> (try split) <;> (try split) <;> (try split) <;> omega
set_option maxHeartbeats 8000000 in
theorem boundProducts_pure (lo hi : Int) (u : Bool) (lo' hi' : Int) (u' : Bool) (unit n d : Int) (hu : fits unit) (hn : fits n) (hd : fits d) :
    Pure Try.prog 13 [bdV lo hi u, bdV lo' hi' u', .n .i64 unit, .n .i64 n, .n .i64 d] (.b true) := by
  refine pure_of_wp of13 (Nat.le_of_ble_eq_true rfl) ?_
  have q1 := mulFix lo hi u lo' hi' u' unit hu
  have q2 := divFix lo hi u lo' hi' u' unit hu
  have q3 := scaleFix lo hi u n d hd
  refine CallK.mk _ (sidesFix lo hi u) rfl ?_
  refine OptK.mk _ rfl ?_
  refine OptK.mk _ rfl ?_
  refine CallK.mk _ (sidesFix lo' hi' u') rfl ?_
  refine OptK.mk _ rfl ?_
  refine OptK.mk _ rfl ?_
  refine OptK.mk _ rfl ?_
  refine OptK.mk _ rfl ?_
  refine OptK.mk _ rfl ?_
  refine OptK.mk _ rfl ?_
  have hun := hu
  have hnn := hn
  have hdd := hd
  unfold fits at hun hnn hdd
  refine CallK.mk _ (I_ok unit hu) rfl ?_
  refine OptK.mk _ rfl ?_
  have hx := norm_ok lo hi u
  have hy := norm_ok lo' hi' u'
  generalize normB lo hi u = x at *
  generalize normB lo' hi' u' = y at *
  rcases x with _ | p
  · refine DecK.no rfl ?_
    repeat' first | (refine DecK.no rfl ?_) | (refine DecK.ff ?_)
    refine CallK.mk _ bounds_ok rfl ?_
    refine DecK.tt ?_
    refine CallK.mk _ q1 rfl ?_
    refine OptK.mk _ (eqBf none) ?_
    refine DecK.tt ?_
    refine CallK.mk _ q2 rfl ?_
    refine OptK.mk _ (eqBf none) ?_
    refine DecK.tt ?_
    refine CallK.mk _ q3 rfl ?_
    refine OptK.mk _ (eqBf none) ?_
    ((repeat' first | refine DecK.tt ?_ | refine DecK.ff ?_ | refine DecK.beq (fun _ => ?_) (fun _ => ?_) | refine DecK.bne (fun _ => ?_) (fun _ => ?_) | refine DecK.dec (fun _ => ?_) (fun _ => ?_) | refine OptK.mk _ rfl ?_ | refine endV (by rfl) ?_) <;> (try with_reducible rfl))
  unfold bdOk bval at hx
  simp only at hx
  refine DecK.yes rfl ?_
  have cs : y = none ∨ (∃ q, y = some q ∧ unit < 1) ∨ (∃ q, y = some q ∧ 1 ≤ unit ∧ ¬ (0 < q.1 ∨ q.2 < 0)) ∨ (∃ q, y = some q ∧ 1 ≤ unit ∧ (0 < q.1 ∨ q.2 < 0)) := by
    rcases y with _ | q
    · exact .inl rfl
    · by_cases h1 : unit < 1
      · exact .inr (.inl ⟨q, rfl, h1⟩)
      · by_cases h2 : 0 < q.1 ∨ q.2 < 0
        · exact .inr (.inr (.inr ⟨q, rfl, by omega, h2⟩))
        · exact .inr (.inr (.inl ⟨q, rfl, by omega, h2⟩))
  rcases cs with rfl | ⟨q, rfl, h1⟩ | ⟨q, rfl, h1, h2⟩ | ⟨q, rfl, h1, h2⟩
  case' inl =>
    rw [show mulB unit (some p) none = none from rfl] at q1
    rw [show divB unit (some p) none = none from rfl] at q2
    repeat' first | (refine DecK.no rfl ?_) | (refine DecK.ff ?_)
  case' inr.inl =>
    rw [show mulB unit (some p) (some q) = none from if_pos h1] at q1
    rw [show divB unit (some p) (some q) = none from if_pos (.inl h1)] at q2
    refine DecK.yes rfl ?_
    refine DecK.no (decide_eq_false (by omega)) ?_
  case' inr.inr.inl | inr.inr.inr =>
    unfold bdOk bval at hy
    simp only at hy
    rw [mul_rat p q h1] at q1
    refine DecK.yes rfl ?_
    refine DecK.yes (decide_eq_true (by omega)) ?_
    refine CallK.mk _ (Times_ok p.1 q.1 (by first | exact (zb_64 (by omega)).mono (by decide) | exact ((zb_64 (by omega)).mul (zb_64 (by omega))).mono (by decide)) (by first | exact (zb_64 (by omega)).mono (by decide) | exact ((zb_64 (by omega)).mul (zb_64 (by omega))).mono (by decide))) rfl ?_
    refine CallK.mk _ (Times_ok p.1 q.2 (by first | exact (zb_64 (by omega)).mono (by decide) | exact ((zb_64 (by omega)).mul (zb_64 (by omega))).mono (by decide)) (by first | exact (zb_64 (by omega)).mono (by decide) | exact ((zb_64 (by omega)).mul (zb_64 (by omega))).mono (by decide))) rfl ?_
    refine CallK.mk _ (Times_ok p.2 q.1 (by first | exact (zb_64 (by omega)).mono (by decide) | exact ((zb_64 (by omega)).mul (zb_64 (by omega))).mono (by decide)) (by first | exact (zb_64 (by omega)).mono (by decide) | exact ((zb_64 (by omega)).mul (zb_64 (by omega))).mono (by decide))) rfl ?_
    refine CallK.mk _ (Times_ok p.2 q.2 (by first | exact (zb_64 (by omega)).mono (by decide) | exact ((zb_64 (by omega)).mul (zb_64 (by omega))).mono (by decide)) (by first | exact (zb_64 (by omega)).mono (by decide) | exact ((zb_64 (by omega)).mul (zb_64 (by omega))).mono (by decide))) rfl ?_
    refine CallK.mk _ (ratiosFix [(p.1 * q.1, unit), (p.1 * q.2, unit), (p.2 * q.1, unit), (p.2 * q.2, unit)] true true (by simp) fun r hr => by
      simp only [List.mem_cons, List.not_mem_nil, or_false] at hr
      rcases hr with rfl | rfl | rfl | rfl <;> exact ⟨(by first | exact (zb_64 (by omega)).mono (by decide) | exact ((zb_64 (by omega)).mul (zb_64 (by omega))).mono (by decide)), (by first | exact (zb_64 (by omega)).mono (by decide) | exact ((zb_64 (by omega)).mul (zb_64 (by omega))).mono (by decide)), by simp only; omega⟩) rfl ?_
    refine OptK.mk _ rfl ?_
    refine CallK.mk _ (Sign_ok q.1) rfl ?_
    refine CallK.mk _ (Sign_ok q.2) rfl ?_
    have hsg := sgn_eq hy.2.1
  case' inr.inr.inl =>
    rw [show divB unit (some p) (some q) = none from if_pos (.inr (by omega))] at q2
    refine DecK.beq (fun g => ?_) (fun g => ?_)
    case' refine_1 =>
      refine CallK.mk _ (Sign_ok q.1) rfl ?_
      refine DecK.no (by have : sgn q.1 = 0 := Classical.byContradiction fun h => h2 (hsg.1 ⟨g, h⟩); simp [this]) ?_
    case' refine_2 =>
      refine DecK.ff ?_
  case' inr.inr.inr =>
    rw [div_rat p q h1 hy.2.1 h2] at q2
    refine DecK.yes (by simpa using (hsg.2 h2).1) ?_
    refine CallK.mk _ (Sign_ok q.1) rfl ?_
    refine DecK.yes (by simpa using (hsg.2 h2).2) ?_
    refine CallK.mk _ (Times_ok p.1 unit (by first | exact (zb_64 (by omega)).mono (by decide) | exact ((zb_64 (by omega)).mul (zb_64 (by omega))).mono (by decide)) (by first | exact (zb_64 (by omega)).mono (by decide) | exact ((zb_64 (by omega)).mul (zb_64 (by omega))).mono (by decide))) rfl ?_
    refine CallK.mk _ (Times_ok p.1 unit (by first | exact (zb_64 (by omega)).mono (by decide) | exact ((zb_64 (by omega)).mul (zb_64 (by omega))).mono (by decide)) (by first | exact (zb_64 (by omega)).mono (by decide) | exact ((zb_64 (by omega)).mul (zb_64 (by omega))).mono (by decide))) rfl ?_
    refine CallK.mk _ (Times_ok p.2 unit (by first | exact (zb_64 (by omega)).mono (by decide) | exact ((zb_64 (by omega)).mul (zb_64 (by omega))).mono (by decide)) (by first | exact (zb_64 (by omega)).mono (by decide) | exact ((zb_64 (by omega)).mul (zb_64 (by omega))).mono (by decide))) rfl ?_
    refine CallK.mk _ (Times_ok p.2 unit (by first | exact (zb_64 (by omega)).mono (by decide) | exact ((zb_64 (by omega)).mul (zb_64 (by omega))).mono (by decide)) (by first | exact (zb_64 (by omega)).mono (by decide) | exact ((zb_64 (by omega)).mul (zb_64 (by omega))).mono (by decide))) rfl ?_
    refine CallK.mk _ (ratiosFix [(p.1 * unit, q.1), (p.1 * unit, q.2), (p.2 * unit, q.1), (p.2 * unit, q.2)] true true (by simp) fun r hr => by
      simp only [List.mem_cons, List.not_mem_nil, or_false] at hr
      rcases hr with rfl | rfl | rfl | rfl <;> exact ⟨(by first | exact (zb_64 (by omega)).mono (by decide) | exact ((zb_64 (by omega)).mul (zb_64 (by omega))).mono (by decide)), (by first | exact (zb_64 (by omega)).mono (by decide) | exact ((zb_64 (by omega)).mul (zb_64 (by omega))).mono (by decide)), by simp only; omega⟩) rfl ?_
    refine OptK.mk _ rfl ?_
  all_goals
    refine DecK.yes rfl ?_
    by_cases hs : 1 ≤ d ∧ -1152921504606846976 ≤ n ∧ n ≤ 1152921504606846976
    · refine DecK.yes (decide_eq_true (by omega)) ?_
      refine DecK.yes (decide_eq_true (by omega)) ?_
      refine DecK.yes (decide_eq_true (by omega)) ?_
      rw [scale_rat p hs.1 hs.2] at q3
      refine CallK.mk _ (I_ok n hn) rfl ?_
      refine CallK.mk _ (Times_ok p.1 n (by first | exact (zb_64 (by omega)).mono (by decide) | exact ((zb_64 (by omega)).mul (zb_64 (by omega))).mono (by decide)) (by first | exact (zb_64 (by omega)).mono (by decide) | exact ((zb_64 (by omega)).mul (zb_64 (by omega))).mono (by decide))) rfl ?_
      refine CallK.mk _ (I_ok n hn) rfl ?_
      refine CallK.mk _ (Times_ok p.2 n (by first | exact (zb_64 (by omega)).mono (by decide) | exact ((zb_64 (by omega)).mul (zb_64 (by omega))).mono (by decide)) (by first | exact (zb_64 (by omega)).mono (by decide) | exact ((zb_64 (by omega)).mul (zb_64 (by omega))).mono (by decide))) rfl ?_
      refine CallK.mk _ (I_ok d hd) rfl ?_
      refine CallK.mk _ (I_ok d hd) rfl ?_
      refine CallK.mk _ (ratiosFix [(p.1 * n, d), (p.2 * n, d)] true true (by simp) fun r hr => by
        simp only [List.mem_cons, List.not_mem_nil, or_false] at hr
        rcases hr with rfl | rfl <;> exact ⟨(by first | exact (zb_64 (by omega)).mono (by decide) | exact ((zb_64 (by omega)).mul (zb_64 (by omega))).mono (by decide)), (by first | exact (zb_64 (by omega)).mono (by decide) | exact ((zb_64 (by omega)).mul (zb_64 (by omega))).mono (by decide)), by simp only; omega⟩) rfl ?_
      refine OptK.mk _ rfl ?_
      refine CallK.mk _ bounds_ok rfl ?_
      refine DecK.tt ?_
      refine CallK.mk _ q1 rfl ?_
      refine OptK.mk _ (eqBf _) ?_
      refine DecK.tt ?_
      refine CallK.mk _ q2 rfl ?_
      refine OptK.mk _ (eqBf _) ?_
      refine DecK.tt ?_
      refine CallK.mk _ q3 rfl ?_
      refine OptK.mk _ (eqBf _) ?_
      ((repeat' first | refine DecK.tt ?_ | refine DecK.ff ?_ | refine DecK.beq (fun _ => ?_) (fun _ => ?_) | refine DecK.bne (fun _ => ?_) (fun _ => ?_) | refine DecK.dec (fun _ => ?_) (fun _ => ?_) | refine OptK.mk _ rfl ?_ | refine endV (by rfl) ?_) <;> (try with_reducible rfl))
    · rw [scale_no p hs] at q3
      repeat' first | (refine DecK.ff ?_) | (refine DecK.dec (fun _ => ?_) (fun _ => ?_))
      all_goals first
        | (exfalso; omega)
        | (refine CallK.mk _ bounds_ok rfl ?_
           refine DecK.tt ?_
           refine CallK.mk _ q1 rfl ?_
           refine OptK.mk _ (eqBf _) ?_
           refine DecK.tt ?_
           refine CallK.mk _ q2 rfl ?_
           refine OptK.mk _ (eqBf _) ?_
           refine DecK.tt ?_
           refine CallK.mk _ q3 rfl ?_
           refine OptK.mk _ (eqBf _) ?_
           ((repeat' first | refine DecK.tt ?_ | refine DecK.ff ?_ | refine DecK.beq (fun _ => ?_) (fun _ => ?_) | refine DecK.bne (fun _ => ?_) (fun _ => ?_) | refine DecK.dec (fun _ => ?_) (fun _ => ?_) | refine OptK.mk _ rfl ?_ | refine endV (by rfl) ?_) <;> (try with_reducible rfl)))
end Go.Proofs.Ytdceakejbnolpaa.Sv
