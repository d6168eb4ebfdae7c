/- Fractions: the known facts of a sum and of an approximation. No condition. -/
import Derived.Test.YtjeafcngljbdlaaFc
import Derived.Test.YtjeafcngljbdlaaFh
namespace Go.Proofs.Ytjeafcngljbdlaa.Sv
open Go Go.RowKit
set_option linter.unusedVariables false
set_option linter.unusedSimpArgs false
set_option maxRecDepth 100000
/-- spyglass/spylaw1.fracs -/
def F23 : Fn1 := ⟨32, .seq (.reg [⟨some 0, none, .mv, [.cn (.b false)]⟩] []) (.seq (.reg [⟨some 6, none, .po (.build [.n .i64 0, .n .i64 0] [(0, 1), (1, 1)]), [.cn (.n .i64 1), .cn (.n .i64 6)]⟩, ⟨some 7, none, .po (.build [.n .i64 0, .n .i64 0] [(0, 1), (1, 1)]), [.cn (.n .i64 1), .cn (.n .i64 10)]⟩, ⟨some 8, none, .call 46, [.tm 6, .tm 7]⟩, ⟨some 5, none, .mv, [.tm 8]⟩, ⟨some 9, none, .po (.ext 0), [.tm 5]⟩, ⟨some 10, none, .po (.ext 1), [.tm 5]⟩, ⟨some 1, none, .alloc [.n .i64 0, .n .i64 0], []⟩, ⟨none, none, .st 2, [.tm 1, .tm 9]⟩, ⟨some 2, none, .mv, [.tm 10]⟩] [1, 2]) (.seq (.reg [⟨some 12, none, .po (.build [.n .i64 0, .n .i64 0] [(0, 1), (1, 1)]), [.cn (.n .i64 157), .cn (.n .i64 50)]⟩, ⟨some 13, none, .call 47, [.tm 12, .cn (.n .i64 10)]⟩, ⟨some 11, none, .mv, [.tm 13]⟩, ⟨some 14, none, .po (.ext 0), [.tm 11]⟩, ⟨some 15, none, .po (.ext 1), [.tm 11]⟩, ⟨some 3, none, .alloc [.n .i64 0, .n .i64 0], []⟩, ⟨none, none, .st 2, [.tm 3, .tm 14]⟩, ⟨some 4, none, .mv, [.tm 15]⟩] [1, 2, 3, 4]) (.seq (.reg [⟨some 16, none, .mv, [.tm 2]⟩, ⟨some 17, none, .po (.bin .eql), [.tm 16, .cn (.n .i64 0)]⟩, ⟨some 18, none, .mv, [.tm 17]⟩, ⟨some 19, some (18, true), .mv, [.tm 4]⟩, ⟨some 20, some (18, true), .po (.bin .eql), [.tm 19, .cn (.n .i64 0)]⟩, ⟨some 21, none, .pick, [.tm 18, .tm 20, .cn (.b false)]⟩, ⟨some 22, none, .mv, [.tm 21]⟩, ⟨some 23, some (22, true), .ld true 2 false, [.tm 1]⟩, ⟨some 24, some (22, true), .po (.build [.n .i64 0, .n .i64 0] [(0, 1), (1, 1)]), [.cn (.n .i64 4), .cn (.n .i64 15)]⟩, ⟨some 25, some (22, true), .po (.veq false [(0, .n), (1, .n)]), [.tm 23, .tm 24]⟩, ⟨some 26, none, .pick, [.tm 22, .tm 25, .cn (.b false)]⟩, ⟨some 27, none, .mv, [.tm 26]⟩, ⟨some 28, some (27, true), .ld true 2 false, [.tm 3]⟩, ⟨some 29, some (27, true), .po (.build [.n .i64 0, .n .i64 0] [(0, 1), (1, 1)]), [.cn (.n .i64 22), .cn (.n .i64 7)]⟩, ⟨some 30, some (27, true), .po (.veq false [(0, .n), (1, .n)]), [.tm 28, .tm 29]⟩, ⟨some 31, none, .pick, [.tm 27, .tm 30, .cn (.b false)]⟩, ⟨some 0, none, .mv, [.tm 31]⟩] [0]) .ret))), [.tm 0]⟩
theorem of23 : Fn1.of Try.prog 23 ⟨false, [], false⟩ [[], [1, 2], [1, 2, 3, 4], [0]] = some F23 := by kernel_rfl
theorem eqFr {objs : List (Nat × List V)} (x y a b : Int) : (SO.po (.veq false [(0, .n), (1, .n)])).rdx objs [.v (fracV x y), .v (fracV a b)] = some (.v (.b (decide (x = a ∧ y = b)))) := by
  simp [SO.rdx, SO.rd, allV, PO.run, veqV, eqLv, eqk]
  by_cases h1 : x = a <;> by_cases h2 : y = b <;> simp [h1, h2]
theorem add_one : Pure Try.prog 46 [fracV 1 6, fracV 1 10] (.tup [fracV 4 15, .n .i64 0]) := by
  have h := add_ok 1 6 1 10 (by decide +kernel) (by decide +kernel)
  rw [lowT, show ((Int.gcd (1 * 10 + 1 * 6) (6 * 10) : Nat) : Int) = 4 from by decide +kernel, if_neg (by decide)] at h
  exact h
theorem best_one : Pure Try.prog 47 [fracV 157 50, .n .i64 10] (.tup [fracV 22 7, .n .i64 0]) := by
  obtain ⟨a, b, hg, hp⟩ := best_ok 157 50 10 (by decide +kernel) (by decide)
  have ht := (tops_of (N := 157) (D := 50) (most := 10) (p0 := 25) (q0 := 8) (p1 := 22) (q1 := 7) (s := 1) (d := 1) (e := 6) (.inl rfl) (by decide) (by decide) (by decide) (by decide) (by decide) (by decide) (by decide) (by decide)).1 (by decide) (by decide)
  obtain ⟨rfl, rfl⟩ := tops_unique hg.1 ht
  exact hp
theorem fracs_ok : Pure Try.prog 23 [] (.b true) := by
  refine pure_of_wp of23 (Nat.le_of_ble_eq_true rfl) ?_
  refine CallK.mk _ add_one rfl ?_
  refine OptK.mk _ rfl ?_
  refine CallK.mk _ best_one rfl ?_
  refine OptK.mk _ rfl ?_
  repeat' first | (refine DecK.tt ?_) | (refine OptK.mk _ (eqFr _ _ _ _) ?_) | (refine DecK.yes rfl ?_)
  ((repeat' first | refine DecK.tt ?_ | refine DecK.ff ?_ | refine DecK.beq (fun _ => ?_) (fun _ => ?_) | refine DecK.bne (fun _ => ?_) (fun _ => ?_) | refine DecK.dec (fun _ => ?_) (fun _ => ?_) | refine OptK.mk _ rfl ?_ | refine endV (by rfl) ?_) <;> (try with_reducible rfl))
  try simp
end Go.Proofs.Ytjeafcngljbdlaa.Sv
