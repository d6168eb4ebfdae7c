/- Bounds of numbers of a type: checks, sums; the program's and the reference's. No condition. -/
import Derived.Test.YtciigfeecmnghaaRRRRGreatRRBe
import Derived.Test.YtciigfeecmnghaaRRRRGreatRRNe
namespace Go.Proofs.YtciigfeecmnghaaRRRRGreatRR.Sv
open Go Go.RowKit
set_option linter.unusedVariables false
set_option linter.unusedSimpArgs false
set_option maxRecDepth 100000
/-- spyglass/bound.Check(spyglass/api.Fix) -/
def F160 : Fn1 := ⟨37, .seq (.reg [⟨some 1, none, .box, [.tm 0]⟩, ⟨some 2, none, .mv, [.cn (.n .i64 0)]⟩] [1]) (.seq (.block 0 (.seq (.reg [⟨some 4, none, .fa 2, [.tm 1]⟩, ⟨some 5, none, .ld false 1 false, [.tm 4]⟩, ⟨some 6, none, .mv, [.tm 5]⟩, ⟨some 7, some (6, true), .fa 0, [.tm 1]⟩, ⟨some 8, some (6, true), .ld false 1 false, [.tm 7]⟩, ⟨some 9, some (6, true), .po (.bin .neq), [.tm 8, .cn (.n .i64 0)]⟩, ⟨some 10, some (6, true), .mv, [.tm 9]⟩, ⟨some 11, some (10, false), .fa 1, [.tm 1]⟩, ⟨some 12, some (10, false), .ld false 1 false, [.tm 11]⟩, ⟨some 13, some (10, false), .po (.bin .neq), [.tm 12, .cn (.n .i64 0)]⟩, ⟨some 14, some (6, true), .pick, [.tm 10, .cn (.b true), .tm 13]⟩, ⟨some 15, none, .pick, [.tm 6, .tm 14, .cn (.b false)]⟩, ⟨some 3, none, .mv, [.tm 15]⟩] [1, 3]) (.cond (.tm 3) (.seq (.reg [⟨some 2, none, .mv, [.cn (.n .i64 3)]⟩] [2]) .ret) (.seq (.reg [⟨some 17, none, .fa 0, [.tm 1]⟩, ⟨some 18, none, .ld false 1 false, [.tm 17]⟩, ⟨some 19, none, .fa 1, [.tm 1]⟩, ⟨some 20, none, .ld false 1 false, [.tm 19]⟩, ⟨some 21, none, .po .mn, [.tm 18, .tm 20]⟩, ⟨some 22, none, .po (.bin .lss), [.tm 21, .cn (.n .i64 (-1152921504606846976))]⟩, ⟨some 23, none, .mv, [.tm 22]⟩, ⟨some 24, some (23, false), .fa 0, [.tm 1]⟩, ⟨some 25, some (23, false), .ld false 1 false, [.tm 24]⟩, ⟨some 26, some (23, false), .fa 1, [.tm 1]⟩, ⟨some 27, some (23, false), .ld false 1 false, [.tm 26]⟩, ⟨some 28, some (23, false), .po .mx, [.tm 25, .tm 27]⟩, ⟨some 29, some (23, false), .po (.bin .gtr), [.tm 28, .cn (.n .i64 1152921504606846976)]⟩, ⟨some 30, none, .pick, [.tm 23, .cn (.b true), .tm 29]⟩, ⟨some 16, none, .mv, [.tm 30]⟩] [1, 16]) (.cond (.tm 16) (.seq (.reg [⟨some 2, none, .mv, [.cn (.n .i64 4)]⟩] [2]) .ret) (.seq (.reg [⟨some 32, none, .fa 0, [.tm 1]⟩, ⟨some 33, none, .ld false 1 false, [.tm 32]⟩, ⟨some 34, none, .fa 1, [.tm 1]⟩, ⟨some 35, none, .ld false 1 false, [.tm 34]⟩, ⟨some 36, none, .po (.bin .gtr), [.tm 33, .tm 35]⟩, ⟨some 31, none, .mv, [.tm 36]⟩] [31]) (.cond (.tm 31) (.seq (.reg [⟨some 2, none, .mv, [.cn (.n .i64 11)]⟩] [2]) .ret) .skip))))))) (.seq (.reg [⟨some 2, none, .mv, [.cn (.n .i64 0)]⟩] [2]) .ret)), [.tm 2]⟩
theorem of160 : Fn1.of Tryz.prog 160 ⟨false, [], false⟩ [[1], [1, 3], [2], [1, 16], [2], [31], [2], [2]] = some F160 := by kernel_rfl
/-- spyglass/bound.None(spyglass/api.Fix) -/
def F33 : Fn1 := ⟨2, .seq (.reg [⟨some 0, none, .alloc [.n .i64 0, .n .i64 0, .b false], []⟩] [0]) (.seq (.reg [⟨some 1, none, .po (.build [.n .i64 0, .n .i64 0, .b false] [(2, 1)]), [.cn (.b true)]⟩, ⟨none, none, .st 3, [.tm 0, .tm 1]⟩] [0]) .ret), [.cell 0 true 3]⟩
theorem of33 : Fn1.of Tryz.prog 33 ⟨false, [], false⟩ [[0], [0]] = some F33 := by kernel_rfl
/-- spyglass/bound.Norm(spyglass/api.Fix) -/
def F117 : Fn1 := ⟨8, .seq (.reg [⟨some 1, none, .box, [.tm 0]⟩, ⟨some 2, none, .alloc [.n .i64 0, .n .i64 0, .b false], []⟩] [1, 2]) (.seq (.seq (.reg [⟨some 3, none, .ld true 3 false, [.tm 1]⟩, ⟨some 4, none, .call 160, [.tm 3]⟩, ⟨some 5, none, .po (.bin .neq), [.tm 4, .cn (.n .i64 0)]⟩] [1, 2, 5]) (.cond (.tm 5) (.seq (.reg [⟨some 6, none, .call 33, []⟩, ⟨none, none, .st 3, [.tm 2, .tm 6]⟩] [2]) .ret) .skip)) (.seq (.reg [⟨some 7, none, .ld true 3 false, [.tm 1]⟩, ⟨none, none, .st 3, [.tm 2, .tm 7]⟩] [2]) .ret)), [.cell 2 true 3]⟩
theorem of117 : Fn1.of Tryz.prog 117 ⟨false, [], false⟩ [[1, 2], [1, 2, 5], [2], [2]] = some F117 := by kernel_rfl
/-- spyglass/bound.Of(spyglass/api.Fix) -/
def F46 : Fn1 := ⟨9, .seq (.reg [⟨some 4, none, .alloc [.n .i64 0, .n .i64 0, .b false], []⟩] [0, 1, 4]) (.seq (.reg [⟨some 5, none, .mv, [.tm 0]⟩, ⟨some 6, none, .mv, [.tm 1]⟩, ⟨some 7, none, .po (.build [.n .i64 0, .n .i64 0, .b false] [(0, 1), (1, 1)]), [.tm 5, .tm 6]⟩, ⟨some 8, none, .call 117, [.tm 7]⟩, ⟨none, none, .st 3, [.tm 4, .tm 8]⟩] [4]) .ret), [.cell 4 true 3]⟩
theorem of46 : Fn1.of Tryz.prog 46 ⟨false, [], false⟩ [[0, 1, 4], [4]] = some F46 := by kernel_rfl
/-- spyglass/bound.vague(spyglass/api.Fix) -/
def F104 : Fn1 := ⟨13, .seq (.reg [⟨some 2, none, .box, [.tm 0]⟩, ⟨some 3, none, .box, [.tm 1]⟩, ⟨some 4, none, .mv, [.cn (.b false)]⟩] [2, 3]) (.seq (.reg [⟨some 5, none, .ld true 3 false, [.tm 2]⟩, ⟨some 6, none, .call 117, [.tm 5]⟩, ⟨some 7, none, .po (.fld false 2 1), [.tm 6]⟩, ⟨some 8, none, .mv, [.tm 7]⟩, ⟨some 9, some (8, false), .ld true 3 false, [.tm 3]⟩, ⟨some 10, some (8, false), .call 117, [.tm 9]⟩, ⟨some 11, some (8, false), .po (.fld false 2 1), [.tm 10]⟩, ⟨some 12, none, .pick, [.tm 8, .cn (.b true), .tm 11]⟩, ⟨some 4, none, .mv, [.tm 12]⟩] [4]) .ret), [.tm 4]⟩
theorem of104 : Fn1.of Tryz.prog 104 ⟨false, [], false⟩ [[2, 3], [4]] = some F104 := by kernel_rfl
/-- spyglass/bound.Add(spyglass/api.Fix) -/
def F37 : Fn1 := ⟨20, .seq (.reg [⟨some 2, none, .box, [.tm 0]⟩, ⟨some 3, none, .box, [.tm 1]⟩, ⟨some 4, none, .alloc [.n .i64 0, .n .i64 0, .b false], []⟩] [2, 3, 4]) (.seq (.seq (.reg [⟨some 5, none, .ld true 3 false, [.tm 2]⟩, ⟨some 6, none, .ld true 3 false, [.tm 3]⟩, ⟨some 7, none, .call 104, [.tm 5, .tm 6]⟩] [2, 3, 4, 7]) (.cond (.tm 7) (.seq (.reg [⟨some 8, none, .call 33, []⟩, ⟨none, none, .st 3, [.tm 4, .tm 8]⟩] [4]) .ret) .skip)) (.seq (.reg [⟨some 9, none, .fa 0, [.tm 2]⟩, ⟨some 10, none, .ld false 1 false, [.tm 9]⟩, ⟨some 11, none, .fa 0, [.tm 3]⟩, ⟨some 12, none, .ld false 1 false, [.tm 11]⟩, ⟨some 13, none, .po (.bin .add), [.tm 10, .tm 12]⟩, ⟨some 14, none, .fa 1, [.tm 2]⟩, ⟨some 15, none, .ld false 1 false, [.tm 14]⟩, ⟨some 16, none, .fa 1, [.tm 3]⟩, ⟨some 17, none, .ld false 1 false, [.tm 16]⟩, ⟨some 18, none, .po (.bin .add), [.tm 15, .tm 17]⟩, ⟨some 19, none, .call 46, [.tm 13, .tm 18]⟩, ⟨none, none, .st 3, [.tm 4, .tm 19]⟩] [4]) .ret)), [.cell 4 true 3]⟩
theorem of37 : Fn1.of Tryz.prog 37 ⟨false, [], false⟩ [[2, 3, 4], [2, 3, 4, 7], [4], [4]] = some F37 := by kernel_rfl
/-- spyglass/spyref1.Bounded(spyglass/api.Fix) -/
def F65 : Fn1 := ⟨39, .seq (.reg [⟨some 2, none, .box, [.tm 0]⟩, ⟨some 3, none, .box, [.tm 1]⟩, ⟨some 4, none, .alloc [.n .i64 0, .n .i64 0, .b false], []⟩] [2, 3, 4]) (.seq (.seq (.dreg [⟨some 9, none, .ld true 2 false, [.tm 2]⟩, ⟨some 10, none, .call 48, [.cn (.n .i64 (-1152921504606846976))]⟩, ⟨some 11, none, .call 63, [.tm 9, .tm 10]⟩, ⟨some 12, none, .po (.bin .lss), [.tm 11, .cn (.n .i64 0)]⟩, ⟨some 13, none, .mv, [.tm 12]⟩, ⟨some 14, some (13, false), .ld true 2 false, [.tm 3]⟩, ⟨some 15, some (13, false), .call 48, [.cn (.n .i64 1152921504606846976)]⟩, ⟨some 16, some (13, false), .call 63, [.tm 14, .tm 15]⟩, ⟨some 17, some (13, false), .po (.bin .gtr), [.tm 16, .cn (.n .i64 0)]⟩, ⟨some 18, none, .pick, [.tm 13, .cn (.b true), .tm 17]⟩, ⟨some 19, none, .mv, [.tm 18]⟩, ⟨some 20, some (19, false), .ld true 2 false, [.tm 2]⟩, ⟨some 21, some (19, false), .ld true 2 false, [.tm 3]⟩, ⟨some 22, some (19, false), .call 63, [.tm 20, .tm 21]⟩, ⟨some 23, some (19, false), .po (.bin .gtr), [.tm 22, .cn (.n .i64 0)]⟩, ⟨some 24, none, .pick, [.tm 19, .cn (.b true), .tm 23]⟩] [] [2, 3, 4, 24]) (.cond (.tm 24) (.seq (.reg [⟨some 25, none, .po (.build [.n .i64 0, .n .i64 0, .b false] [(2, 1)]), [.cn (.b true)]⟩, ⟨none, none, .st 3, [.tm 4, .tm 25]⟩] [4]) .ret) .skip)) (.seq (.reg [⟨some 27, none, .ld true 2 false, [.tm 2]⟩, ⟨some 28, none, .call 120, [.tm 27]⟩, ⟨some 26, none, .mv, [.tm 28]⟩, ⟨some 29, none, .po (.ext 0), [.tm 26]⟩, ⟨some 30, none, .po (.ext 1), [.tm 26]⟩, ⟨some 5, none, .mv, [.tm 29]⟩, ⟨some 6, none, .mv, [.tm 30]⟩] [3, 4, 5]) (.seq (.reg [⟨some 32, none, .ld true 2 false, [.tm 3]⟩, ⟨some 33, none, .call 120, [.tm 32]⟩, ⟨some 31, none, .mv, [.tm 33]⟩, ⟨some 34, none, .po (.ext 0), [.tm 31]⟩, ⟨some 35, none, .po (.ext 1), [.tm 31]⟩, ⟨some 7, none, .mv, [.tm 34]⟩, ⟨some 8, none, .mv, [.tm 35]⟩] [4, 5, 7]) (.seq (.reg [⟨some 36, none, .mv, [.tm 5]⟩, ⟨some 37, none, .mv, [.tm 7]⟩, ⟨some 38, none, .po (.build [.n .i64 0, .n .i64 0, .b false] [(0, 1), (1, 1)]), [.tm 36, .tm 37]⟩, ⟨none, none, .st 3, [.tm 4, .tm 38]⟩] [4]) .ret)))), [.cell 4 true 3]⟩
theorem of65 : Fn1.of Tryz.prog 65 ⟨false, [], false⟩ [[2, 3, 4], [2, 3, 4, 24], [4], [3, 4, 5], [4, 5, 7], [4]] = some F65 := by kernel_rfl
theorem checkFix (lo hi : Int) (u : Bool) : Pure Tryz.prog 160 [bdV lo hi u] (.n .i64 (bErr lo hi u)) := by
  refine pure_of_wp of160 (Nat.le_of_ble_eq_true rfl) ?_
  unfold bErr
  cases u
  all_goals ((repeat' first | refine DecK.tt ?_ | refine DecK.ff ?_ | refine DecK.beq (fun _ => ?_) (fun _ => ?_) | refine DecK.bne (fun _ => ?_) (fun _ => ?_) | refine DecK.dec (fun _ => ?_) (fun _ => ?_) | refine OptK.mk _ rfl ?_ | refine endV (by rfl) ?_) <;> (try with_reducible rfl))
  all_goals simp only [V.tup.injEq, V.agg.injEq, V.n.injEq, V.b.injEq, V.s.injEq, List.cons.injEq, true_and, and_true]
  all_goals try simp only [if_true, Bool.false_eq_true, if_false]
  all_goals omega
theorem noneFix : Pure Tryz.prog 33 [] (encB none) := by
  refine pure_of_wp of33 (Nat.le_of_ble_eq_true rfl) ?_
  ((repeat' first | refine DecK.tt ?_ | refine DecK.ff ?_ | refine DecK.beq (fun _ => ?_) (fun _ => ?_) | refine DecK.bne (fun _ => ?_) (fun _ => ?_) | refine DecK.dec (fun _ => ?_) (fun _ => ?_) | refine OptK.mk _ rfl ?_ | refine endV (by rfl) ?_) <;> (try with_reducible rfl))
  rfl
theorem normFix (lo hi : Int) (u : Bool) : Pure Tryz.prog 117 [bdV lo hi u] (encB (normB lo hi u)) := by
  refine pure_of_wp of117 (Nat.le_of_ble_eq_true rfl) ?_
  refine CallK.mk _ (checkFix lo hi u) rfl ?_
  rcases bd_cases lo hi u with ⟨h1, ⟨h2, rfl, rfl, rfl⟩ | h2⟩ | ⟨h1, rfl, h3, h2⟩
  · refine DecK.bne (fun h => absurd h2 h) (fun _ => ?_)
    ((repeat' first | refine DecK.tt ?_ | refine DecK.ff ?_ | refine DecK.beq (fun _ => ?_) (fun _ => ?_) | refine DecK.bne (fun _ => ?_) (fun _ => ?_) | refine DecK.dec (fun _ => ?_) (fun _ => ?_) | refine OptK.mk _ rfl ?_ | refine endV (by rfl) ?_) <;> (try with_reducible rfl))
    rw [h1]; rfl
  · refine DecK.bne (fun h => ?_) (fun h => absurd h h2)
    refine CallK.mk _ noneFix rfl ?_
    ((repeat' first | refine DecK.tt ?_ | refine DecK.ff ?_ | refine DecK.beq (fun _ => ?_) (fun _ => ?_) | refine DecK.bne (fun _ => ?_) (fun _ => ?_) | refine DecK.dec (fun _ => ?_) (fun _ => ?_) | refine OptK.mk _ rfl ?_ | refine endV (by rfl) ?_) <;> (try with_reducible rfl))
    rw [h1]; rfl
  · refine DecK.bne (fun h => absurd h2 h) (fun _ => ?_)
    ((repeat' first | refine DecK.tt ?_ | refine DecK.ff ?_ | refine DecK.beq (fun _ => ?_) (fun _ => ?_) | refine DecK.bne (fun _ => ?_) (fun _ => ?_) | refine DecK.dec (fun _ => ?_) (fun _ => ?_) | refine OptK.mk _ rfl ?_ | refine endV (by rfl) ?_) <;> (try with_reducible rfl))
    rw [h1]; rfl
theorem ofFix (lo hi : Int) : Pure Tryz.prog 46 [.n .i64 lo, .n .i64 hi] (encB (mkB lo hi)) := by
  refine pure_of_wp of46 (Nat.le_of_ble_eq_true rfl) ?_
  refine CallK.mk _ (normFix lo hi false) rfl ?_
  ((repeat' first | refine DecK.tt ?_ | refine DecK.ff ?_ | refine DecK.beq (fun _ => ?_) (fun _ => ?_) | refine DecK.bne (fun _ => ?_) (fun _ => ?_) | refine DecK.dec (fun _ => ?_) (fun _ => ?_) | refine OptK.mk _ rfl ?_ | refine endV (by rfl) ?_) <;> (try with_reducible rfl))
  rfl
theorem vagueFix (lo hi : Int) (u : Bool) (lo' hi' : Int) (u' : Bool) : Pure Tryz.prog 104 [bdV lo hi u, bdV lo' hi' u'] (.b (bUn (normB lo hi u) || bUn (normB lo' hi' u'))) := by
  refine pure_of_wp of104 (Nat.le_of_ble_eq_true rfl) ?_
  refine CallK.mk _ (normFix lo hi u) rfl ?_
  refine DecK.both (fun h => ?_) (fun h => ?_)
  · ((repeat' first | refine DecK.tt ?_ | refine DecK.ff ?_ | refine DecK.beq (fun _ => ?_) (fun _ => ?_) | refine DecK.bne (fun _ => ?_) (fun _ => ?_) | refine DecK.dec (fun _ => ?_) (fun _ => ?_) | refine OptK.mk _ rfl ?_ | refine endV (by rfl) ?_) <;> (try with_reducible rfl))
    rw [h]; rfl
  · refine CallK.mk _ (normFix lo' hi' u') rfl ?_
    ((repeat' first | refine DecK.tt ?_ | refine DecK.ff ?_ | refine DecK.beq (fun _ => ?_) (fun _ => ?_) | refine DecK.bne (fun _ => ?_) (fun _ => ?_) | refine DecK.dec (fun _ => ?_) (fun _ => ?_) | refine OptK.mk _ rfl ?_ | refine endV (by rfl) ?_) <;> (try with_reducible rfl))
    rw [h]; rfl
theorem addFix (lo hi : Int) (u : Bool) (lo' hi' : Int) (u' : Bool) : Pure Tryz.prog 37 [bdV lo hi u, bdV lo' hi' u'] (encB (addB (normB lo hi u) (normB lo' hi' u'))) := by
  refine pure_of_wp of37 (Nat.le_of_ble_eq_true rfl) ?_
  refine CallK.mk _ (vagueFix lo hi u lo' hi' u') rfl ?_
  rcases bd_cases lo hi u with ⟨h1, h2⟩ | ⟨h1, rfl, h3, h2⟩
  · rw [h1]
    refine DecK.tt ?_
    refine CallK.mk _ noneFix rfl ?_
    ((repeat' first | refine DecK.tt ?_ | refine DecK.ff ?_ | refine DecK.beq (fun _ => ?_) (fun _ => ?_) | refine DecK.bne (fun _ => ?_) (fun _ => ?_) | refine DecK.dec (fun _ => ?_) (fun _ => ?_) | refine OptK.mk _ rfl ?_ | refine endV (by rfl) ?_) <;> (try with_reducible rfl))
    rfl
  · rcases bd_cases lo' hi' u' with ⟨g1, g2⟩ | ⟨g1, rfl, g3, g2⟩
    · rw [h1, g1]
      refine DecK.tt ?_
      refine CallK.mk _ noneFix rfl ?_
      ((repeat' first | refine DecK.tt ?_ | refine DecK.ff ?_ | refine DecK.beq (fun _ => ?_) (fun _ => ?_) | refine DecK.bne (fun _ => ?_) (fun _ => ?_) | refine DecK.dec (fun _ => ?_) (fun _ => ?_) | refine OptK.mk _ rfl ?_ | refine endV (by rfl) ?_) <;> (try with_reducible rfl))
      rfl
    · rw [h1, g1]
      refine DecK.ff ?_
      unfold bval at h3 g3
      have w1 : IntKind.i64.wrap (lo + lo') = lo + lo' := w64 (by omega)
      have w2 : IntKind.i64.wrap (hi + hi') = hi + hi' := w64 (by omega)
      refine CallK.mk _ (ofFix _ _) rfl ?_
      ((repeat' first | refine DecK.tt ?_ | refine DecK.ff ?_ | refine DecK.beq (fun _ => ?_) (fun _ => ?_) | refine DecK.bne (fun _ => ?_) (fun _ => ?_) | refine DecK.dec (fun _ => ?_) (fun _ => ?_) | refine OptK.mk _ rfl ?_ | refine endV (by rfl) ?_) <;> (try with_reducible rfl))
      rw [w1, w2]; rfl
theorem boundedFix (a b : Int) (ha : zok a) (hb : zok b) : Pure Tryz.prog 65 [zV a, zV b] (encB (mkB a b)) := by
  refine pure_of_wp of65 (Nat.le_of_ble_eq_true rfl) ?_
  have zi : ∀ x : Int, fits x → zok x := fun x h => h.zb.mono (by decide)
  by_cases hv : bval a b
  · have ⟨fa, fb⟩ := hv.f1
    unfold bval at hv
    have e1 : small a = a := by rw [small, if_pos fa]
    have e2 : small b = b := by rw [small, if_pos fb]
    refine CallK.mk _ (I_ok _ (by decide)) rfl ?_
    refine CallK.mk _ (Cmp_ok a _ ha (zi _ (by decide))) rfl ?_
    refine DecK.no (decide_eq_false (by unfold icmp; omega)) ?_
    refine CallK.mk _ (I_ok _ (by decide)) rfl ?_
    refine CallK.mk _ (Cmp_ok b _ hb (zi _ (by decide))) rfl ?_
    refine DecK.no (decide_eq_false (by unfold icmp; omega)) ?_
    refine CallK.mk _ (Cmp_ok a b ha hb) rfl ?_
    refine DecK.no (decide_eq_false (by unfold icmp; omega)) ?_
    refine CallK.mk _ (Small_ok a ha) rfl ?_
    refine CallK.mk _ (Small_ok b hb) rfl ?_
    ((repeat' first | refine DecK.tt ?_ | refine DecK.ff ?_ | refine DecK.beq (fun _ => ?_) (fun _ => ?_) | refine DecK.bne (fun _ => ?_) (fun _ => ?_) | refine DecK.dec (fun _ => ?_) (fun _ => ?_) | refine OptK.mk _ rfl ?_ | refine endV (by rfl) ?_) <;> (try with_reducible rfl))
    rw [e1, e2, mkB_some (by unfold bval; exact hv)]
    rfl
  · rw [mkB_none hv]
    unfold bval at hv
    refine CallK.mk _ (I_ok _ (by decide)) rfl ?_
    refine CallK.mk _ (Cmp_ok a _ ha (zi _ (by decide))) rfl ?_
    refine DecK.dec (fun h1 => ?_) (fun h1 => ?_)
    · ((repeat' first | refine DecK.tt ?_ | refine DecK.ff ?_ | refine DecK.beq (fun _ => ?_) (fun _ => ?_) | refine DecK.bne (fun _ => ?_) (fun _ => ?_) | refine DecK.dec (fun _ => ?_) (fun _ => ?_) | refine OptK.mk _ rfl ?_ | refine endV (by rfl) ?_) <;> (try with_reducible rfl))
      rfl
    refine CallK.mk _ (I_ok _ (by decide)) rfl ?_
    refine CallK.mk _ (Cmp_ok b _ hb (zi _ (by decide))) rfl ?_
    refine DecK.dec (fun h2 => ?_) (fun h2 => ?_)
    · ((repeat' first | refine DecK.tt ?_ | refine DecK.ff ?_ | refine DecK.beq (fun _ => ?_) (fun _ => ?_) | refine DecK.bne (fun _ => ?_) (fun _ => ?_) | refine DecK.dec (fun _ => ?_) (fun _ => ?_) | refine OptK.mk _ rfl ?_ | refine endV (by rfl) ?_) <;> (try with_reducible rfl))
      rfl
    refine CallK.mk _ (Cmp_ok a b ha hb) rfl ?_
    refine DecK.yes (decide_eq_true (by unfold icmp at *; omega)) ?_
    ((repeat' first | refine DecK.tt ?_ | refine DecK.ff ?_ | refine DecK.beq (fun _ => ?_) (fun _ => ?_) | refine DecK.bne (fun _ => ?_) (fun _ => ?_) | refine DecK.dec (fun _ => ?_) (fun _ => ?_) | refine OptK.mk _ rfl ?_ | refine endV (by rfl) ?_) <;> (try with_reducible rfl))
    rfl
end Go.Proofs.YtciigfeecmnghaaRRRRGreatRR.Sv
