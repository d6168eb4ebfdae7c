/- Bounds of numbers of a type: further functions. No condition. -/
import Derived.Test.YtljcbmnkjiogmaaGreatDoorBbQuanta
import Derived.Test.YtljcbmnkjiogmaaGreatDoorBe
namespace Go.Proofs.YtljcbmnkjiogmaaGreatDoor.Sv
open Go Go.RowKit
set_option linter.unusedVariables false
set_option linter.unusedSimpArgs false
set_option maxRecDepth 100000
/-- spyglass/spyref1.Sides(spyglass/api.Quanta) -/
def F61 : Fn1 := ⟨20, .seq (.reg [⟨some 1, none, .box, [.tm 0]⟩, ⟨some 2, none, .alloc [.b false, .sl 0 [] true], []⟩, ⟨some 3, none, .alloc [.b false, .sl 0 [] true], []⟩, ⟨some 4, none, .mv, [.cn (.b false)]⟩] [1, 2, 3]) (.seq (.seq (.reg [⟨some 5, none, .ld true 3 false, [.tm 1]⟩, ⟨some 6, none, .call 25, [.tm 5]⟩, ⟨some 7, none, .po (.bin .neq), [.tm 6, .cn (.n .i64 0)]⟩, ⟨some 8, none, .mv, [.tm 7]⟩, ⟨some 9, some (8, false), .fa 2, [.tm 1]⟩, ⟨some 10, some (8, false), .ld false 1 false, [.tm 9]⟩, ⟨some 11, none, .pick, [.tm 8, .cn (.b true), .tm 10]⟩] [1, 2, 3, 11]) (.cond (.tm 11) (.seq (.reg [⟨some 12, none, .po (.build [.b false, .sl 0 [] true] []), []⟩, ⟨some 13, none, .po (.build [.b false, .sl 0 [] true] []), []⟩, ⟨none, none, .st 2, [.tm 2, .tm 12]⟩, ⟨none, none, .st 2, [.tm 3, .tm 13]⟩, ⟨some 4, none, .mv, [.cn (.b false)]⟩] [2, 3, 4]) .ret) .skip)) (.seq (.dreg [⟨some 14, none, .fa 0, [.tm 1]⟩, ⟨some 15, none, .ld false 1 false, [.tm 14]⟩, ⟨some 16, none, .call 62, [.tm 15]⟩, ⟨some 17, none, .fa 1, [.tm 1]⟩, ⟨some 18, none, .ld false 1 false, [.tm 17]⟩, ⟨some 19, none, .call 62, [.tm 18]⟩, ⟨none, none, .st 2, [.tm 2, .tm 16]⟩, ⟨none, none, .st 2, [.tm 3, .tm 19]⟩, ⟨some 4, none, .mv, [.cn (.b true)]⟩] [] [2, 3, 4]) .ret)), [.cell 2 true 2, .cell 3 true 2, .tm 4]⟩
theorem of61 : Fn1.of Tryz.prog 61 ⟨false, [], false⟩ [[1, 2, 3], [1, 2, 3, 11], [2, 3, 4], [2, 3, 4]] = some F61 := by kernel_rfl
theorem sidesQuanta (lo hi : Int) (u : Bool) : Pure Tryz.prog 61 [bdV lo hi u] (.tup [zV (bLo (normB lo hi u)), zV (bHi (normB lo hi u)), .b (!bUn (normB lo hi u))]) := by
  have t1 := boundErrQuanta lo hi u
  rcases bd_cases lo hi u with ⟨h1, h2⟩ | ⟨h1, rfl, h3, h2⟩
  · rw [h1]
    refine Pure.le (r := .tup [.agg [.b false, .sl 0 [] true], .agg [.b false, .sl 0 [] true], .b false]) ?_ (VLes.tup (.cons zNone (.cons zNone (.cons (.refl _) .nil))))
    refine pure_of_wp of61 (Nat.le_of_ble_eq_true rfl) ?_
    refine CallK.mk _ t1 rfl ?_
    rcases h2 with ⟨h2, rfl, rfl, rfl⟩ | h2
    · refine DecK.bne (fun h => absurd h2 h) (fun _ => ?_)
      ((repeat' first | refine DecK.tt ?_ | refine DecK.ff ?_ | refine DecK.beq (fun _ => ?_) (fun _ => ?_) | refine DecK.bne (fun _ => ?_) (fun _ => ?_) | refine DecK.dec (fun _ => ?_) (fun _ => ?_) | refine OptK.mk _ rfl ?_ | refine endV (by rfl) ?_) <;> (try with_reducible rfl))
      rfl
    · refine DecK.bne (fun _ => ?_) (fun h => absurd h h2)
      ((repeat' first | refine DecK.tt ?_ | refine DecK.ff ?_ | refine DecK.beq (fun _ => ?_) (fun _ => ?_) | refine DecK.bne (fun _ => ?_) (fun _ => ?_) | refine DecK.dec (fun _ => ?_) (fun _ => ?_) | refine OptK.mk _ rfl ?_ | refine endV (by rfl) ?_) <;> (try with_reducible rfl))
      rfl
  · rw [h1]
    refine pure_of_wp of61 (Nat.le_of_ble_eq_true rfl) ?_
    refine CallK.mk _ t1 rfl ?_
    refine DecK.bne (fun h => absurd h2 h) (fun _ => ?_)
    unfold bval at h3
    repeat' first | (refine CallK.mk _ (I_ok lo (by omega)) rfl ?_) | (refine CallK.mk _ (I_ok hi (by omega)) rfl ?_) | refine DecK.tt ?_ | refine DecK.ff ?_ | refine DecK.beq (fun _ => ?_) (fun _ => ?_) | refine DecK.bne (fun _ => ?_) (fun _ => ?_) | refine DecK.dec (fun _ => ?_) (fun _ => ?_) | refine OptK.mk _ rfl ?_ | refine endV (by rfl) ?_
    rfl
end Go.Proofs.YtljcbmnkjiogmaaGreatDoor.Sv
