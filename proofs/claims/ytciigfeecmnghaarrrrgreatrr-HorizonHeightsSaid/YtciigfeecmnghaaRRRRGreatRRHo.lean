/- How high a direction stands: the law HorizonHeights. No condition. -/
import Derived.Test.YtciigfeecmnghaaRRRRGreatRRHl
namespace Go.Proofs.YtciigfeecmnghaaRRRRGreatRR.Sv
open Go Go.RowKit
set_option linter.unusedVariables false
set_option linter.unusedSimpArgs false
set_option maxRecDepth 100000
/-- spyglass/spylaw1.HorizonHeights -/
def F3 : Fn1 := ⟨26, .seq (.reg [⟨some 3, none, .box, [.tm 0]⟩, ⟨some 4, none, .box, [.tm 1]⟩, ⟨some 5, none, .box, [.tm 2]⟩, ⟨some 6, none, .mv, [.cn (.b false)]⟩] [3, 4, 5]) (.seq (.dreg [⟨some 7, none, .call 7, []⟩, ⟨some 8, none, .mv, [.tm 7]⟩, ⟨some 9, some (8, true), .ld true 2 false, [.tm 3]⟩, ⟨some 10, some (8, true), .call 8, [.tm 9]⟩, ⟨some 11, some (8, true), .ld true 2 false, [.tm 3]⟩, ⟨some 12, some (8, true), .call 9, [.tm 11]⟩, ⟨some 13, some (8, true), .po (.bin .eql), [.tm 10, .tm 12]⟩, ⟨some 14, none, .pick, [.tm 8, .tm 13, .cn (.b false)]⟩, ⟨some 15, none, .mv, [.tm 14]⟩, ⟨some 16, some (15, true), .ld true 2 false, [.tm 3]⟩, ⟨some 17, some (15, true), .ld true 3 false, [.tm 4]⟩, ⟨some 18, some (15, true), .ld true 3 false, [.tm 5]⟩, ⟨some 19, some (15, true), .call 10, [.tm 16, .tm 17, .tm 18]⟩, ⟨some 20, some (15, true), .ld true 2 false, [.tm 3]⟩, ⟨some 21, some (15, true), .ld true 3 false, [.tm 4]⟩, ⟨some 22, some (15, true), .ld true 3 false, [.tm 5]⟩, ⟨some 23, some (15, true), .call 11, [.tm 20, .tm 21, .tm 22]⟩, ⟨some 24, some (15, true), .po (.veq false [(0, .n), (1, .n), (2, .b)]), [.tm 19, .tm 23]⟩, ⟨some 25, none, .pick, [.tm 15, .tm 24, .cn (.b false)]⟩, ⟨some 6, none, .mv, [.tm 25]⟩] [] [6]) .ret), [.tm 6]⟩
theorem of3 : Fn1.of Tryz.prog 3 ⟨false, [], false⟩ [[3, 4, 5], [6]] = some F3 := by kernel_rfl
theorem horizonHeights_pure (lat lon lo hi : Int) (u : Bool) (x y z : Int) : Pure Tryz.prog 3 [siteV lat lon, bdV lo hi u, vecV x y z] (.b true) := by
  have ex : ∃ s : Int, vecErr x y z = 0 → rootS s (sqN (growV x y z).1 (growV x y z).2.1 (growV x y z).2.2) := by
    by_cases h : vecErr x y z = 0
    · have hg : vecErr (growV x y z).1 (growV x y z).2.1 (growV x y z).2.2 = 0 := by rw [growV, if_pos h]; exact growF_ok h
      have si := sqN_in hg
      obtain ⟨s, h1, h2, h3⟩ := sqrt_int (sqN (growV x y z).1 (growV x y z).2.1 (growV x y z).2.2 * 1099511627776) (by omega)
      exact ⟨s, fun _ => ⟨h1, h2, h3⟩⟩
    · exact ⟨0, fun g => absurd g h⟩
  obtain ⟨s, hs⟩ := ex
  refine pure_of_wp of3 (Nat.le_of_ble_eq_true rfl) ?_
  refine CallK.mk _ horizons_ok rfl ?_
  refine DecK.tt ?_
  refine CallK.mk _ (site1 lat lon) rfl ?_
  refine CallK.mk _ (site2 lat lon) rfl ?_
  refine DecK.beq (fun _ => ?_) (fun h => absurd rfl h)
  refine CallK.mk _ (height_ok lat lon lo hi u x y z s hs) rfl ?_
  refine CallK.mk _ (heightOf_ok lat lon lo hi u x y z s hs) rfl ?_
  refine OptK.mk _ (eqBf _) ?_
  ((repeat' first | refine DecK.tt ?_ | refine DecK.ff ?_ | refine DecK.beq (fun _ => ?_) (fun _ => ?_) | refine DecK.bne (fun _ => ?_) (fun _ => ?_) | refine DecK.dec (fun _ => ?_) (fun _ => ?_) | refine OptK.mk _ rfl ?_ | refine endV (by rfl) ?_) <;> (try with_reducible rfl))
end Go.Proofs.YtciigfeecmnghaaRRRRGreatRR.Sv
