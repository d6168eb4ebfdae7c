/- Alerts: their names and texts. No condition. -/
import Derived.Test.YtljcbmnkjiogmaaDoorSa
import Derived.Lib.ItoaLen
import Derived.Test.YtljcbmnkjiogmaaDoorAl
namespace Go.Proofs.YtljcbmnkjiogmaaDoor.Sv
open Go Go.RowKit
set_option linter.unusedVariables false
set_option linter.unusedSimpArgs false
set_option maxRecDepth 100000
/-- spyglass/alert.Names -/
def F46 : Fn1 := ⟨2, .seq (.reg [⟨some 0, none, .mv, [.cn (.sl 0 [] true)]⟩] []) (.seq (.reg [⟨some 1, none, .po (.bsl 6 [.s (⟨⟨[]⟩⟩ : ByteArray)] [(0, 1), (1, 1), (2, 1), (3, 1), (4, 1), (5, 1)]), [.cn (.s (⟨⟨[97, 112, 112, 101, 97, 114, 101, 100]⟩⟩ : ByteArray)), .cn (.s (⟨⟨[98, 114, 105, 103, 104, 116, 101, 110, 101, 100]⟩⟩ : ByteArray)), .cn (.s (⟨⟨[102, 97, 100, 101, 100]⟩⟩ : ByteArray)), .cn (.s (⟨⟨[109, 111, 118, 101, 100]⟩⟩ : ByteArray)), .cn (.s (⟨⟨[118, 97, 110, 105, 115, 104, 101, 100]⟩⟩ : ByteArray)), .cn (.s (⟨⟨[114, 101, 116, 114, 97, 99, 116, 101, 100]⟩⟩ : ByteArray))]⟩, ⟨some 0, none, .mv, [.tm 1]⟩] [0]) .ret), [.tm 0]⟩
theorem of46 : Fn1.of Tryd.prog 46 ⟨false, [], false⟩ [[], [0]] = some F46 := by kernel_rfl
/-- spyglass/alert.text(spyglass/api.Tick) -/
def F47 : Fn1 := ⟨13, .seq (.reg [⟨some 1, none, .box, [.tm 0]⟩, ⟨some 2, none, .mv, [.cn (.s (⟨⟨[]⟩⟩ : ByteArray))]⟩] [1]) (.seq (.seq (.reg [⟨some 3, none, .fa 2, [.tm 1]⟩, ⟨some 4, none, .ld false 1 false, [.tm 3]⟩] [1, 4]) (.cond (.tm 4) (.seq (.reg [⟨some 2, none, .mv, [.cn (.s (⟨⟨[63]⟩⟩ : ByteArray))]⟩] [2]) .ret) .skip)) (.seq (.dreg [⟨some 5, none, .fa 0, [.tm 1]⟩, ⟨some 6, none, .ld false 1 false, [.tm 5]⟩, ⟨some 7, none, .call 63, [.tm 6, .cn (.n .i64 10)]⟩, ⟨some 8, none, .po (.bin .add), [.tm 7, .cn (.s (⟨⟨[46, 46]⟩⟩ : ByteArray))]⟩, ⟨some 9, none, .fa 1, [.tm 1]⟩, ⟨some 10, none, .ld false 1 false, [.tm 9]⟩, ⟨some 11, none, .call 63, [.tm 10, .cn (.n .i64 10)]⟩, ⟨some 12, none, .po (.bin .add), [.tm 8, .tm 11]⟩, ⟨some 2, none, .mv, [.tm 12]⟩] [] [2]) .ret)), [.tm 2]⟩
theorem of47 : Fn1.of Tryd.prog 47 ⟨false, [], false⟩ [[1], [1, 4], [2], [2]] = some F47 := by kernel_rfl
/-- spyglass/alert.text(spyglass/api.Arc) -/
def F48 : Fn1 := ⟨13, .seq (.reg [⟨some 1, none, .box, [.tm 0]⟩, ⟨some 2, none, .mv, [.cn (.s (⟨⟨[]⟩⟩ : ByteArray))]⟩] [1]) (.seq (.seq (.reg [⟨some 3, none, .fa 2, [.tm 1]⟩, ⟨some 4, none, .ld false 1 false, [.tm 3]⟩] [1, 4]) (.cond (.tm 4) (.seq (.reg [⟨some 2, none, .mv, [.cn (.s (⟨⟨[63]⟩⟩ : ByteArray))]⟩] [2]) .ret) .skip)) (.seq (.dreg [⟨some 5, none, .fa 0, [.tm 1]⟩, ⟨some 6, none, .ld false 1 false, [.tm 5]⟩, ⟨some 7, none, .call 63, [.tm 6, .cn (.n .i64 10)]⟩, ⟨some 8, none, .po (.bin .add), [.tm 7, .cn (.s (⟨⟨[46, 46]⟩⟩ : ByteArray))]⟩, ⟨some 9, none, .fa 1, [.tm 1]⟩, ⟨some 10, none, .ld false 1 false, [.tm 9]⟩, ⟨some 11, none, .call 63, [.tm 10, .cn (.n .i64 10)]⟩, ⟨some 12, none, .po (.bin .add), [.tm 8, .tm 11]⟩, ⟨some 2, none, .mv, [.tm 12]⟩] [] [2]) .ret)), [.tm 2]⟩
theorem of48 : Fn1.of Tryd.prog 48 ⟨false, [], false⟩ [[1], [1, 4], [2], [2]] = some F48 := by kernel_rfl
/-- spyglass/alert.text(spyglass/api.Quanta) -/
def F49 : Fn1 := ⟨13, .seq (.reg [⟨some 1, none, .box, [.tm 0]⟩, ⟨some 2, none, .mv, [.cn (.s (⟨⟨[]⟩⟩ : ByteArray))]⟩] [1]) (.seq (.seq (.reg [⟨some 3, none, .fa 2, [.tm 1]⟩, ⟨some 4, none, .ld false 1 false, [.tm 3]⟩] [1, 4]) (.cond (.tm 4) (.seq (.reg [⟨some 2, none, .mv, [.cn (.s (⟨⟨[63]⟩⟩ : ByteArray))]⟩] [2]) .ret) .skip)) (.seq (.dreg [⟨some 5, none, .fa 0, [.tm 1]⟩, ⟨some 6, none, .ld false 1 false, [.tm 5]⟩, ⟨some 7, none, .call 63, [.tm 6, .cn (.n .i64 10)]⟩, ⟨some 8, none, .po (.bin .add), [.tm 7, .cn (.s (⟨⟨[46, 46]⟩⟩ : ByteArray))]⟩, ⟨some 9, none, .fa 1, [.tm 1]⟩, ⟨some 10, none, .ld false 1 false, [.tm 9]⟩, ⟨some 11, none, .call 63, [.tm 10, .cn (.n .i64 10)]⟩, ⟨some 12, none, .po (.bin .add), [.tm 8, .tm 11]⟩, ⟨some 2, none, .mv, [.tm 12]⟩] [] [2]) .ret)), [.tm 2]⟩
theorem of49 : Fn1.of Tryd.prog 49 ⟨false, [], false⟩ [[1], [1, 4], [2], [2]] = some F49 := by kernel_rfl
/-- live: [3, 6, 7, 8, 16] -/
def L7_0 : SC := .seq (.reg [⟨some 17, none, .po (.bin .lss), [.tm 16, .cn (.n .i64 8)]⟩] [3, 6, 7, 8, 16, 17]) (.seq (.cond (.tm 17) .skip (.exit 2)) (.seq (.block 3 (.seq (.reg [⟨some 18, none, .mv, [.tm 3]⟩, ⟨some 19, none, .po (.bin .and), [.tm 18, .cn (.n .u32 1)]⟩, ⟨some 20, none, .po (.bin .eql), [.tm 19, .cn (.n .u32 1)]⟩] [3, 6, 7, 8, 16, 20]) (.cond (.tm 20) (.reg [⟨some 21, none, .mv, [.tm 3]⟩, ⟨some 22, none, .po (.bin .shr), [.tm 21, .cn (.n .u64 1)]⟩, ⟨some 23, none, .po (.bin .xor), [.tm 22, .cn (.n .u32 3988292384)]⟩, ⟨some 3, none, .mv, [.tm 23]⟩] [3, 6, 7, 8, 16]) (.reg [⟨some 24, none, .mv, [.tm 3]⟩, ⟨some 25, none, .po (.bin .shr), [.tm 24, .cn (.n .u64 1)]⟩, ⟨some 3, none, .mv, [.tm 25]⟩] [3, 6, 7, 8, 16])))) (.reg [⟨some 26, none, .po (.bin .add), [.tm 16, .cn (.n .i64 1)]⟩, ⟨some 16, none, .mv, [.tm 26]⟩] [3, 6, 7, 8, 16])))
/-- live: [3, 6, 7, 8] -/
def L7_1 : SC := .seq (.reg [⟨some 9, none, .po (.bin .lss), [.tm 8, .tm 7]⟩] [3, 6, 7, 8, 9]) (.seq (.cond (.tm 9) .skip (.exit 0)) (.seq (.block 1 (.seq (.reg [⟨some 10, none, .ia none 1, [.tm 6, .tm 8]⟩, ⟨some 11, none, .ld false 1 true, [.tm 10]⟩, ⟨some 5, none, .mv, [.tm 11]⟩] [3, 5, 6, 7, 8]) (.seq (.reg [⟨some 12, none, .mv, [.tm 3]⟩, ⟨some 13, none, .mv, [.tm 5]⟩, ⟨some 14, none, .po (.toInt .u32), [.tm 13]⟩, ⟨some 15, none, .po (.bin .xor), [.tm 12, .tm 14]⟩, ⟨some 3, none, .mv, [.tm 15]⟩] [3, 6, 7, 8]) (.seq (.reg [⟨some 16, none, .mv, [.cn (.n .i64 0)]⟩] [3, 6, 7, 8, 16]) (.block 2 (.loop [3, 6, 7, 8, 16] L7_0)))))) (.reg [⟨some 27, none, .po (.bin .add), [.tm 8, .cn (.n .i64 1)]⟩, ⟨some 8, none, .mv, [.tm 27]⟩] [3, 6, 7, 8])))
/-- spyglass/alert.Sum -/
def F7 : Fn1 := ⟨30, .seq (.reg [⟨some 2, none, .mv, [.cn (.n .u32 0)]⟩] [0]) (.seq (.reg [⟨some 3, none, .mv, [.cn (.n .u32 4294967295)]⟩] [0, 3]) (.seq (.seq (.reg [⟨some 6, none, .mv, [.tm 0]⟩, ⟨some 7, none, .len false, [.tm 6]⟩, ⟨some 8, none, .mv, [.cn (.n .i64 0)]⟩] [3, 6, 7, 8]) (.block 0 (.loop [3, 6, 7, 8] L7_1))) (.seq (.reg [⟨some 28, none, .mv, [.tm 3]⟩, ⟨some 29, none, .po (.un .xor), [.tm 28]⟩, ⟨some 2, none, .mv, [.tm 29]⟩] [2]) .ret))), [.tm 2]⟩
theorem of7 : Fn1.of Tryd.prog 7 ⟨false, [], false⟩ [[0], [0, 3], [3, 6, 7, 8], [3, 6, 7, 8], [3, 6, 7, 8, 9], [3, 5, 6, 7, 8], [3, 6, 7, 8], [3, 6, 7, 8, 16], [3, 6, 7, 8, 16], [3, 6, 7, 8, 16, 17], [3, 6, 7, 8, 16, 20], [3, 6, 7, 8, 16], [3, 6, 7, 8, 16], [3, 6, 7, 8, 16], [3, 6, 7, 8], [2]] = some F7 := by kernel_rfl
/-- spyglass/alert.Text -/
def F23 : Fn1 := ⟨50, .seq (.reg [⟨some 1, none, .box, [.tm 0]⟩, ⟨some 2, none, .mv, [.cn (.s (⟨⟨[]⟩⟩ : ByteArray))]⟩, ⟨some 3, none, .mv, [.cn (.n .i64 0)]⟩] [1]) (.seq (.seq (.reg [⟨some 6, none, .ld true 16 false, [.tm 1]⟩, ⟨some 7, none, .call 17, [.tm 6]⟩, ⟨some 4, none, .mv, [.tm 7]⟩] [1, 4]) (.seq (.reg [⟨some 8, none, .mv, [.tm 4]⟩, ⟨some 9, none, .po (.bin .neq), [.tm 8, .cn (.n .i64 0)]⟩] [1, 4, 9]) (.cond (.tm 9) (.seq (.reg [⟨some 10, none, .mv, [.tm 4]⟩, ⟨some 2, none, .mv, [.cn (.s (⟨⟨[]⟩⟩ : ByteArray))]⟩, ⟨some 3, none, .mv, [.tm 10]⟩] [2, 3]) .ret) .skip))) (.seq (.dreg [⟨some 11, none, .fa 0, [.tm 1]⟩, ⟨some 12, none, .ld false 1 false, [.tm 11]⟩, ⟨some 13, none, .call 45, [.tm 12]⟩, ⟨some 14, none, .call 46, []⟩, ⟨some 15, none, .fa 1, [.tm 1]⟩, ⟨some 16, none, .ld false 1 false, [.tm 15]⟩, ⟨some 17, none, .po (.bin .sub), [.tm 16, .cn (.n .i64 1)]⟩, ⟨some 18, none, .ia none 1, [.tm 14, .tm 17]⟩, ⟨some 19, none, .ld false 1 true, [.tm 18]⟩, ⟨some 20, none, .fa 3, [.tm 1]⟩, ⟨some 21, none, .ld true 3 false, [.tm 20]⟩, ⟨some 22, none, .call 47, [.tm 21]⟩, ⟨some 23, none, .po (.bsl 5 [.s (⟨⟨[]⟩⟩ : ByteArray)] [(0, 1), (1, 1), (2, 1), (3, 1), (4, 1)]), [.cn (.s (⟨⟨[97, 108, 101, 114, 116]⟩⟩ : ByteArray)), .tm 13, .tm 19, .cn (.s (⟨⟨[97, 116]⟩⟩ : ByteArray)), .tm 22]⟩, ⟨some 5, none, .mv, [.tm 23]⟩] [] [1, 5]) (.seq (.seq (.reg [⟨some 24, none, .fa 1, [.tm 1]⟩, ⟨some 25, none, .ld false 1 false, [.tm 24]⟩, ⟨some 26, none, .po (.bin .eql), [.tm 25, .cn (.n .i64 6)]⟩] [1, 5, 26]) (.cond (.tm 26) (.reg [⟨some 27, none, .mv, [.tm 5]⟩, ⟨some 28, none, .fa 15, [.tm 1]⟩, ⟨some 29, none, .ld false 1 false, [.tm 28]⟩, ⟨some 30, none, .call 45, [.tm 29]⟩, ⟨some 31, none, .po (.bsl 2 [.s (⟨⟨[]⟩⟩ : ByteArray)] [(0, 1), (1, 1)]), [.cn (.s (⟨⟨[111, 102]⟩⟩ : ByteArray)), .tm 30]⟩, ⟨some 32, none, .app 1 16, [.tm 27, .tm 31]⟩, ⟨some 5, none, .mv, [.tm 32]⟩] [5]) (.dreg [⟨some 33, none, .mv, [.tm 5]⟩, ⟨some 34, none, .fa 2, [.tm 1]⟩, ⟨some 35, none, .ld false 1 false, [.tm 34]⟩, ⟨some 36, none, .call 45, [.tm 35]⟩, ⟨some 37, none, .fa 6, [.tm 1]⟩, ⟨some 38, none, .ld true 3 false, [.tm 37]⟩, ⟨some 39, none, .call 48, [.tm 38]⟩, ⟨some 40, none, .fa 9, [.tm 1]⟩, ⟨some 41, none, .ld true 3 false, [.tm 40]⟩, ⟨some 42, none, .call 48, [.tm 41]⟩, ⟨some 43, none, .fa 12, [.tm 1]⟩, ⟨some 44, none, .ld true 3 false, [.tm 43]⟩, ⟨some 45, none, .call 49, [.tm 44]⟩, ⟨some 46, none, .po (.bsl 8 [.s (⟨⟨[]⟩⟩ : ByteArray)] [(0, 1), (1, 1), (2, 1), (3, 1), (4, 1), (5, 1), (6, 1), (7, 1)]), [.cn (.s (⟨⟨[111, 98, 106, 101, 99, 116]⟩⟩ : ByteArray)), .tm 36, .cn (.s (⟨⟨[114, 97]⟩⟩ : ByteArray)), .tm 39, .cn (.s (⟨⟨[100, 101, 99]⟩⟩ : ByteArray)), .tm 42, .cn (.s (⟨⟨[102, 108, 117, 120]⟩⟩ : ByteArray)), .tm 45]⟩, ⟨some 47, none, .appv 1 16, [.tm 33, .tm 46]⟩, ⟨some 5, none, .mv, [.tm 47]⟩] [] [5]))) (.seq (.reg [⟨some 48, none, .mv, [.tm 5]⟩, ⟨some 49, none, .call 50, [.tm 48, .cn (.s (⟨⟨[32]⟩⟩ : ByteArray))]⟩, ⟨some 2, none, .mv, [.tm 49]⟩, ⟨some 3, none, .mv, [.cn (.n .i64 0)]⟩] [2, 3]) .ret)))), [.tm 2, .tm 3]⟩
theorem of23 : Fn1.of Tryd.prog 23 ⟨true, [], false⟩ [[1], [1, 4], [1, 4, 9], [2, 3], [1, 5], [1, 5, 26], [5], [5], [2, 3]] = some F23 := by kernel_rfl
theorem at_exS {α : Type} {l : List α} {k : Nat} (h : k < l.length) : ∃ x, l[k]? = some x := ⟨l[k], List.getElem?_eq_getElem h⟩
theorem rldS {objs : List (Nat × List V)} {l : List ByteArray} {i : Nat} {x : ByteArray} (h : l[i]? = some x) : SO.rdx objs (.ld false 1 true) [.v (.ip (List.drop (i * 1) (l.map V.s)))] = some (.v (.s x)) := by
  rw [show l.map V.s = l.flatMap fun x => [V.s x] from List.map_eq_flatMap]
  exact rld1 (g := fun x => .s x) h
theorem addS {objs : List (Nat × List V)} (a b : List UInt8) (h : a.length + b.length ≤ 1000000) : (SO.po (.bin .add)).rdx objs [.v (strB a), .v (strB b)] = some (.v (strB (a ++ b))) := by
  have e : (⟨a.toArray⟩ : ByteArray) ++ ⟨b.toArray⟩ = ⟨(a ++ b).toArray⟩ := by
    refine ByteArray.ext ?_
    simp [ByteArray.data_append]
  have h1 : (⟨a.toArray⟩ : ByteArray).size = a.length := by simp [ByteArray.size]
  have h2 : (⟨b.toArray⟩ : ByteArray).size = b.length := by simp [ByteArray.size]
  simp only [SO.rdx, SO.rd, allV, Option.map_some, Option.bind_some, PO.run, binL, binV, binS, h1, h2, e]
  rw [if_neg (by show ¬ _ > (9223372036854775807 : Int); omega)]
  rfl
theorem beqS (x y : ByteArray) : (x.toList == y.toList) = decide (x = y) := by
  rw [ByteArray.toList_eq, ByteArray.toList_eq]
  by_cases h : x = y
  · subst h; simp
  · rw [decide_eq_false h]
    simpa using fun e => h (ByteArray.ext (Array.ext' e))
theorem rldB {objs : List (Nat × List V)} {l : List UInt8} {i : Nat} {x : UInt8} (h : l[i]? = some x) : SO.rdx objs (.ld false 1 true) [.v (.ip (List.drop (i * 1) (bytesV l)))] = some (.v (.n .u8 ((x.toNat : Nat) : Int))) := by
  rw [show bytesV l = l.flatMap fun x => [V.n .u8 ((x.toNat : Nat) : Int)] from List.map_eq_flatMap]
  exact rld1 (g := fun x => .n .u8 ((x.toNat : Nat) : Int)) h
def txB (lo hi : Int) (u : Bool) : List UInt8 := if u then [63] else Lib.itoa lo ++ ([46, 46] ++ Lib.itoa hi)
theorem textTick (lo hi : Int) (u : Bool) (h1 : -9223372036854775808 ≤ lo ∧ lo ≤ 9223372036854775807) (h2 : -9223372036854775808 ≤ hi ∧ hi ≤ 9223372036854775807) : Pure Tryd.prog 47 [bdV lo hi u] (strB (txB lo hi u)) := by
  refine pure_of_wp of47 (Nat.le_of_ble_eq_true rfl) ?_
  cases u
  · refine DecK.ff ?_
    refine CallK.mk _ (FormatInt_ok lo h1) rfl ?_
    have k1 := Lib.itoa_length_le lo h1.1 h1.2
    have k2 := Lib.itoa_length_le hi h2.1 h2.2
    refine OptK.mk _ (addS (Lib.itoa lo) [46, 46] (by simp; omega)) ?_
    refine CallK.mk _ (FormatInt_ok hi h2) rfl ?_
    refine OptK.mk _ (addS (Lib.itoa lo ++ [46, 46]) (Lib.itoa hi) (by simp; omega)) ?_
    refine endV rfl ?_
    rw [txB, if_neg (by decide), List.append_assoc]
  · refine DecK.tt ?_
    rfl
theorem textArc (lo hi : Int) (u : Bool) (h1 : -9223372036854775808 ≤ lo ∧ lo ≤ 9223372036854775807) (h2 : -9223372036854775808 ≤ hi ∧ hi ≤ 9223372036854775807) : Pure Tryd.prog 48 [bdV lo hi u] (strB (txB lo hi u)) := by
  refine pure_of_wp of48 (Nat.le_of_ble_eq_true rfl) ?_
  cases u
  · refine DecK.ff ?_
    refine CallK.mk _ (FormatInt_ok lo h1) rfl ?_
    have k1 := Lib.itoa_length_le lo h1.1 h1.2
    have k2 := Lib.itoa_length_le hi h2.1 h2.2
    refine OptK.mk _ (addS (Lib.itoa lo) [46, 46] (by simp; omega)) ?_
    refine CallK.mk _ (FormatInt_ok hi h2) rfl ?_
    refine OptK.mk _ (addS (Lib.itoa lo ++ [46, 46]) (Lib.itoa hi) (by simp; omega)) ?_
    refine endV rfl ?_
    rw [txB, if_neg (by decide), List.append_assoc]
  · refine DecK.tt ?_
    rfl
theorem textQuanta (lo hi : Int) (u : Bool) (h1 : -9223372036854775808 ≤ lo ∧ lo ≤ 9223372036854775807) (h2 : -9223372036854775808 ≤ hi ∧ hi ≤ 9223372036854775807) : Pure Tryd.prog 49 [bdV lo hi u] (strB (txB lo hi u)) := by
  refine pure_of_wp of49 (Nat.le_of_ble_eq_true rfl) ?_
  cases u
  · refine DecK.ff ?_
    refine CallK.mk _ (FormatInt_ok lo h1) rfl ?_
    have k1 := Lib.itoa_length_le lo h1.1 h1.2
    have k2 := Lib.itoa_length_le hi h2.1 h2.2
    refine OptK.mk _ (addS (Lib.itoa lo) [46, 46] (by simp; omega)) ?_
    refine CallK.mk _ (FormatInt_ok hi h2) rfl ?_
    refine OptK.mk _ (addS (Lib.itoa lo ++ [46, 46]) (Lib.itoa hi) (by simp; omega)) ?_
    refine endV rfl ?_
    rw [txB, if_neg (by decide), List.append_assoc]
  · refine DecK.tt ?_
    rfl
def namesL : List ByteArray := [⟨#[97, 112, 112, 101, 97, 114, 101, 100]⟩, ⟨#[98, 114, 105, 103, 104, 116, 101, 110, 101, 100]⟩, ⟨#[102, 97, 100, 101, 100]⟩, ⟨#[109, 111, 118, 101, 100]⟩, ⟨#[118, 97, 110, 105, 115, 104, 101, 100]⟩, ⟨#[114, 101, 116, 114, 97, 99, 116, 101, 100]⟩]
theorem names_ok : Pure Tryd.prog 46 [] (strsV namesL true) := by
  refine pure_of_wp of46 (Nat.le_of_ble_eq_true rfl) ?_
  rfl
theorem u32_and1 {c : Nat} (h : c < 4294967296) : IntKind.u32.wrap ((BitVec.ofInt IntKind.u32.bits (c : Int) &&& BitVec.ofInt IntKind.u32.bits 1).toNat : Nat) = ((c % 2 : Nat) : Int) := by
  have e : (BitVec.ofInt IntKind.u32.bits (c : Int) &&& BitVec.ofInt IntKind.u32.bits 1).toNat = c % 2 := by
    show (BitVec.ofInt 32 (c : Int) &&& BitVec.ofInt 32 ((1 : Nat) : Int)).toNat = _
    rw [BitVec.toNat_and, BitVec.ofInt_natCast, BitVec.ofInt_natCast, BitVec.toNat_ofNat, BitVec.toNat_ofNat, Nat.mod_eq_of_lt h, Nat.mod_eq_of_lt (by omega), Nat.and_one_is_mod]
  rw [e]
  simp (discharger := omega) only [w64, wu64, wu8, w32, wu32, tdivC, tmodC]
theorem u32_xor {a b : Nat} (ha : a < 4294967296) (hb : b < 4294967296) : IntKind.u32.wrap ((BitVec.ofInt IntKind.u32.bits (a : Int) ^^^ BitVec.ofInt IntKind.u32.bits (b : Int)).toNat : Nat) = ((a ^^^ b : Nat) : Int) := by
  have e : (BitVec.ofInt IntKind.u32.bits (a : Int) ^^^ BitVec.ofInt IntKind.u32.bits (b : Int)).toNat = a ^^^ b := by
    show (BitVec.ofInt 32 (a : Int) ^^^ BitVec.ofInt 32 (b : Int)).toNat = _
    rw [BitVec.toNat_xor, BitVec.ofInt_natCast, BitVec.ofInt_natCast, BitVec.toNat_ofNat, BitVec.toNat_ofNat, Nat.mod_eq_of_lt ha, Nat.mod_eq_of_lt hb]
  rw [e]
  have := Nat.xor_lt_two_pow (n := 32) ha hb
  simp (discharger := omega) only [w64, wu64, wu8, w32, wu32, tdivC, tmodC]
def bitN (c : Nat) : Nat := if c % 2 = 1 then (c / 2) ^^^ 3988292384 else c / 2
def bitsN : Nat → Nat → Nat
  | 0, c => c
  | n + 1, c => bitsN n (bitN c)
def crcN : List UInt8 → Nat → Nat
  | [], c => c
  | b :: l, c => crcN l (bitsN 8 (c ^^^ b.toNat))
theorem bitN_lt {c : Nat} (h : c < 4294967296) : bitN c < 4294967296 := by
  unfold bitN
  split
  · exact Nat.xor_lt_two_pow (n := 32) (by omega) (by decide)
  · omega
theorem bitsN_lt : ∀ {n c : Nat}, c < 4294967296 → bitsN n c < 4294967296
  | 0, _, h => h
  | n + 1, _, h => bitsN_lt (n := n) (bitN_lt h)
theorem crcSum_ok (l : List UInt8) (t : Bool) (hl : l.length ≤ 1000000) : Pure Tryd.prog 7 [.sl l.length (bytesV l) t] (.n .u32 ((4294967295 ^^^ crcN l 4294967295 : Nat) : Int)) := by
  refine pure_of_wp of7 (Nat.le_of_ble_eq_true rfl) ?_
  refine loop_ind2 (fun (c : Nat) (i : Nat) => ⟨[(3, .v (.n .u32 c)), (6, .v (.sl l.length (bytesV l) t)), (7, .v (.n .i64 l.length)), (8, .v (.n .i64 i))], []⟩) (fun c i => l.length - i)
    (fun c i => c < 4294967296 ∧ i ≤ l.length ∧ crcN (l.drop i) c = crcN l 4294967295) 4294967295 0 (by simp) ?_
  intro c i ⟨h1, h2, h3⟩ ih
  refine DecK.dec (fun h => ?_) (fun h => ?_)
  · have hi : i < l.length := by omega
    have hx : l[i]? = some l[i] := List.getElem?_eq_getElem hi
    rw [List.drop_eq_getElem_cons hi, crcN] at h3
    generalize l[i] = x at h3 hx
    have hxb : x.toNat < 256 := x.toNat_lt
    refine OptK.mk _ (ria i rfl (by omega)) ?_
    refine OptK.mk _ (rldB hx) ?_
    have w1 : IntKind.u32.wrap ((x.toNat : Nat) : Int) = ((x.toNat : Nat) : Int) := by simp (discharger := omega) only [w64, wu64, wu8, w32, wu32, tdivC, tmodC]
    have w2 := u32_xor (a := c) (b := x.toNat) h1 (by omega)
    have w3 := Nat.xor_lt_two_pow (n := 32) (x := c) (y := x.toNat) h1 (by omega)
    have wi : IntKind.i64.wrap ((i : Int) + 1) = ((i + 1 : Nat) : Int) := by simp (discharger := omega) only [w64, wu64, wu8, w32, wu32, tdivC, tmodC]; omega
    refine loop_eq (st' := ⟨[(3, .v (.n .u32 ((c ^^^ x.toNat : Nat) : Int))), (6, .v (.sl l.length (bytesV l) t)), (7, .v (.n .i64 l.length)), (8, .v (.n .i64 i)), (16, .v (.n .i64 ((0 : Nat) : Int)))], []⟩) (by rw [w1, w2]; rfl) ?_
    refine loop_ind2 (fun (c' : Nat) (k : Nat) => ⟨[(3, .v (.n .u32 c')), (6, .v (.sl l.length (bytesV l) t)), (7, .v (.n .i64 l.length)), (8, .v (.n .i64 i)), (16, .v (.n .i64 k))], []⟩) (fun c' k => 8 - k)
      (fun c' k => c' < 4294967296 ∧ k ≤ 8 ∧ bitsN (8 - k) c' = bitsN 8 (c ^^^ x.toNat)) (c ^^^ x.toNat) 0 ⟨w3, by omega, rfl⟩ ?_
    intro d k ⟨g1, g2, g3⟩ ih'
    refine DecK.dec (fun g => ?_) (fun g => ?_)
    · obtain ⟨m, hm⟩ : ∃ m, 8 - k = m + 1 := ⟨7 - k, by omega⟩
      rw [hm, bitsN] at g3
      have wk : IntKind.i64.wrap ((k : Int) + 1) = ((k + 1 : Nat) : Int) := by simp (discharger := omega) only [w64, wu64, wu8, w32, wu32, tdivC, tmodC]; omega
      have a1 := u32_and1 g1
      refine DecK.beq (fun e => ?_) (fun e => ?_)
      · rw [a1] at e
        have e : d % 2 = 1 := by omega
        have hs : (d : Int).fdiv (2 ^ min (Int.toNat 1) IntKind.u32.bits) = ((d / 2 : Nat) : Int) := by
          show (d : Int).fdiv 2 = _
          rw [Int.fdiv_eq_ediv_of_nonneg _ (by decide)]
          omega
        have a2 := u32_xor (a := d / 2) (b := 3988292384) (by omega) (by decide)
        refine loop_eq (st' := ⟨[(3, .v (.n .u32 ((bitN d : Nat) : Int))), (6, .v (.sl l.length (bytesV l) t)), (7, .v (.n .i64 l.length)), (8, .v (.n .i64 i)), (16, .v (.n .i64 ((k + 1 : Nat) : Int)))], []⟩) ?_ (ih' (bitN d) (k + 1) ⟨bitN_lt g1, by omega, ?_⟩ (by omega))
        · rw [hs, wk, bitN, if_pos e]
          rw [← a2]
          rfl
        · rw [show 8 - (k + 1) = m by omega]; exact g3
      · rw [a1] at e
        have e : ¬ d % 2 = 1 := by omega
        have hs : (d : Int).fdiv (2 ^ min (Int.toNat 1) IntKind.u32.bits) = ((d / 2 : Nat) : Int) := by
          show (d : Int).fdiv 2 = _
          rw [Int.fdiv_eq_ediv_of_nonneg _ (by decide)]
          omega
        refine loop_eq (st' := ⟨[(3, .v (.n .u32 ((bitN d : Nat) : Int))), (6, .v (.sl l.length (bytesV l) t)), (7, .v (.n .i64 l.length)), (8, .v (.n .i64 i)), (16, .v (.n .i64 ((k + 1 : Nat) : Int)))], []⟩) ?_ (ih' (bitN d) (k + 1) ⟨bitN_lt g1, by omega, ?_⟩ (by omega))
        · rw [hs, wk, bitN, if_neg e]
        · rw [show 8 - (k + 1) = m by omega]; exact g3
    · have hk : 8 - k = 0 := by omega
      rw [hk, bitsN] at g3
      refine loop_eq (st' := ⟨[(3, .v (.n .u32 d)), (6, .v (.sl l.length (bytesV l) t)), (7, .v (.n .i64 l.length)), (8, .v (.n .i64 ((i + 1 : Nat) : Int)))], []⟩) (by rw [wi]) (ih d (i + 1) ⟨g1, by omega, by rw [g3]; exact h3⟩ (by omega))
  · refine endV rfl ?_
    have := u32_xor (a := 4294967295) (b := c) (by decide) h1
    rw [List.drop_eq_nil_of_le (by omega), crcN] at h3
    rw [← h3]
    exact congrArg (V.n IntKind.u32) this
/-- The words of an alert. -/
def alWords (i k o t0 t1 : Int) (tu : Bool) (r0 r1 : Int) (ru : Bool) (d0 d1 : Int) (du : Bool) (q0 q1 : Int) (qu : Bool) (f : Int) : List ByteArray :=
  [⟨#[97, 108, 101, 114, 116]⟩, ⟨(Lib.itoa i).toArray⟩, namesL.getD (k - 1).toNat ByteArray.empty, ⟨#[97, 116]⟩, ⟨(txB t0 t1 tu).toArray⟩] ++
    if k = 6 then [⟨#[111, 102]⟩, ⟨(Lib.itoa f).toArray⟩] else
    [⟨#[111, 98, 106, 101, 99, 116]⟩, ⟨(Lib.itoa o).toArray⟩, ⟨#[114, 97]⟩, ⟨(txB r0 r1 ru).toArray⟩, ⟨#[100, 101, 99]⟩, ⟨(txB d0 d1 du).toArray⟩, ⟨#[102, 108, 117, 120]⟩, ⟨(txB q0 q1 qu).toArray⟩]
theorem alErr_0 {i k o t0 t1 : Int} {tu : Bool} {r0 r1 : Int} {ru : Bool} {d0 d1 : Int} {du : Bool} {q0 q1 : Int} {qu : Bool} {f : Int} (h : alErr i k o t0 t1 tu r0 r1 ru d0 d1 du q0 q1 qu f = 0) :
    (1 ≤ i ∧ i ≤ 2147483647 ∧ 0 ≤ o ∧ o ≤ 2147483647 ∧ 0 ≤ f ∧ f ≤ 2147483647) ∧ (1 ≤ k ∧ k ≤ 6) ∧ bErr t0 t1 tu = 0 ∧ bErr r0 r1 ru = 0 ∧ bErr d0 d1 du = 0 ∧ bErr q0 q1 qu = 0 := by
  unfold alErr at h
  split at h
  · omega
  split at h
  · omega
  split at h
  · rename_i h3
    exact absurd h h3
  rename_i h1 h2 h3
  have h3 : or0 [bErr t0 t1 tu, bErr r0 r1 ru, bErr d0 d1 du, bErr q0 q1 qu] = 0 := by
    rcases Int.decEq (or0 [bErr t0 t1 tu, bErr r0 r1 ru, bErr d0 d1 du, bErr q0 q1 qu]) 0 with g | g
    · exact absurd g h3
    · exact g
  exact ⟨by omega, by omega, or0_4 h3⟩
theorem appS {objs : List (Nat × List V)} (l l' : List ByteArray) (t : Bool) (h : l.length + l'.length ≤ 1000) (h0 : l ≠ []) :
    (SO.app 1 16).rdx objs [.v (.sl l.length (l.map V.s) true), .v (.sl l'.length (l'.map V.s) t)] = some (.v (.sl (l ++ l').length ((l ++ l').map V.s) false)) := by
  rw [show l.map V.s = l.flatMap fun x => [V.s x] from List.map_eq_flatMap, show l'.map V.s = l'.flatMap fun x => [V.s x] from List.map_eq_flatMap, show (l ++ l').map V.s = (l ++ l').flatMap fun x => [V.s x] from List.map_eq_flatMap]
  exact row_appv (f := fun x => [V.s x]) (fun _ => rfl) (by omega) (by decide)
theorem appSv {objs : List (Nat × List V)} (l l' : List ByteArray) (t : Bool) (h : l.length + l'.length ≤ 1000) (h0 : l ≠ []) :
    (SO.appv 1 16).rdx objs [.v (.sl l.length (l.map V.s) true), .v (.sl l'.length (l'.map V.s) t)] = some (.v (.sl (l ++ l').length ((l ++ l').map V.s) false)) := by
  rw [show l.map V.s = l.flatMap fun x => [V.s x] from List.map_eq_flatMap, show l'.map V.s = l'.flatMap fun x => [V.s x] from List.map_eq_flatMap, show (l ++ l').map V.s = (l ++ l').flatMap fun x => [V.s x] from List.map_eq_flatMap]
  exact row_appv (f := fun x => [V.s x]) (fun _ => rfl) (by omega) (by decide)
theorem txB_len (lo hi : Int) (u : Bool) (h1 : -9223372036854775808 ≤ lo ∧ lo ≤ 9223372036854775807) (h2 : -9223372036854775808 ≤ hi ∧ hi ≤ 9223372036854775807) : (txB lo hi u).length ≤ 50 := by
  unfold txB
  split
  · decide
  · have k1 := Lib.itoa_length_le lo h1.1 h1.2
    have k2 := Lib.itoa_length_le hi h2.1 h2.2
    simp
    omega
theorem names_len (n : Nat) : (namesL.getD n ByteArray.empty).data.toList.length ≤ 10 := by
  rcases n with _ | _ | _ | _ | _ | _ | n
  all_goals first | decide | exact Nat.zero_le _
theorem joinTail_len (sep : List UInt8) : ∀ l : List (List UInt8), (Lib.joinTail sep l).length ≤ (l.map List.length).sum + l.length * sep.length
  | [] => Nat.zero_le _
  | x :: l => by
    have := joinTail_len sep l
    simp only [Lib.joinTail, List.map_cons, List.flatten_cons, List.length_append, List.sum_cons, List.length_cons, Nat.succ_mul] at this ⊢
    omega
theorem join_len (sep x : List UInt8) (l : List (List UInt8)) : (Lib.join (x :: l) sep).length ≤ x.length + ((l.map List.length).sum + l.length * sep.length) := by
  rw [Lib.join_cons, List.length_append]
  have := joinTail_len sep l
  omega
theorem alText_ok (i k o t0 t1 : Int) (tu : Bool) (r0 r1 : Int) (ru : Bool) (d0 d1 : Int) (du : Bool) (q0 q1 : Int) (qu : Bool) (f : Int) :
    Pure Tryd.prog 23 [.agg (alC i k o t0 t1 tu r0 r1 ru d0 d1 du q0 q1 qu f)]
      (if alErr i k o t0 t1 tu r0 r1 ru d0 d1 du q0 q1 qu f = 0 then .tup [strB (Lib.join ((alWords i k o t0 t1 tu r0 r1 ru d0 d1 du q0 q1 qu f).map (·.data.toList)) [32]), .n .i64 0] else .tup [strB [], .n .i64 (alErr i k o t0 t1 tu r0 r1 ru d0 d1 du q0 q1 qu f)]) := by
  refine pure_of_wp of23 (Nat.le_of_ble_eq_true rfl) ?_
  refine CallK.mk _ (check_ok i k o t0 t1 tu r0 r1 ru d0 d1 du q0 q1 qu f) rfl ?_
  by_cases h : alErr i k o t0 t1 tu r0 r1 ru d0 d1 du q0 q1 qu f = 0
  case neg =>
    refine DecK.yes (bne_iff_ne.2 h) ?_
    refine endV rfl ?_
    rw [if_neg h]
  refine DecK.no (bne_eq_false_iff_eq.2 h) ?_
  rw [if_pos h]
  obtain ⟨⟨h1, h2, h3, h4, h5, h6⟩, ⟨h7, h8⟩, e1, e2, e3, e4⟩ := alErr_0 h
  have b1 := bErr_0 e1
  have b2 := bErr_0 e2
  have b3 := bErr_0 e3
  have b4 := bErr_0 e4
  refine CallK.mk _ (Itoa_ok i (by omega)) rfl ?_
  refine CallK.mk _ names_ok rfl ?_
  have wk : IntKind.i64.wrap (k - 1) = (((k - 1).toNat : Nat) : Int) := by rw [w64 (by omega)]; omega
  have hlt : (k - 1).toNat < namesL.length := by show (k - 1).toNat < 6; omega
  have hx : namesL[(k - 1).toNat]? = some (namesL.getD (k - 1).toNat ByteArray.empty) := by rw [List.getD_eq_getElem?_getD, List.getElem?_eq_getElem hlt]; rfl
  refine OptK.mk _ (ria (k - 1).toNat wk hlt) ?_
  refine OptK.mk _ (rldS hx) ?_
  refine CallK.mk _ (textTick t0 t1 tu (by omega) (by omega)) rfl ?_
  by_cases h9 : k = 6
  · refine DecK.yes (beq_iff_eq.2 h9) ?_
    refine CallK.mk _ (Itoa_ok f (by omega)) rfl ?_
    refine OptK.mk _ (appS [⟨#[97, 108, 101, 114, 116]⟩, ⟨(Lib.itoa i).toArray⟩, namesL.getD (k - 1).toNat ByteArray.empty, ⟨#[97, 116]⟩, ⟨(txB t0 t1 tu).toArray⟩] [⟨#[111, 102]⟩, ⟨(Lib.itoa f).toArray⟩] true (by simp) (by simp)) ?_
    have hw : alWords i k o t0 t1 tu r0 r1 ru d0 d1 du q0 q1 qu f = [⟨#[97, 108, 101, 114, 116]⟩, ⟨(Lib.itoa i).toArray⟩, namesL.getD (k - 1).toNat ByteArray.empty, ⟨#[97, 116]⟩, ⟨(txB t0 t1 tu).toArray⟩] ++ [⟨#[111, 102]⟩, ⟨(Lib.itoa f).toArray⟩] := by rw [alWords, if_pos h9]
    rw [hw]
    refine CallK.mk _ (strJoin_ok _ false ⟨#[32]⟩ (by simp) (by simp) ?_) rfl ?_
    · have k1 := txB_len t0 t1 tu (by omega) (by omega)
      have k2 := names_len (k - 1).toNat
      have k3 := Lib.itoa_length_le i (by omega) (by omega)
      have k4 := Lib.itoa_length_le f (by omega) (by omega)
      refine Nat.le_trans (join_len _ _ _) ?_
      simp
      simp at k2
      omega
    rfl
  · refine DecK.no (beq_eq_false_iff_ne.2 h9) ?_
    refine CallK.mk _ (Itoa_ok o (by omega)) rfl ?_
    refine CallK.mk _ (textArc r0 r1 ru (by omega) (by omega)) rfl ?_
    refine CallK.mk _ (textArc d0 d1 du (by omega) (by omega)) rfl ?_
    refine CallK.mk _ (textQuanta q0 q1 qu (by omega) (by omega)) rfl ?_
    refine OptK.mk _ (appSv [⟨#[97, 108, 101, 114, 116]⟩, ⟨(Lib.itoa i).toArray⟩, namesL.getD (k - 1).toNat ByteArray.empty, ⟨#[97, 116]⟩, ⟨(txB t0 t1 tu).toArray⟩] [⟨#[111, 98, 106, 101, 99, 116]⟩, ⟨(Lib.itoa o).toArray⟩, ⟨#[114, 97]⟩, ⟨(txB r0 r1 ru).toArray⟩, ⟨#[100, 101, 99]⟩, ⟨(txB d0 d1 du).toArray⟩, ⟨#[102, 108, 117, 120]⟩, ⟨(txB q0 q1 qu).toArray⟩] true (by simp) (by simp)) ?_
    have hw : alWords i k o t0 t1 tu r0 r1 ru d0 d1 du q0 q1 qu f = [⟨#[97, 108, 101, 114, 116]⟩, ⟨(Lib.itoa i).toArray⟩, namesL.getD (k - 1).toNat ByteArray.empty, ⟨#[97, 116]⟩, ⟨(txB t0 t1 tu).toArray⟩] ++ [⟨#[111, 98, 106, 101, 99, 116]⟩, ⟨(Lib.itoa o).toArray⟩, ⟨#[114, 97]⟩, ⟨(txB r0 r1 ru).toArray⟩, ⟨#[100, 101, 99]⟩, ⟨(txB d0 d1 du).toArray⟩, ⟨#[102, 108, 117, 120]⟩, ⟨(txB q0 q1 qu).toArray⟩] := by rw [alWords, if_neg h9]
    rw [hw]
    refine CallK.mk _ (strJoin_ok _ false ⟨#[32]⟩ (by simp) (by simp) ?_) rfl ?_
    · have k1 := txB_len t0 t1 tu (by omega) (by omega)
      have k5 := txB_len r0 r1 ru (by omega) (by omega)
      have k6 := txB_len d0 d1 du (by omega) (by omega)
      have k7 := txB_len q0 q1 qu (by omega) (by omega)
      have k2 := names_len (k - 1).toNat
      have k3 := Lib.itoa_length_le i (by omega) (by omega)
      have k4 := Lib.itoa_length_le o (by omega) (by omega)
      refine Nat.le_trans (join_len _ _ _) ?_
      simp
      simp at k2
      omega
    rfl
set_option maxHeartbeats 4000000 in
theorem faded_ok (i q0 q1 : Int) : Pure Tryd.prog 22 [.n .i64 i, .n .i64 q0, .n .i64 q1] (.agg (alC i 3 4 5 6 false 1 2 false (-1) 0 false q0 q1 false 0)) := by
  refine pure_of_wp of22 (Nat.le_of_ble_eq_true rfl) ?_
  refine OptK.mk _ rfl ?_
  rfl
/-- The text of the first alert of 'alerts'. -/
theorem faded_text : Lib.join ((alWords 7 3 4 5 6 false 1 2 false (-1) 0 false 0 0 true 0).map (·.data.toList)) [32] =
    [97, 108, 101, 114, 116, 32, 55, 32, 102, 97, 100, 101, 100, 32, 97, 116, 32, 53, 46, 46, 54, 32, 111, 98, 106, 101, 99, 116, 32, 52, 32, 114, 97, 32, 49, 46, 46, 50, 32, 100, 101, 99, 32, 45, 49, 46, 46, 48, 32, 102, 108, 117, 120, 32, 63] := by decide +kernel
theorem faded_err : alErr 7 3 4 5 6 false 1 2 false (-1) 0 false 0 0 true 0 = 0 := by decide +kernel
theorem crc_nine : 4294967295 ^^^ crcN [49, 50, 51, 52, 53, 54, 55, 56, 57] 4294967295 = 3421780262 := by decide +kernel
end Go.Proofs.YtljcbmnkjiogmaaDoor.Sv
