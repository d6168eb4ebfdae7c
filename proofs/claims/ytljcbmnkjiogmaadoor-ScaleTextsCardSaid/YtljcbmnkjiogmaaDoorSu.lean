/- Civil times are read from texts. No condition. -/
import Derived.Test.YtljcbmnkjiogmaaDoorSt
import Derived.Test.YtljcbmnkjiogmaaDoorZf
namespace Go.Proofs.YtljcbmnkjiogmaaDoor.Sv
open Go Go.RowKit
set_option linter.unusedVariables false
set_option linter.unusedSimpArgs false
set_option maxRecDepth 100000
/-- live: [0, 2, 4, 5, 6] -/
def L14_0 : SC := .seq (.seq (.reg [⟨some 13, none, .mv, [.tm 5]⟩, ⟨some 14, none, .mv, [.tm 0]⟩, ⟨some 15, none, .len true, [.tm 14]⟩, ⟨some 16, none, .po (.bin .lss), [.tm 13, .tm 15]⟩] [0, 2, 4, 5, 6, 16]) (.cond (.tm 16) .skip (.exit 0))) (.seq (.block 1 (.seq (.block 2 (.seq (.dreg [⟨some 20, none, .mv, [.tm 5]⟩, ⟨some 21, none, .po .idxS, [.cn (.s (⟨⟨[48, 48, 48, 48, 45, 48, 48, 45, 48, 48, 84, 48, 48, 58, 48, 48, 58, 48, 48, 46, 48, 48, 48]⟩⟩ : ByteArray)), .tm 20]⟩, ⟨some 22, none, .po (.bin .neq), [.tm 21, .cn (.n .u8 48)]⟩, ⟨some 23, none, .mv, [.tm 22]⟩, ⟨some 24, some (23, true), .mv, [.tm 0]⟩, ⟨some 25, some (23, true), .mv, [.tm 5]⟩, ⟨some 26, some (23, true), .po .idxS, [.tm 24, .tm 25]⟩, ⟨some 27, some (23, true), .mv, [.tm 5]⟩, ⟨some 28, some (23, true), .po .idxS, [.cn (.s (⟨⟨[48, 48, 48, 48, 45, 48, 48, 45, 48, 48, 84, 48, 48, 58, 48, 48, 58, 48, 48, 46, 48, 48, 48]⟩⟩ : ByteArray)), .tm 27]⟩, ⟨some 29, some (23, true), .po (.bin .neq), [.tm 26, .tm 28]⟩, ⟨some 30, none, .pick, [.tm 23, .tm 29, .cn (.b false)]⟩, ⟨some 31, none, .mv, [.tm 30]⟩, ⟨some 32, some (31, false), .mv, [.tm 5]⟩, ⟨some 33, some (31, false), .po .idxS, [.cn (.s (⟨⟨[48, 48, 48, 48, 45, 48, 48, 45, 48, 48, 84, 48, 48, 58, 48, 48, 58, 48, 48, 46, 48, 48, 48]⟩⟩ : ByteArray)), .tm 32]⟩, ⟨some 34, some (31, false), .po (.bin .eql), [.tm 33, .cn (.n .u8 48)]⟩, ⟨some 35, some (31, false), .mv, [.tm 34]⟩, ⟨some 36, some (35, true), .mv, [.tm 0]⟩, ⟨some 37, some (35, true), .mv, [.tm 5]⟩, ⟨some 38, some (35, true), .po .idxS, [.tm 36, .tm 37]⟩, ⟨some 39, some (35, true), .po (.bin .lss), [.tm 38, .cn (.n .u8 48)]⟩, ⟨some 40, some (35, true), .mv, [.tm 39]⟩, ⟨some 41, some (40, false), .mv, [.tm 0]⟩, ⟨some 42, some (40, false), .mv, [.tm 5]⟩, ⟨some 43, some (40, false), .po .idxS, [.tm 41, .tm 42]⟩, ⟨some 44, some (40, false), .po (.bin .gtr), [.tm 43, .cn (.n .u8 57)]⟩, ⟨some 45, some (35, true), .pick, [.tm 40, .cn (.b true), .tm 44]⟩, ⟨some 46, some (31, false), .pick, [.tm 35, .tm 45, .cn (.b false)]⟩, ⟨some 47, none, .pick, [.tm 31, .cn (.b true), .tm 46]⟩, ⟨some 19, none, .mv, [.tm 47]⟩] [] [0, 2, 4, 5, 6, 19]) (.cond (.tm 19) (.seq (.reg [⟨some 48, none, .po (.build [.n .i64 0, .n .i64 0, .n .i64 0, .n .i64 0, .n .i64 0, .n .i64 0, .n .i64 0] []), []⟩, ⟨none, none, .st 7, [.tm 2, .tm 48]⟩, ⟨some 3, none, .mv, [.cn (.n .i64 5)]⟩] [2, 3]) .ret) (.seq (.reg [⟨some 50, none, .mv, [.tm 5]⟩, ⟨some 51, none, .po .idxS, [.cn (.s (⟨⟨[48, 48, 48, 48, 45, 48, 48, 45, 48, 48, 84, 48, 48, 58, 48, 48, 58, 48, 48, 46, 48, 48, 48]⟩⟩ : ByteArray)), .tm 50]⟩, ⟨some 52, none, .po (.bin .eql), [.tm 51, .cn (.n .u8 48)]⟩, ⟨some 49, none, .mv, [.tm 52]⟩] [0, 2, 4, 5, 6, 49]) (.cond (.tm 49) (.reg [⟨some 53, none, .mv, [.tm 6]⟩, ⟨some 54, none, .po (.bin .mul), [.cn (.n .i64 10), .tm 53]⟩, ⟨some 55, none, .mv, [.tm 0]⟩, ⟨some 56, none, .mv, [.tm 5]⟩, ⟨some 57, none, .po .idxS, [.tm 55, .tm 56]⟩, ⟨some 58, none, .po (.bin .sub), [.tm 57, .cn (.n .u8 48)]⟩, ⟨some 59, none, .po (.toInt .i64), [.tm 58]⟩, ⟨some 60, none, .po (.bin .add), [.tm 54, .tm 59]⟩, ⟨some 6, none, .mv, [.tm 60]⟩] [0, 2, 4, 5, 6]) .skip))))) (.seq (.reg [⟨some 61, none, .mv, [.tm 5]⟩, ⟨some 62, none, .po (.bin .add), [.tm 61, .cn (.n .i64 1)]⟩, ⟨some 63, none, .mv, [.tm 0]⟩, ⟨some 64, none, .len true, [.tm 63]⟩, ⟨some 65, none, .po (.bin .eql), [.tm 62, .tm 64]⟩, ⟨some 66, none, .mv, [.tm 65]⟩, ⟨some 67, some (66, false), .mv, [.tm 5]⟩, ⟨some 68, some (66, false), .po (.bin .add), [.tm 67, .cn (.n .i64 1)]⟩, ⟨some 69, some (66, false), .po .idxS, [.cn (.s (⟨⟨[48, 48, 48, 48, 45, 48, 48, 45, 48, 48, 84, 48, 48, 58, 48, 48, 58, 48, 48, 46, 48, 48, 48]⟩⟩ : ByteArray)), .tm 68]⟩, ⟨some 70, some (66, false), .po (.bin .neq), [.tm 69, .cn (.n .u8 48)]⟩, ⟨some 71, some (66, false), .mv, [.tm 70]⟩, ⟨some 72, some (71, true), .mv, [.tm 5]⟩, ⟨some 73, some (71, true), .po .idxS, [.cn (.s (⟨⟨[48, 48, 48, 48, 45, 48, 48, 45, 48, 48, 84, 48, 48, 58, 48, 48, 58, 48, 48, 46, 48, 48, 48]⟩⟩ : ByteArray)), .tm 72]⟩, ⟨some 74, some (71, true), .po (.bin .eql), [.tm 73, .cn (.n .u8 48)]⟩, ⟨some 75, some (66, false), .pick, [.tm 71, .tm 74, .cn (.b false)]⟩, ⟨some 76, none, .pick, [.tm 66, .cn (.b true), .tm 75]⟩] [0, 2, 4, 5, 6, 76]) (.cond (.tm 76) (.reg [⟨some 77, none, .mv, [.tm 4]⟩, ⟨some 78, none, .mv, [.tm 6]⟩, ⟨some 79, none, .po (.bsl 1 [.n .i64 0] [(0, 1)]), [.tm 78]⟩, ⟨some 80, none, .app 1 8, [.tm 77, .tm 79]⟩, ⟨some 4, none, .mv, [.tm 80]⟩, ⟨some 6, none, .mv, [.cn (.n .i64 0)]⟩] [0, 2, 4, 5, 6]) .skip)))) (.reg [⟨some 17, none, .mv, [.tm 5]⟩, ⟨some 18, none, .po (.bin .add), [.tm 17, .cn (.n .i64 1)]⟩, ⟨some 5, none, .mv, [.tm 18]⟩] [0, 2, 4, 5, 6]))
/-- spyglass/scale.Read -/
def F14 : Fn1 := ⟨110, .seq (.reg [⟨some 2, none, .alloc [.n .i64 0, .n .i64 0, .n .i64 0, .n .i64 0, .n .i64 0, .n .i64 0, .n .i64 0], []⟩, ⟨some 3, none, .mv, [.cn (.n .i64 0)]⟩] [0, 2]) (.seq (.seq (.reg [⟨some 9, none, .mv, [.tm 0]⟩, ⟨some 10, none, .len true, [.tm 9]⟩, ⟨some 11, none, .po (.bin .neq), [.tm 10, .cn (.n .i64 23)]⟩] [0, 2, 11]) (.cond (.tm 11) (.seq (.reg [⟨some 12, none, .po (.build [.n .i64 0, .n .i64 0, .n .i64 0, .n .i64 0, .n .i64 0, .n .i64 0, .n .i64 0] []), []⟩, ⟨none, none, .st 7, [.tm 2, .tm 12]⟩, ⟨some 3, none, .mv, [.cn (.n .i64 5)]⟩] [2, 3]) .ret) .skip)) (.seq (.reg [⟨some 4, none, .adopt 1, []⟩] [0, 2, 4]) (.seq (.seq (.reg [⟨some 5, none, .mv, [.cn (.n .i64 0)]⟩, ⟨some 6, none, .mv, [.cn (.n .i64 0)]⟩] [0, 2, 4, 5, 6]) (.block 0 (.loop [0, 2, 4, 5, 6] L14_0))) (.seq (.dreg [⟨some 81, none, .mv, [.tm 4]⟩, ⟨some 82, none, .ia none 1, [.tm 81, .cn (.n .i64 0)]⟩, ⟨some 83, none, .ld false 1 true, [.tm 82]⟩, ⟨some 84, none, .mv, [.tm 4]⟩, ⟨some 85, none, .ia none 1, [.tm 84, .cn (.n .i64 1)]⟩, ⟨some 86, none, .ld false 1 true, [.tm 85]⟩, ⟨some 87, none, .mv, [.tm 4]⟩, ⟨some 88, none, .ia none 1, [.tm 87, .cn (.n .i64 2)]⟩, ⟨some 89, none, .ld false 1 true, [.tm 88]⟩, ⟨some 90, none, .mv, [.tm 4]⟩, ⟨some 91, none, .ia none 1, [.tm 90, .cn (.n .i64 3)]⟩, ⟨some 92, none, .ld false 1 true, [.tm 91]⟩, ⟨some 93, none, .mv, [.tm 4]⟩, ⟨some 94, none, .ia none 1, [.tm 93, .cn (.n .i64 4)]⟩, ⟨some 95, none, .ld false 1 true, [.tm 94]⟩, ⟨some 96, none, .mv, [.tm 4]⟩, ⟨some 97, none, .ia none 1, [.tm 96, .cn (.n .i64 5)]⟩, ⟨some 98, none, .ld false 1 true, [.tm 97]⟩, ⟨some 99, none, .mv, [.tm 4]⟩, ⟨some 100, none, .ia none 1, [.tm 99, .cn (.n .i64 6)]⟩, ⟨some 101, none, .ld false 1 true, [.tm 100]⟩, ⟨some 102, none, .po (.build [.n .i64 0, .n .i64 0, .n .i64 0, .n .i64 0, .n .i64 0, .n .i64 0, .n .i64 0] [(0, 1), (1, 1), (2, 1), (3, 1), (4, 1), (5, 1), (6, 1)]), [.tm 83, .tm 86, .tm 89, .tm 92, .tm 95, .tm 98, .tm 101]⟩, ⟨some 7, none, .alloc [.n .i64 0, .n .i64 0, .n .i64 0, .n .i64 0, .n .i64 0, .n .i64 0, .n .i64 0], []⟩, ⟨none, none, .st 7, [.tm 7, .tm 102]⟩] [] [2, 7]) (.seq (.seq (.reg [⟨some 103, none, .ld true 7 false, [.tm 7]⟩, ⟨some 104, none, .call 33, [.tm 103]⟩, ⟨some 8, none, .mv, [.tm 104]⟩] [2, 7, 8]) (.seq (.reg [⟨some 105, none, .mv, [.tm 8]⟩, ⟨some 106, none, .po (.bin .neq), [.tm 105, .cn (.n .i64 0)]⟩] [2, 7, 8, 106]) (.cond (.tm 106) (.seq (.reg [⟨some 107, none, .po (.build [.n .i64 0, .n .i64 0, .n .i64 0, .n .i64 0, .n .i64 0, .n .i64 0, .n .i64 0] []), []⟩, ⟨some 108, none, .mv, [.tm 8]⟩, ⟨none, none, .st 7, [.tm 2, .tm 107]⟩, ⟨some 3, none, .mv, [.tm 108]⟩] [2, 3]) .ret) .skip))) (.seq (.reg [⟨some 109, none, .ld true 7 false, [.tm 7]⟩, ⟨none, none, .st 7, [.tm 2, .tm 109]⟩, ⟨some 3, none, .mv, [.cn (.n .i64 0)]⟩] [2, 3]) .ret)))))), [.cell 2 true 7, .tm 3]⟩
theorem of14 : Fn1.of Tryd.prog 14 ⟨true, [], false⟩ [[0, 2], [0, 2, 11], [2, 3], [0, 2, 4], [0, 2, 4, 5, 6], [0, 2, 4, 5, 6], [0, 2, 4, 5, 6, 16], [0, 2, 4, 5, 6, 19], [2, 3], [0, 2, 4, 5, 6, 49], [0, 2, 4, 5, 6], [0, 2, 4, 5, 6, 76], [0, 2, 4, 5, 6], [0, 2, 4, 5, 6], [2, 7], [2, 7, 8], [2, 7, 8, 106], [2, 3], [2, 3]] = some F14 := by kernel_rfl
/-- The form of a civil time's text. -/
def formL : List Nat := [48, 48, 48, 48, 45, 48, 48, 45, 48, 48, 84, 48, 48, 58, 48, 48, 58, 48, 48, 46, 48, 48, 48]
/-- A byte that fits its place. -/
def okB (i : Nat) (c : UInt8) : Prop := if formL.getD i 0 = 48 then 48 ≤ c.toNat ∧ c.toNat ≤ 57 else c.toNat = formL.getD i 0
instance (i : Nat) (c : UInt8) : Decidable (okB i c) := by unfold okB; infer_instance
def goodT (s : List UInt8) : Prop := ∀ i ∈ List.range 23, okB i (s.getD i 0)
instance (s : List UInt8) : Decidable (goodT s) := by unfold goodT; infer_instance
theorem goodT_at {s : List UInt8} (h : goodT s) {i : Nat} {c : UInt8} (hi : i < 23) (hc : s[i]? = some c) : okB i c := by
  have := h i (List.mem_range.2 hi)
  rwa [List.getD_eq_getElem?_getD, hc] at this
theorem goodT_of {s : List UInt8} (hl : s.length = 23) (h : ∀ j c, j < 23 → s[j]? = some c → okB j c) : goodT s := by
  intro i hi
  have hi := List.mem_range.1 hi
  have hx : s[i]? = some s[i] := List.getElem?_eq_getElem (by omega)
  have := h i s[i] hi hx
  rwa [List.getD_eq_getElem?_getD, hx]
theorem sIdxC {objs : List (Nat × List V)} {l : List UInt8} {k : IntKind} {i : Int} (m : Nat) (v : Int) {x : UInt8} (hi : i = m) (hx : l[m]? = some x) (hv : ((x.toNat : Nat) : Int) = v) : (SO.po .idxS).rdx objs [.v (strB l), .v (.n k i)] = some (.v (.n .u8 v)) := by
  subst hv
  exact sIdx m hi hx
/-- A part's number. -/
def prt (s : List UInt8) (a b : Nat) : Int := (dv ((s.take b).drop a) : Nat)
def dnL (s : List UInt8) : Nat → List Int
  | 0 | 1 | 2 | 3 => []
  | 4 | 5 | 6 => [prt s 0 4]
  | 7 | 8 | 9 => [prt s 0 4, prt s 5 7]
  | 10 | 11 | 12 => [prt s 0 4, prt s 5 7, prt s 8 10]
  | 13 | 14 | 15 => [prt s 0 4, prt s 5 7, prt s 8 10, prt s 11 13]
  | 16 | 17 | 18 => [prt s 0 4, prt s 5 7, prt s 8 10, prt s 11 13, prt s 14 16]
  | 19 | 20 | 21 | 22 => [prt s 0 4, prt s 5 7, prt s 8 10, prt s 11 13, prt s 14 16, prt s 17 19]
  | _ => [prt s 0 4, prt s 5 7, prt s 8 10, prt s 11 13, prt s 14 16, prt s 17 19, prt s 20 23]
def stN : Nat → Nat
  | 0 | 1 | 2 | 3 => 0
  | 4 => 4
  | 5 | 6 => 5
  | 7 => 7
  | 8 | 9 => 8
  | 10 => 10
  | 11 | 12 => 11
  | 13 => 13
  | 14 | 15 => 14
  | 16 => 16
  | 17 | 18 => 17
  | 19 => 19
  | 20 | 21 | 22 => 20
  | _ => 23
theorem prt_nil (s : List UInt8) (a : Nat) : prt s a a = 0 := by
  unfold prt
  rw [List.drop_eq_nil_of_le (by rw [List.length_take]; omega)]
  rfl
theorem prt_succ {s : List UInt8} {a b : Nat} {c : UInt8} (h : s[b]? = some c) (hab : a ≤ b) (hc : 48 ≤ c.toNat) : prt s a (b + 1) = 10 * prt s a b + ((c.toNat : Int) - 48) := by
  unfold prt
  have hlt := (List.getElem?_eq_some_iff.1 h).1
  rw [List.take_add_one, h, List.drop_append_of_le_length (by rw [List.length_take]; omega)]
  show ((dv ((s.take b).drop a ++ [c]) : Nat) : Int) = _
  rw [dv_snoc]
  omega
theorem prt_lt {s : List UInt8} {a b : Nat} (hb : b ≤ s.length) (hab : a ≤ b) (h : ∀ j c, a ≤ j → j < b → s[j]? = some c → 48 ≤ c.toNat ∧ c.toNat ≤ 57) (hk : b ≤ a + 4) : 0 ≤ prt s a b ∧ prt s a b ≤ 9999 := by
  unfold prt
  have hd : isDec ((s.take b).drop a) := fun c hc => by
    obtain ⟨j, hj⟩ := List.mem_iff_getElem?.1 hc
    rw [List.getElem?_drop, List.getElem?_take] at hj
    split at hj
    · exact h (a + j) c (by omega) (by omega) hj
    · cases hj
  have := dv_lt hd
  have h2 : ((s.take b).drop a).length ≤ 4 := by rw [List.length_drop, List.length_take]; omega
  have h3 : 10 ^ ((s.take b).drop a).length ≤ 10 ^ 4 := Nat.pow_le_pow_right (by decide) h2
  omega
/-- What is read. -/
def readV (s : List UInt8) : V :=
  if s.length = 23 ∧ goodT s then
    if civErr (prt s 0 4) (prt s 5 7) (prt s 8 10) (prt s 11 13) (prt s 14 16) (prt s 17 19) (prt s 20 23) = 0 then .tup [civilV (prt s 0 4) (prt s 5 7) (prt s 8 10) (prt s 11 13) (prt s 14 16) (prt s 17 19) (prt s 20 23), .n .i64 0]
    else .tup [civilV 0 0 0 0 0 0 0, .n .i64 (civErr (prt s 0 4) (prt s 5 7) (prt s 8 10) (prt s 11 13) (prt s 14 16) (prt s 17 19) (prt s 20 23))]
  else .tup [civilV 0 0 0 0 0 0 0, .n .i64 5]
theorem readV_bad {s : List UInt8} {i : Nat} {c : UInt8} (hi : i < 23) (h : s[i]? = some c) (hc : ¬ okB i c) : readV s = .tup [civilV 0 0 0 0 0 0 0, .n .i64 5] := if_neg fun g => hc (goodT_at g.2 hi h)
set_option maxHeartbeats 16000000 in
theorem read_ok (s : List UInt8) : Pure Tryd.prog 14 [strB s] (readV s) := by
  refine pure_of_wp of14 (Nat.le_of_ble_eq_true rfl) ?_
  have hs := bsz s
  refine DecK.bne (fun h => ?_) (fun h => ?_)
  · have hr : readV s = .tup [civilV 0 0 0 0 0 0 0, .n .i64 5] := if_neg fun g => h (by rw [hs, g.1]; rfl)
    refine OptK.mk _ rfl ?_
    refine endV rfl ?_
    rw [hr]
    rfl
  have hl : s.length = 23 := by omega
  refine loop_ind (fun (i : Nat) => ⟨[(0, .v (strB s)), (2, .ref 2 0), (4, .own 4 1 0 (dnL s i).length), (5, .v (.n .i64 (i : Int))), (6, .v (.n .i64 (prt s (stN i) i)))], [(4, (dnL s i).flatMap ni), (2, [.n .i64 0, .n .i64 0, .n .i64 0, .n .i64 0, .n .i64 0, .n .i64 0, .n .i64 0])]⟩) (fun i => 23 - i)
    (fun i => i ≤ 23 ∧ ∀ j c, j < i → s[j]? = some c → okB j c) 0 ⟨by omega, fun j c h => by omega⟩ ?_
  intro i ⟨h1, h2⟩ ih
  refine DecK.dec (fun g => ?_) (fun g => ?_)
  · have hi : i < 23 := by omega
    obtain ⟨c, hx⟩ : ∃ c, s[i]? = some c := ⟨_, List.getElem?_eq_getElem (by omega)⟩
    have hc256 : c.toNat < 256 := c.toNat_lt
    rcases (show i = 0 ∨ i = 1 ∨ i = 2 ∨ i = 3 ∨ i = 4 ∨ i = 5 ∨ i = 6 ∨ i = 7 ∨ i = 8 ∨ i = 9 ∨ i = 10 ∨ i = 11 ∨ i = 12 ∨ i = 13 ∨ i = 14 ∨ i = 15 ∨ i = 16 ∨ i = 17 ∨ i = 18 ∨ i = 19 ∨ i = 20 ∨ i = 21 ∨ i = 22 by omega) with rfl | rfl | rfl | rfl | rfl | rfl | rfl | rfl | rfl | rfl | rfl | rfl | rfl | rfl | rfl | rfl | rfl | rfl | rfl | rfl | rfl | rfl | rfl
    · have wi : IntKind.i64.wrap (((0 : Nat) : Int) + 1) = ((1 : Nat) : Int) := by decide
      have hok : okB 0 c ↔ 48 ≤ c.toNat ∧ c.toNat ≤ 57 := Iff.rfl
      by_cases ok : 48 ≤ c.toNat ∧ c.toNat ≤ 57
      · repeat' first | first | (refine DecK.no (decide_eq_false (by omega)) ?_) | (refine DecK.yes (decide_eq_true (by omega)) ?_) | (refine DecK.no (beq_eq_false_iff_ne.2 (by omega)) ?_) | (refine DecK.yes (beq_iff_eq.2 (by omega)) ?_) | (refine DecK.yes (bne_iff_ne.2 (by omega)) ?_) | (refine DecK.no (bne_eq_false_iff_eq.2 (by omega)) ?_) | (refine DecK.tt ?_) | (refine DecK.ff ?_) | (refine OptK.mk _ (sIdx 0 rfl hx) ?_) | (refine OptK.mk _ (sIdxC 0 48 rfl rfl rfl) ?_) | (refine OptK.mk _ (sIdxC 1 48 (by decide) rfl rfl) ?_)
        have hb := prt_lt (s := s) (a := stN 0) (b := 0) (by omega) (by decide) (fun j c hj hj' hjc => by
            have h3 := h2 j c hj' hjc
            have h4 : (show Nat from stN 0) ≤ j := hj
            simp only [stN] at h4
            omega) (by decide)
        have hn : IntKind.i64.wrap (IntKind.i64.wrap (10 * prt s (stN 0) 0) + IntKind.i64.wrap (IntKind.u8.wrap ((c.toNat : Int) - 48))) = prt s (stN 0) (0 + 1) := by
          rw [u8_digit ok, w64 (n := 10 * _) (by omega), w64 (by omega), prt_succ hx (by decide) ok.1]
          omega
        refine loop_eq ?_ (ih 1 ⟨by omega, fun j c' hj hc' => ?_⟩ (by omega))
        · rw [hn, wi]
          rfl
        · rcases (show j < 0 ∨ j = 0 by omega) with h | rfl
          · exact h2 j c' h hc'
          · rw [hx] at hc'; cases hc'; exact hok.2 ok
      · have hr := readV_bad (i := 0) (by decide) hx fun g => ok (hok.1 g)
        by_cases lo : c.toNat < 48
        · repeat' first | first | (refine DecK.no (decide_eq_false (by omega)) ?_) | (refine DecK.yes (decide_eq_true (by omega)) ?_) | (refine DecK.no (beq_eq_false_iff_ne.2 (by omega)) ?_) | (refine DecK.yes (beq_iff_eq.2 (by omega)) ?_) | (refine DecK.yes (bne_iff_ne.2 (by omega)) ?_) | (refine DecK.no (bne_eq_false_iff_eq.2 (by omega)) ?_) | (refine DecK.tt ?_) | (refine DecK.ff ?_) | (refine OptK.mk _ (sIdx 0 rfl hx) ?_) | (refine OptK.mk _ (sIdxC 0 48 rfl rfl rfl) ?_) | (refine OptK.mk _ (sIdxC 1 48 (by decide) rfl rfl) ?_)
          refine OptK.mk _ rfl ?_
          refine endV rfl ?_
          rw [hr]
          rfl
        · repeat' first | first | (refine DecK.no (decide_eq_false (by omega)) ?_) | (refine DecK.yes (decide_eq_true (by omega)) ?_) | (refine DecK.no (beq_eq_false_iff_ne.2 (by omega)) ?_) | (refine DecK.yes (beq_iff_eq.2 (by omega)) ?_) | (refine DecK.yes (bne_iff_ne.2 (by omega)) ?_) | (refine DecK.no (bne_eq_false_iff_eq.2 (by omega)) ?_) | (refine DecK.tt ?_) | (refine DecK.ff ?_) | (refine OptK.mk _ (sIdx 0 rfl hx) ?_) | (refine OptK.mk _ (sIdxC 0 48 rfl rfl rfl) ?_) | (refine OptK.mk _ (sIdxC 1 48 (by decide) rfl rfl) ?_)
          refine OptK.mk _ rfl ?_
          refine endV rfl ?_
          rw [hr]
          rfl
    · have wi : IntKind.i64.wrap (((1 : Nat) : Int) + 1) = ((2 : Nat) : Int) := by decide
      have hok : okB 1 c ↔ 48 ≤ c.toNat ∧ c.toNat ≤ 57 := Iff.rfl
      by_cases ok : 48 ≤ c.toNat ∧ c.toNat ≤ 57
      · repeat' first | first | (refine DecK.no (decide_eq_false (by omega)) ?_) | (refine DecK.yes (decide_eq_true (by omega)) ?_) | (refine DecK.no (beq_eq_false_iff_ne.2 (by omega)) ?_) | (refine DecK.yes (beq_iff_eq.2 (by omega)) ?_) | (refine DecK.yes (bne_iff_ne.2 (by omega)) ?_) | (refine DecK.no (bne_eq_false_iff_eq.2 (by omega)) ?_) | (refine DecK.tt ?_) | (refine DecK.ff ?_) | (refine OptK.mk _ (sIdx 1 rfl hx) ?_) | (refine OptK.mk _ (sIdxC 1 48 rfl rfl rfl) ?_) | (refine OptK.mk _ (sIdxC 2 48 (by decide) rfl rfl) ?_)
        have hb := prt_lt (s := s) (a := stN 1) (b := 1) (by omega) (by decide) (fun j c hj hj' hjc => by
            have h3 := h2 j c hj' hjc
            have h4 : (show Nat from stN 1) ≤ j := hj
            rcases (show j = 0 by simp only [stN] at h4; omega) with rfl
            all_goals exact h3) (by decide)
        have hn : IntKind.i64.wrap (IntKind.i64.wrap (10 * prt s (stN 1) 1) + IntKind.i64.wrap (IntKind.u8.wrap ((c.toNat : Int) - 48))) = prt s (stN 1) (1 + 1) := by
          rw [u8_digit ok, w64 (n := 10 * _) (by omega), w64 (by omega), prt_succ hx (by decide) ok.1]
          omega
        refine loop_eq ?_ (ih 2 ⟨by omega, fun j c' hj hc' => ?_⟩ (by omega))
        · rw [hn, wi]
          rfl
        · rcases (show j < 1 ∨ j = 1 by omega) with h | rfl
          · exact h2 j c' h hc'
          · rw [hx] at hc'; cases hc'; exact hok.2 ok
      · have hr := readV_bad (i := 1) (by decide) hx fun g => ok (hok.1 g)
        by_cases lo : c.toNat < 48
        · repeat' first | first | (refine DecK.no (decide_eq_false (by omega)) ?_) | (refine DecK.yes (decide_eq_true (by omega)) ?_) | (refine DecK.no (beq_eq_false_iff_ne.2 (by omega)) ?_) | (refine DecK.yes (beq_iff_eq.2 (by omega)) ?_) | (refine DecK.yes (bne_iff_ne.2 (by omega)) ?_) | (refine DecK.no (bne_eq_false_iff_eq.2 (by omega)) ?_) | (refine DecK.tt ?_) | (refine DecK.ff ?_) | (refine OptK.mk _ (sIdx 1 rfl hx) ?_) | (refine OptK.mk _ (sIdxC 1 48 rfl rfl rfl) ?_) | (refine OptK.mk _ (sIdxC 2 48 (by decide) rfl rfl) ?_)
          refine OptK.mk _ rfl ?_
          refine endV rfl ?_
          rw [hr]
          rfl
        · repeat' first | first | (refine DecK.no (decide_eq_false (by omega)) ?_) | (refine DecK.yes (decide_eq_true (by omega)) ?_) | (refine DecK.no (beq_eq_false_iff_ne.2 (by omega)) ?_) | (refine DecK.yes (beq_iff_eq.2 (by omega)) ?_) | (refine DecK.yes (bne_iff_ne.2 (by omega)) ?_) | (refine DecK.no (bne_eq_false_iff_eq.2 (by omega)) ?_) | (refine DecK.tt ?_) | (refine DecK.ff ?_) | (refine OptK.mk _ (sIdx 1 rfl hx) ?_) | (refine OptK.mk _ (sIdxC 1 48 rfl rfl rfl) ?_) | (refine OptK.mk _ (sIdxC 2 48 (by decide) rfl rfl) ?_)
          refine OptK.mk _ rfl ?_
          refine endV rfl ?_
          rw [hr]
          rfl
    · have wi : IntKind.i64.wrap (((2 : Nat) : Int) + 1) = ((3 : Nat) : Int) := by decide
      have hok : okB 2 c ↔ 48 ≤ c.toNat ∧ c.toNat ≤ 57 := Iff.rfl
      by_cases ok : 48 ≤ c.toNat ∧ c.toNat ≤ 57
      · repeat' first | first | (refine DecK.no (decide_eq_false (by omega)) ?_) | (refine DecK.yes (decide_eq_true (by omega)) ?_) | (refine DecK.no (beq_eq_false_iff_ne.2 (by omega)) ?_) | (refine DecK.yes (beq_iff_eq.2 (by omega)) ?_) | (refine DecK.yes (bne_iff_ne.2 (by omega)) ?_) | (refine DecK.no (bne_eq_false_iff_eq.2 (by omega)) ?_) | (refine DecK.tt ?_) | (refine DecK.ff ?_) | (refine OptK.mk _ (sIdx 2 rfl hx) ?_) | (refine OptK.mk _ (sIdxC 2 48 rfl rfl rfl) ?_) | (refine OptK.mk _ (sIdxC 3 48 (by decide) rfl rfl) ?_)
        have hb := prt_lt (s := s) (a := stN 2) (b := 2) (by omega) (by decide) (fun j c hj hj' hjc => by
            have h3 := h2 j c hj' hjc
            have h4 : (show Nat from stN 2) ≤ j := hj
            rcases (show j = 0 ∨ j = 1 by simp only [stN] at h4; omega) with rfl | rfl
            all_goals exact h3) (by decide)
        have hn : IntKind.i64.wrap (IntKind.i64.wrap (10 * prt s (stN 2) 2) + IntKind.i64.wrap (IntKind.u8.wrap ((c.toNat : Int) - 48))) = prt s (stN 2) (2 + 1) := by
          rw [u8_digit ok, w64 (n := 10 * _) (by omega), w64 (by omega), prt_succ hx (by decide) ok.1]
          omega
        refine loop_eq ?_ (ih 3 ⟨by omega, fun j c' hj hc' => ?_⟩ (by omega))
        · rw [hn, wi]
          rfl
        · rcases (show j < 2 ∨ j = 2 by omega) with h | rfl
          · exact h2 j c' h hc'
          · rw [hx] at hc'; cases hc'; exact hok.2 ok
      · have hr := readV_bad (i := 2) (by decide) hx fun g => ok (hok.1 g)
        by_cases lo : c.toNat < 48
        · repeat' first | first | (refine DecK.no (decide_eq_false (by omega)) ?_) | (refine DecK.yes (decide_eq_true (by omega)) ?_) | (refine DecK.no (beq_eq_false_iff_ne.2 (by omega)) ?_) | (refine DecK.yes (beq_iff_eq.2 (by omega)) ?_) | (refine DecK.yes (bne_iff_ne.2 (by omega)) ?_) | (refine DecK.no (bne_eq_false_iff_eq.2 (by omega)) ?_) | (refine DecK.tt ?_) | (refine DecK.ff ?_) | (refine OptK.mk _ (sIdx 2 rfl hx) ?_) | (refine OptK.mk _ (sIdxC 2 48 rfl rfl rfl) ?_) | (refine OptK.mk _ (sIdxC 3 48 (by decide) rfl rfl) ?_)
          refine OptK.mk _ rfl ?_
          refine endV rfl ?_
          rw [hr]
          rfl
        · repeat' first | first | (refine DecK.no (decide_eq_false (by omega)) ?_) | (refine DecK.yes (decide_eq_true (by omega)) ?_) | (refine DecK.no (beq_eq_false_iff_ne.2 (by omega)) ?_) | (refine DecK.yes (beq_iff_eq.2 (by omega)) ?_) | (refine DecK.yes (bne_iff_ne.2 (by omega)) ?_) | (refine DecK.no (bne_eq_false_iff_eq.2 (by omega)) ?_) | (refine DecK.tt ?_) | (refine DecK.ff ?_) | (refine OptK.mk _ (sIdx 2 rfl hx) ?_) | (refine OptK.mk _ (sIdxC 2 48 rfl rfl rfl) ?_) | (refine OptK.mk _ (sIdxC 3 48 (by decide) rfl rfl) ?_)
          refine OptK.mk _ rfl ?_
          refine endV rfl ?_
          rw [hr]
          rfl
    · have wi : IntKind.i64.wrap (((3 : Nat) : Int) + 1) = ((4 : Nat) : Int) := by decide
      have hok : okB 3 c ↔ 48 ≤ c.toNat ∧ c.toNat ≤ 57 := Iff.rfl
      by_cases ok : 48 ≤ c.toNat ∧ c.toNat ≤ 57
      · repeat' first | first | (refine DecK.no (decide_eq_false (by omega)) ?_) | (refine DecK.yes (decide_eq_true (by omega)) ?_) | (refine DecK.no (beq_eq_false_iff_ne.2 (by omega)) ?_) | (refine DecK.yes (beq_iff_eq.2 (by omega)) ?_) | (refine DecK.yes (bne_iff_ne.2 (by omega)) ?_) | (refine DecK.no (bne_eq_false_iff_eq.2 (by omega)) ?_) | (refine DecK.tt ?_) | (refine DecK.ff ?_) | (refine OptK.mk _ (sIdx 3 rfl hx) ?_) | (refine OptK.mk _ (sIdxC 3 48 rfl rfl rfl) ?_) | (refine OptK.mk _ (sIdxC 4 45 (by decide) rfl rfl) ?_) | (refine OptK.mk _ (own_app (l := dnL s 3) hz_ni rfl rfl (by simp [dnL])) ?_)
        have hb := prt_lt (s := s) (a := stN 3) (b := 3) (by omega) (by decide) (fun j c hj hj' hjc => by
            have h3 := h2 j c hj' hjc
            have h4 : (show Nat from stN 3) ≤ j := hj
            rcases (show j = 0 ∨ j = 1 ∨ j = 2 by simp only [stN] at h4; omega) with rfl | rfl | rfl
            all_goals exact h3) (by decide)
        have hn : IntKind.i64.wrap (IntKind.i64.wrap (10 * prt s (stN 3) 3) + IntKind.i64.wrap (IntKind.u8.wrap ((c.toNat : Int) - 48))) = prt s (stN 3) (3 + 1) := by
          rw [u8_digit ok, w64 (n := 10 * _) (by omega), w64 (by omega), prt_succ hx (by decide) ok.1]
          omega
        refine loop_eq ?_ (ih 4 ⟨by omega, fun j c' hj hc' => ?_⟩ (by omega))
        · rw [hn, wi, show prt s (stN 4) 4 = 0 from prt_nil s 4]
          rfl
        · rcases (show j < 3 ∨ j = 3 by omega) with h | rfl
          · exact h2 j c' h hc'
          · rw [hx] at hc'; cases hc'; exact hok.2 ok
      · have hr := readV_bad (i := 3) (by decide) hx fun g => ok (hok.1 g)
        by_cases lo : c.toNat < 48
        · repeat' first | first | (refine DecK.no (decide_eq_false (by omega)) ?_) | (refine DecK.yes (decide_eq_true (by omega)) ?_) | (refine DecK.no (beq_eq_false_iff_ne.2 (by omega)) ?_) | (refine DecK.yes (beq_iff_eq.2 (by omega)) ?_) | (refine DecK.yes (bne_iff_ne.2 (by omega)) ?_) | (refine DecK.no (bne_eq_false_iff_eq.2 (by omega)) ?_) | (refine DecK.tt ?_) | (refine DecK.ff ?_) | (refine OptK.mk _ (sIdx 3 rfl hx) ?_) | (refine OptK.mk _ (sIdxC 3 48 rfl rfl rfl) ?_) | (refine OptK.mk _ (sIdxC 4 45 (by decide) rfl rfl) ?_) | (refine OptK.mk _ (own_app (l := dnL s 3) hz_ni rfl rfl (by simp [dnL])) ?_)
          refine OptK.mk _ rfl ?_
          refine endV rfl ?_
          rw [hr]
          rfl
        · repeat' first | first | (refine DecK.no (decide_eq_false (by omega)) ?_) | (refine DecK.yes (decide_eq_true (by omega)) ?_) | (refine DecK.no (beq_eq_false_iff_ne.2 (by omega)) ?_) | (refine DecK.yes (beq_iff_eq.2 (by omega)) ?_) | (refine DecK.yes (bne_iff_ne.2 (by omega)) ?_) | (refine DecK.no (bne_eq_false_iff_eq.2 (by omega)) ?_) | (refine DecK.tt ?_) | (refine DecK.ff ?_) | (refine OptK.mk _ (sIdx 3 rfl hx) ?_) | (refine OptK.mk _ (sIdxC 3 48 rfl rfl rfl) ?_) | (refine OptK.mk _ (sIdxC 4 45 (by decide) rfl rfl) ?_) | (refine OptK.mk _ (own_app (l := dnL s 3) hz_ni rfl rfl (by simp [dnL])) ?_)
          refine OptK.mk _ rfl ?_
          refine endV rfl ?_
          rw [hr]
          rfl
    · have wi : IntKind.i64.wrap (((4 : Nat) : Int) + 1) = ((5 : Nat) : Int) := by decide
      have hok : okB 4 c ↔ c.toNat = 45 := Iff.rfl
      by_cases ok : c.toNat = 45
      · repeat' first | first | (refine DecK.no (decide_eq_false (by omega)) ?_) | (refine DecK.yes (decide_eq_true (by omega)) ?_) | (refine DecK.no (beq_eq_false_iff_ne.2 (by omega)) ?_) | (refine DecK.yes (beq_iff_eq.2 (by omega)) ?_) | (refine DecK.yes (bne_iff_ne.2 (by omega)) ?_) | (refine DecK.no (bne_eq_false_iff_eq.2 (by omega)) ?_) | (refine DecK.tt ?_) | (refine DecK.ff ?_) | (refine OptK.mk _ (sIdx 4 rfl hx) ?_) | (refine OptK.mk _ (sIdxC 4 45 rfl rfl rfl) ?_) | (refine OptK.mk _ (sIdxC 5 48 (by decide) rfl rfl) ?_)
        refine loop_eq ?_ (ih 5 ⟨by omega, fun j c' hj hc' => ?_⟩ (by omega))
        · rw [wi, show prt s (stN 4) 4 = 0 from prt_nil s 4, show prt s (stN 5) 5 = 0 from prt_nil s 5]
          rfl
        · rcases (show j < 4 ∨ j = 4 by omega) with h | rfl
          · exact h2 j c' h hc'
          · rw [hx] at hc'; cases hc'; exact hok.2 ok
      · have hr := readV_bad (i := 4) (by decide) hx fun g => ok (hok.1 g)
        repeat' first | first | (refine DecK.no (decide_eq_false (by omega)) ?_) | (refine DecK.yes (decide_eq_true (by omega)) ?_) | (refine DecK.no (beq_eq_false_iff_ne.2 (by omega)) ?_) | (refine DecK.yes (beq_iff_eq.2 (by omega)) ?_) | (refine DecK.yes (bne_iff_ne.2 (by omega)) ?_) | (refine DecK.no (bne_eq_false_iff_eq.2 (by omega)) ?_) | (refine DecK.tt ?_) | (refine DecK.ff ?_) | (refine OptK.mk _ (sIdx 4 rfl hx) ?_) | (refine OptK.mk _ (sIdxC 4 45 rfl rfl rfl) ?_) | (refine OptK.mk _ (sIdxC 5 48 (by decide) rfl rfl) ?_)
        refine OptK.mk _ rfl ?_
        refine endV rfl ?_
        rw [hr]
        rfl
    · have wi : IntKind.i64.wrap (((5 : Nat) : Int) + 1) = ((6 : Nat) : Int) := by decide
      have hok : okB 5 c ↔ 48 ≤ c.toNat ∧ c.toNat ≤ 57 := Iff.rfl
      by_cases ok : 48 ≤ c.toNat ∧ c.toNat ≤ 57
      · repeat' first | first | (refine DecK.no (decide_eq_false (by omega)) ?_) | (refine DecK.yes (decide_eq_true (by omega)) ?_) | (refine DecK.no (beq_eq_false_iff_ne.2 (by omega)) ?_) | (refine DecK.yes (beq_iff_eq.2 (by omega)) ?_) | (refine DecK.yes (bne_iff_ne.2 (by omega)) ?_) | (refine DecK.no (bne_eq_false_iff_eq.2 (by omega)) ?_) | (refine DecK.tt ?_) | (refine DecK.ff ?_) | (refine OptK.mk _ (sIdx 5 rfl hx) ?_) | (refine OptK.mk _ (sIdxC 5 48 rfl rfl rfl) ?_) | (refine OptK.mk _ (sIdxC 6 48 (by decide) rfl rfl) ?_)
        have hb := prt_lt (s := s) (a := stN 5) (b := 5) (by omega) (by decide) (fun j c hj hj' hjc => by
            have h3 := h2 j c hj' hjc
            have h4 : (show Nat from stN 5) ≤ j := hj
            simp only [stN] at h4
            omega) (by decide)
        have hn : IntKind.i64.wrap (IntKind.i64.wrap (10 * prt s (stN 5) 5) + IntKind.i64.wrap (IntKind.u8.wrap ((c.toNat : Int) - 48))) = prt s (stN 5) (5 + 1) := by
          rw [u8_digit ok, w64 (n := 10 * _) (by omega), w64 (by omega), prt_succ hx (by decide) ok.1]
          omega
        refine loop_eq ?_ (ih 6 ⟨by omega, fun j c' hj hc' => ?_⟩ (by omega))
        · rw [hn, wi]
          rfl
        · rcases (show j < 5 ∨ j = 5 by omega) with h | rfl
          · exact h2 j c' h hc'
          · rw [hx] at hc'; cases hc'; exact hok.2 ok
      · have hr := readV_bad (i := 5) (by decide) hx fun g => ok (hok.1 g)
        by_cases lo : c.toNat < 48
        · repeat' first | first | (refine DecK.no (decide_eq_false (by omega)) ?_) | (refine DecK.yes (decide_eq_true (by omega)) ?_) | (refine DecK.no (beq_eq_false_iff_ne.2 (by omega)) ?_) | (refine DecK.yes (beq_iff_eq.2 (by omega)) ?_) | (refine DecK.yes (bne_iff_ne.2 (by omega)) ?_) | (refine DecK.no (bne_eq_false_iff_eq.2 (by omega)) ?_) | (refine DecK.tt ?_) | (refine DecK.ff ?_) | (refine OptK.mk _ (sIdx 5 rfl hx) ?_) | (refine OptK.mk _ (sIdxC 5 48 rfl rfl rfl) ?_) | (refine OptK.mk _ (sIdxC 6 48 (by decide) rfl rfl) ?_)
          refine OptK.mk _ rfl ?_
          refine endV rfl ?_
          rw [hr]
          rfl
        · repeat' first | first | (refine DecK.no (decide_eq_false (by omega)) ?_) | (refine DecK.yes (decide_eq_true (by omega)) ?_) | (refine DecK.no (beq_eq_false_iff_ne.2 (by omega)) ?_) | (refine DecK.yes (beq_iff_eq.2 (by omega)) ?_) | (refine DecK.yes (bne_iff_ne.2 (by omega)) ?_) | (refine DecK.no (bne_eq_false_iff_eq.2 (by omega)) ?_) | (refine DecK.tt ?_) | (refine DecK.ff ?_) | (refine OptK.mk _ (sIdx 5 rfl hx) ?_) | (refine OptK.mk _ (sIdxC 5 48 rfl rfl rfl) ?_) | (refine OptK.mk _ (sIdxC 6 48 (by decide) rfl rfl) ?_)
          refine OptK.mk _ rfl ?_
          refine endV rfl ?_
          rw [hr]
          rfl
    · have wi : IntKind.i64.wrap (((6 : Nat) : Int) + 1) = ((7 : Nat) : Int) := by decide
      have hok : okB 6 c ↔ 48 ≤ c.toNat ∧ c.toNat ≤ 57 := Iff.rfl
      by_cases ok : 48 ≤ c.toNat ∧ c.toNat ≤ 57
      · repeat' first | first | (refine DecK.no (decide_eq_false (by omega)) ?_) | (refine DecK.yes (decide_eq_true (by omega)) ?_) | (refine DecK.no (beq_eq_false_iff_ne.2 (by omega)) ?_) | (refine DecK.yes (beq_iff_eq.2 (by omega)) ?_) | (refine DecK.yes (bne_iff_ne.2 (by omega)) ?_) | (refine DecK.no (bne_eq_false_iff_eq.2 (by omega)) ?_) | (refine DecK.tt ?_) | (refine DecK.ff ?_) | (refine OptK.mk _ (sIdx 6 rfl hx) ?_) | (refine OptK.mk _ (sIdxC 6 48 rfl rfl rfl) ?_) | (refine OptK.mk _ (sIdxC 7 45 (by decide) rfl rfl) ?_) | (refine OptK.mk _ (own_app (l := dnL s 6) hz_ni rfl rfl (by simp [dnL])) ?_)
        have hb := prt_lt (s := s) (a := stN 6) (b := 6) (by omega) (by decide) (fun j c hj hj' hjc => by
            have h3 := h2 j c hj' hjc
            have h4 : (show Nat from stN 6) ≤ j := hj
            rcases (show j = 5 by simp only [stN] at h4; omega) with rfl
            all_goals exact h3) (by decide)
        have hn : IntKind.i64.wrap (IntKind.i64.wrap (10 * prt s (stN 6) 6) + IntKind.i64.wrap (IntKind.u8.wrap ((c.toNat : Int) - 48))) = prt s (stN 6) (6 + 1) := by
          rw [u8_digit ok, w64 (n := 10 * _) (by omega), w64 (by omega), prt_succ hx (by decide) ok.1]
          omega
        refine loop_eq ?_ (ih 7 ⟨by omega, fun j c' hj hc' => ?_⟩ (by omega))
        · rw [hn, wi, show prt s (stN 7) 7 = 0 from prt_nil s 7]
          rfl
        · rcases (show j < 6 ∨ j = 6 by omega) with h | rfl
          · exact h2 j c' h hc'
          · rw [hx] at hc'; cases hc'; exact hok.2 ok
      · have hr := readV_bad (i := 6) (by decide) hx fun g => ok (hok.1 g)
        by_cases lo : c.toNat < 48
        · repeat' first | first | (refine DecK.no (decide_eq_false (by omega)) ?_) | (refine DecK.yes (decide_eq_true (by omega)) ?_) | (refine DecK.no (beq_eq_false_iff_ne.2 (by omega)) ?_) | (refine DecK.yes (beq_iff_eq.2 (by omega)) ?_) | (refine DecK.yes (bne_iff_ne.2 (by omega)) ?_) | (refine DecK.no (bne_eq_false_iff_eq.2 (by omega)) ?_) | (refine DecK.tt ?_) | (refine DecK.ff ?_) | (refine OptK.mk _ (sIdx 6 rfl hx) ?_) | (refine OptK.mk _ (sIdxC 6 48 rfl rfl rfl) ?_) | (refine OptK.mk _ (sIdxC 7 45 (by decide) rfl rfl) ?_) | (refine OptK.mk _ (own_app (l := dnL s 6) hz_ni rfl rfl (by simp [dnL])) ?_)
          refine OptK.mk _ rfl ?_
          refine endV rfl ?_
          rw [hr]
          rfl
        · repeat' first | first | (refine DecK.no (decide_eq_false (by omega)) ?_) | (refine DecK.yes (decide_eq_true (by omega)) ?_) | (refine DecK.no (beq_eq_false_iff_ne.2 (by omega)) ?_) | (refine DecK.yes (beq_iff_eq.2 (by omega)) ?_) | (refine DecK.yes (bne_iff_ne.2 (by omega)) ?_) | (refine DecK.no (bne_eq_false_iff_eq.2 (by omega)) ?_) | (refine DecK.tt ?_) | (refine DecK.ff ?_) | (refine OptK.mk _ (sIdx 6 rfl hx) ?_) | (refine OptK.mk _ (sIdxC 6 48 rfl rfl rfl) ?_) | (refine OptK.mk _ (sIdxC 7 45 (by decide) rfl rfl) ?_) | (refine OptK.mk _ (own_app (l := dnL s 6) hz_ni rfl rfl (by simp [dnL])) ?_)
          refine OptK.mk _ rfl ?_
          refine endV rfl ?_
          rw [hr]
          rfl
    · have wi : IntKind.i64.wrap (((7 : Nat) : Int) + 1) = ((8 : Nat) : Int) := by decide
      have hok : okB 7 c ↔ c.toNat = 45 := Iff.rfl
      by_cases ok : c.toNat = 45
      · repeat' first | first | (refine DecK.no (decide_eq_false (by omega)) ?_) | (refine DecK.yes (decide_eq_true (by omega)) ?_) | (refine DecK.no (beq_eq_false_iff_ne.2 (by omega)) ?_) | (refine DecK.yes (beq_iff_eq.2 (by omega)) ?_) | (refine DecK.yes (bne_iff_ne.2 (by omega)) ?_) | (refine DecK.no (bne_eq_false_iff_eq.2 (by omega)) ?_) | (refine DecK.tt ?_) | (refine DecK.ff ?_) | (refine OptK.mk _ (sIdx 7 rfl hx) ?_) | (refine OptK.mk _ (sIdxC 7 45 rfl rfl rfl) ?_) | (refine OptK.mk _ (sIdxC 8 48 (by decide) rfl rfl) ?_)
        refine loop_eq ?_ (ih 8 ⟨by omega, fun j c' hj hc' => ?_⟩ (by omega))
        · rw [wi, show prt s (stN 7) 7 = 0 from prt_nil s 7, show prt s (stN 8) 8 = 0 from prt_nil s 8]
          rfl
        · rcases (show j < 7 ∨ j = 7 by omega) with h | rfl
          · exact h2 j c' h hc'
          · rw [hx] at hc'; cases hc'; exact hok.2 ok
      · have hr := readV_bad (i := 7) (by decide) hx fun g => ok (hok.1 g)
        repeat' first | first | (refine DecK.no (decide_eq_false (by omega)) ?_) | (refine DecK.yes (decide_eq_true (by omega)) ?_) | (refine DecK.no (beq_eq_false_iff_ne.2 (by omega)) ?_) | (refine DecK.yes (beq_iff_eq.2 (by omega)) ?_) | (refine DecK.yes (bne_iff_ne.2 (by omega)) ?_) | (refine DecK.no (bne_eq_false_iff_eq.2 (by omega)) ?_) | (refine DecK.tt ?_) | (refine DecK.ff ?_) | (refine OptK.mk _ (sIdx 7 rfl hx) ?_) | (refine OptK.mk _ (sIdxC 7 45 rfl rfl rfl) ?_) | (refine OptK.mk _ (sIdxC 8 48 (by decide) rfl rfl) ?_)
        refine OptK.mk _ rfl ?_
        refine endV rfl ?_
        rw [hr]
        rfl
    · have wi : IntKind.i64.wrap (((8 : Nat) : Int) + 1) = ((9 : Nat) : Int) := by decide
      have hok : okB 8 c ↔ 48 ≤ c.toNat ∧ c.toNat ≤ 57 := Iff.rfl
      by_cases ok : 48 ≤ c.toNat ∧ c.toNat ≤ 57
      · repeat' first | first | (refine DecK.no (decide_eq_false (by omega)) ?_) | (refine DecK.yes (decide_eq_true (by omega)) ?_) | (refine DecK.no (beq_eq_false_iff_ne.2 (by omega)) ?_) | (refine DecK.yes (beq_iff_eq.2 (by omega)) ?_) | (refine DecK.yes (bne_iff_ne.2 (by omega)) ?_) | (refine DecK.no (bne_eq_false_iff_eq.2 (by omega)) ?_) | (refine DecK.tt ?_) | (refine DecK.ff ?_) | (refine OptK.mk _ (sIdx 8 rfl hx) ?_) | (refine OptK.mk _ (sIdxC 8 48 rfl rfl rfl) ?_) | (refine OptK.mk _ (sIdxC 9 48 (by decide) rfl rfl) ?_)
        have hb := prt_lt (s := s) (a := stN 8) (b := 8) (by omega) (by decide) (fun j c hj hj' hjc => by
            have h3 := h2 j c hj' hjc
            have h4 : (show Nat from stN 8) ≤ j := hj
            simp only [stN] at h4
            omega) (by decide)
        have hn : IntKind.i64.wrap (IntKind.i64.wrap (10 * prt s (stN 8) 8) + IntKind.i64.wrap (IntKind.u8.wrap ((c.toNat : Int) - 48))) = prt s (stN 8) (8 + 1) := by
          rw [u8_digit ok, w64 (n := 10 * _) (by omega), w64 (by omega), prt_succ hx (by decide) ok.1]
          omega
        refine loop_eq ?_ (ih 9 ⟨by omega, fun j c' hj hc' => ?_⟩ (by omega))
        · rw [hn, wi]
          rfl
        · rcases (show j < 8 ∨ j = 8 by omega) with h | rfl
          · exact h2 j c' h hc'
          · rw [hx] at hc'; cases hc'; exact hok.2 ok
      · have hr := readV_bad (i := 8) (by decide) hx fun g => ok (hok.1 g)
        by_cases lo : c.toNat < 48
        · repeat' first | first | (refine DecK.no (decide_eq_false (by omega)) ?_) | (refine DecK.yes (decide_eq_true (by omega)) ?_) | (refine DecK.no (beq_eq_false_iff_ne.2 (by omega)) ?_) | (refine DecK.yes (beq_iff_eq.2 (by omega)) ?_) | (refine DecK.yes (bne_iff_ne.2 (by omega)) ?_) | (refine DecK.no (bne_eq_false_iff_eq.2 (by omega)) ?_) | (refine DecK.tt ?_) | (refine DecK.ff ?_) | (refine OptK.mk _ (sIdx 8 rfl hx) ?_) | (refine OptK.mk _ (sIdxC 8 48 rfl rfl rfl) ?_) | (refine OptK.mk _ (sIdxC 9 48 (by decide) rfl rfl) ?_)
          refine OptK.mk _ rfl ?_
          refine endV rfl ?_
          rw [hr]
          rfl
        · repeat' first | first | (refine DecK.no (decide_eq_false (by omega)) ?_) | (refine DecK.yes (decide_eq_true (by omega)) ?_) | (refine DecK.no (beq_eq_false_iff_ne.2 (by omega)) ?_) | (refine DecK.yes (beq_iff_eq.2 (by omega)) ?_) | (refine DecK.yes (bne_iff_ne.2 (by omega)) ?_) | (refine DecK.no (bne_eq_false_iff_eq.2 (by omega)) ?_) | (refine DecK.tt ?_) | (refine DecK.ff ?_) | (refine OptK.mk _ (sIdx 8 rfl hx) ?_) | (refine OptK.mk _ (sIdxC 8 48 rfl rfl rfl) ?_) | (refine OptK.mk _ (sIdxC 9 48 (by decide) rfl rfl) ?_)
          refine OptK.mk _ rfl ?_
          refine endV rfl ?_
          rw [hr]
          rfl
    · have wi : IntKind.i64.wrap (((9 : Nat) : Int) + 1) = ((10 : Nat) : Int) := by decide
      have hok : okB 9 c ↔ 48 ≤ c.toNat ∧ c.toNat ≤ 57 := Iff.rfl
      by_cases ok : 48 ≤ c.toNat ∧ c.toNat ≤ 57
      · repeat' first | first | (refine DecK.no (decide_eq_false (by omega)) ?_) | (refine DecK.yes (decide_eq_true (by omega)) ?_) | (refine DecK.no (beq_eq_false_iff_ne.2 (by omega)) ?_) | (refine DecK.yes (beq_iff_eq.2 (by omega)) ?_) | (refine DecK.yes (bne_iff_ne.2 (by omega)) ?_) | (refine DecK.no (bne_eq_false_iff_eq.2 (by omega)) ?_) | (refine DecK.tt ?_) | (refine DecK.ff ?_) | (refine OptK.mk _ (sIdx 9 rfl hx) ?_) | (refine OptK.mk _ (sIdxC 9 48 rfl rfl rfl) ?_) | (refine OptK.mk _ (sIdxC 10 84 (by decide) rfl rfl) ?_) | (refine OptK.mk _ (own_app (l := dnL s 9) hz_ni rfl rfl (by simp [dnL])) ?_)
        have hb := prt_lt (s := s) (a := stN 9) (b := 9) (by omega) (by decide) (fun j c hj hj' hjc => by
            have h3 := h2 j c hj' hjc
            have h4 : (show Nat from stN 9) ≤ j := hj
            rcases (show j = 8 by simp only [stN] at h4; omega) with rfl
            all_goals exact h3) (by decide)
        have hn : IntKind.i64.wrap (IntKind.i64.wrap (10 * prt s (stN 9) 9) + IntKind.i64.wrap (IntKind.u8.wrap ((c.toNat : Int) - 48))) = prt s (stN 9) (9 + 1) := by
          rw [u8_digit ok, w64 (n := 10 * _) (by omega), w64 (by omega), prt_succ hx (by decide) ok.1]
          omega
        refine loop_eq ?_ (ih 10 ⟨by omega, fun j c' hj hc' => ?_⟩ (by omega))
        · rw [hn, wi, show prt s (stN 10) 10 = 0 from prt_nil s 10]
          rfl
        · rcases (show j < 9 ∨ j = 9 by omega) with h | rfl
          · exact h2 j c' h hc'
          · rw [hx] at hc'; cases hc'; exact hok.2 ok
      · have hr := readV_bad (i := 9) (by decide) hx fun g => ok (hok.1 g)
        by_cases lo : c.toNat < 48
        · repeat' first | first | (refine DecK.no (decide_eq_false (by omega)) ?_) | (refine DecK.yes (decide_eq_true (by omega)) ?_) | (refine DecK.no (beq_eq_false_iff_ne.2 (by omega)) ?_) | (refine DecK.yes (beq_iff_eq.2 (by omega)) ?_) | (refine DecK.yes (bne_iff_ne.2 (by omega)) ?_) | (refine DecK.no (bne_eq_false_iff_eq.2 (by omega)) ?_) | (refine DecK.tt ?_) | (refine DecK.ff ?_) | (refine OptK.mk _ (sIdx 9 rfl hx) ?_) | (refine OptK.mk _ (sIdxC 9 48 rfl rfl rfl) ?_) | (refine OptK.mk _ (sIdxC 10 84 (by decide) rfl rfl) ?_) | (refine OptK.mk _ (own_app (l := dnL s 9) hz_ni rfl rfl (by simp [dnL])) ?_)
          refine OptK.mk _ rfl ?_
          refine endV rfl ?_
          rw [hr]
          rfl
        · repeat' first | first | (refine DecK.no (decide_eq_false (by omega)) ?_) | (refine DecK.yes (decide_eq_true (by omega)) ?_) | (refine DecK.no (beq_eq_false_iff_ne.2 (by omega)) ?_) | (refine DecK.yes (beq_iff_eq.2 (by omega)) ?_) | (refine DecK.yes (bne_iff_ne.2 (by omega)) ?_) | (refine DecK.no (bne_eq_false_iff_eq.2 (by omega)) ?_) | (refine DecK.tt ?_) | (refine DecK.ff ?_) | (refine OptK.mk _ (sIdx 9 rfl hx) ?_) | (refine OptK.mk _ (sIdxC 9 48 rfl rfl rfl) ?_) | (refine OptK.mk _ (sIdxC 10 84 (by decide) rfl rfl) ?_) | (refine OptK.mk _ (own_app (l := dnL s 9) hz_ni rfl rfl (by simp [dnL])) ?_)
          refine OptK.mk _ rfl ?_
          refine endV rfl ?_
          rw [hr]
          rfl
    · have wi : IntKind.i64.wrap (((10 : Nat) : Int) + 1) = ((11 : Nat) : Int) := by decide
      have hok : okB 10 c ↔ c.toNat = 84 := Iff.rfl
      by_cases ok : c.toNat = 84
      · repeat' first | first | (refine DecK.no (decide_eq_false (by omega)) ?_) | (refine DecK.yes (decide_eq_true (by omega)) ?_) | (refine DecK.no (beq_eq_false_iff_ne.2 (by omega)) ?_) | (refine DecK.yes (beq_iff_eq.2 (by omega)) ?_) | (refine DecK.yes (bne_iff_ne.2 (by omega)) ?_) | (refine DecK.no (bne_eq_false_iff_eq.2 (by omega)) ?_) | (refine DecK.tt ?_) | (refine DecK.ff ?_) | (refine OptK.mk _ (sIdx 10 rfl hx) ?_) | (refine OptK.mk _ (sIdxC 10 84 rfl rfl rfl) ?_) | (refine OptK.mk _ (sIdxC 11 48 (by decide) rfl rfl) ?_)
        refine loop_eq ?_ (ih 11 ⟨by omega, fun j c' hj hc' => ?_⟩ (by omega))
        · rw [wi, show prt s (stN 10) 10 = 0 from prt_nil s 10, show prt s (stN 11) 11 = 0 from prt_nil s 11]
          rfl
        · rcases (show j < 10 ∨ j = 10 by omega) with h | rfl
          · exact h2 j c' h hc'
          · rw [hx] at hc'; cases hc'; exact hok.2 ok
      · have hr := readV_bad (i := 10) (by decide) hx fun g => ok (hok.1 g)
        repeat' first | first | (refine DecK.no (decide_eq_false (by omega)) ?_) | (refine DecK.yes (decide_eq_true (by omega)) ?_) | (refine DecK.no (beq_eq_false_iff_ne.2 (by omega)) ?_) | (refine DecK.yes (beq_iff_eq.2 (by omega)) ?_) | (refine DecK.yes (bne_iff_ne.2 (by omega)) ?_) | (refine DecK.no (bne_eq_false_iff_eq.2 (by omega)) ?_) | (refine DecK.tt ?_) | (refine DecK.ff ?_) | (refine OptK.mk _ (sIdx 10 rfl hx) ?_) | (refine OptK.mk _ (sIdxC 10 84 rfl rfl rfl) ?_) | (refine OptK.mk _ (sIdxC 11 48 (by decide) rfl rfl) ?_)
        refine OptK.mk _ rfl ?_
        refine endV rfl ?_
        rw [hr]
        rfl
    · have wi : IntKind.i64.wrap (((11 : Nat) : Int) + 1) = ((12 : Nat) : Int) := by decide
      have hok : okB 11 c ↔ 48 ≤ c.toNat ∧ c.toNat ≤ 57 := Iff.rfl
      by_cases ok : 48 ≤ c.toNat ∧ c.toNat ≤ 57
      · repeat' first | first | (refine DecK.no (decide_eq_false (by omega)) ?_) | (refine DecK.yes (decide_eq_true (by omega)) ?_) | (refine DecK.no (beq_eq_false_iff_ne.2 (by omega)) ?_) | (refine DecK.yes (beq_iff_eq.2 (by omega)) ?_) | (refine DecK.yes (bne_iff_ne.2 (by omega)) ?_) | (refine DecK.no (bne_eq_false_iff_eq.2 (by omega)) ?_) | (refine DecK.tt ?_) | (refine DecK.ff ?_) | (refine OptK.mk _ (sIdx 11 rfl hx) ?_) | (refine OptK.mk _ (sIdxC 11 48 rfl rfl rfl) ?_) | (refine OptK.mk _ (sIdxC 12 48 (by decide) rfl rfl) ?_)
        have hb := prt_lt (s := s) (a := stN 11) (b := 11) (by omega) (by decide) (fun j c hj hj' hjc => by
            have h3 := h2 j c hj' hjc
            have h4 : (show Nat from stN 11) ≤ j := hj
            simp only [stN] at h4
            omega) (by decide)
        have hn : IntKind.i64.wrap (IntKind.i64.wrap (10 * prt s (stN 11) 11) + IntKind.i64.wrap (IntKind.u8.wrap ((c.toNat : Int) - 48))) = prt s (stN 11) (11 + 1) := by
          rw [u8_digit ok, w64 (n := 10 * _) (by omega), w64 (by omega), prt_succ hx (by decide) ok.1]
          omega
        refine loop_eq ?_ (ih 12 ⟨by omega, fun j c' hj hc' => ?_⟩ (by omega))
        · rw [hn, wi]
          rfl
        · rcases (show j < 11 ∨ j = 11 by omega) with h | rfl
          · exact h2 j c' h hc'
          · rw [hx] at hc'; cases hc'; exact hok.2 ok
      · have hr := readV_bad (i := 11) (by decide) hx fun g => ok (hok.1 g)
        by_cases lo : c.toNat < 48
        · repeat' first | first | (refine DecK.no (decide_eq_false (by omega)) ?_) | (refine DecK.yes (decide_eq_true (by omega)) ?_) | (refine DecK.no (beq_eq_false_iff_ne.2 (by omega)) ?_) | (refine DecK.yes (beq_iff_eq.2 (by omega)) ?_) | (refine DecK.yes (bne_iff_ne.2 (by omega)) ?_) | (refine DecK.no (bne_eq_false_iff_eq.2 (by omega)) ?_) | (refine DecK.tt ?_) | (refine DecK.ff ?_) | (refine OptK.mk _ (sIdx 11 rfl hx) ?_) | (refine OptK.mk _ (sIdxC 11 48 rfl rfl rfl) ?_) | (refine OptK.mk _ (sIdxC 12 48 (by decide) rfl rfl) ?_)
          refine OptK.mk _ rfl ?_
          refine endV rfl ?_
          rw [hr]
          rfl
        · repeat' first | first | (refine DecK.no (decide_eq_false (by omega)) ?_) | (refine DecK.yes (decide_eq_true (by omega)) ?_) | (refine DecK.no (beq_eq_false_iff_ne.2 (by omega)) ?_) | (refine DecK.yes (beq_iff_eq.2 (by omega)) ?_) | (refine DecK.yes (bne_iff_ne.2 (by omega)) ?_) | (refine DecK.no (bne_eq_false_iff_eq.2 (by omega)) ?_) | (refine DecK.tt ?_) | (refine DecK.ff ?_) | (refine OptK.mk _ (sIdx 11 rfl hx) ?_) | (refine OptK.mk _ (sIdxC 11 48 rfl rfl rfl) ?_) | (refine OptK.mk _ (sIdxC 12 48 (by decide) rfl rfl) ?_)
          refine OptK.mk _ rfl ?_
          refine endV rfl ?_
          rw [hr]
          rfl
    · have wi : IntKind.i64.wrap (((12 : Nat) : Int) + 1) = ((13 : Nat) : Int) := by decide
      have hok : okB 12 c ↔ 48 ≤ c.toNat ∧ c.toNat ≤ 57 := Iff.rfl
      by_cases ok : 48 ≤ c.toNat ∧ c.toNat ≤ 57
      · repeat' first | first | (refine DecK.no (decide_eq_false (by omega)) ?_) | (refine DecK.yes (decide_eq_true (by omega)) ?_) | (refine DecK.no (beq_eq_false_iff_ne.2 (by omega)) ?_) | (refine DecK.yes (beq_iff_eq.2 (by omega)) ?_) | (refine DecK.yes (bne_iff_ne.2 (by omega)) ?_) | (refine DecK.no (bne_eq_false_iff_eq.2 (by omega)) ?_) | (refine DecK.tt ?_) | (refine DecK.ff ?_) | (refine OptK.mk _ (sIdx 12 rfl hx) ?_) | (refine OptK.mk _ (sIdxC 12 48 rfl rfl rfl) ?_) | (refine OptK.mk _ (sIdxC 13 58 (by decide) rfl rfl) ?_) | (refine OptK.mk _ (own_app (l := dnL s 12) hz_ni rfl rfl (by simp [dnL])) ?_)
        have hb := prt_lt (s := s) (a := stN 12) (b := 12) (by omega) (by decide) (fun j c hj hj' hjc => by
            have h3 := h2 j c hj' hjc
            have h4 : (show Nat from stN 12) ≤ j := hj
            rcases (show j = 11 by simp only [stN] at h4; omega) with rfl
            all_goals exact h3) (by decide)
        have hn : IntKind.i64.wrap (IntKind.i64.wrap (10 * prt s (stN 12) 12) + IntKind.i64.wrap (IntKind.u8.wrap ((c.toNat : Int) - 48))) = prt s (stN 12) (12 + 1) := by
          rw [u8_digit ok, w64 (n := 10 * _) (by omega), w64 (by omega), prt_succ hx (by decide) ok.1]
          omega
        refine loop_eq ?_ (ih 13 ⟨by omega, fun j c' hj hc' => ?_⟩ (by omega))
        · rw [hn, wi, show prt s (stN 13) 13 = 0 from prt_nil s 13]
          rfl
        · rcases (show j < 12 ∨ j = 12 by omega) with h | rfl
          · exact h2 j c' h hc'
          · rw [hx] at hc'; cases hc'; exact hok.2 ok
      · have hr := readV_bad (i := 12) (by decide) hx fun g => ok (hok.1 g)
        by_cases lo : c.toNat < 48
        · repeat' first | first | (refine DecK.no (decide_eq_false (by omega)) ?_) | (refine DecK.yes (decide_eq_true (by omega)) ?_) | (refine DecK.no (beq_eq_false_iff_ne.2 (by omega)) ?_) | (refine DecK.yes (beq_iff_eq.2 (by omega)) ?_) | (refine DecK.yes (bne_iff_ne.2 (by omega)) ?_) | (refine DecK.no (bne_eq_false_iff_eq.2 (by omega)) ?_) | (refine DecK.tt ?_) | (refine DecK.ff ?_) | (refine OptK.mk _ (sIdx 12 rfl hx) ?_) | (refine OptK.mk _ (sIdxC 12 48 rfl rfl rfl) ?_) | (refine OptK.mk _ (sIdxC 13 58 (by decide) rfl rfl) ?_) | (refine OptK.mk _ (own_app (l := dnL s 12) hz_ni rfl rfl (by simp [dnL])) ?_)
          refine OptK.mk _ rfl ?_
          refine endV rfl ?_
          rw [hr]
          rfl
        · repeat' first | first | (refine DecK.no (decide_eq_false (by omega)) ?_) | (refine DecK.yes (decide_eq_true (by omega)) ?_) | (refine DecK.no (beq_eq_false_iff_ne.2 (by omega)) ?_) | (refine DecK.yes (beq_iff_eq.2 (by omega)) ?_) | (refine DecK.yes (bne_iff_ne.2 (by omega)) ?_) | (refine DecK.no (bne_eq_false_iff_eq.2 (by omega)) ?_) | (refine DecK.tt ?_) | (refine DecK.ff ?_) | (refine OptK.mk _ (sIdx 12 rfl hx) ?_) | (refine OptK.mk _ (sIdxC 12 48 rfl rfl rfl) ?_) | (refine OptK.mk _ (sIdxC 13 58 (by decide) rfl rfl) ?_) | (refine OptK.mk _ (own_app (l := dnL s 12) hz_ni rfl rfl (by simp [dnL])) ?_)
          refine OptK.mk _ rfl ?_
          refine endV rfl ?_
          rw [hr]
          rfl
    · have wi : IntKind.i64.wrap (((13 : Nat) : Int) + 1) = ((14 : Nat) : Int) := by decide
      have hok : okB 13 c ↔ c.toNat = 58 := Iff.rfl
      by_cases ok : c.toNat = 58
      · repeat' first | first | (refine DecK.no (decide_eq_false (by omega)) ?_) | (refine DecK.yes (decide_eq_true (by omega)) ?_) | (refine DecK.no (beq_eq_false_iff_ne.2 (by omega)) ?_) | (refine DecK.yes (beq_iff_eq.2 (by omega)) ?_) | (refine DecK.yes (bne_iff_ne.2 (by omega)) ?_) | (refine DecK.no (bne_eq_false_iff_eq.2 (by omega)) ?_) | (refine DecK.tt ?_) | (refine DecK.ff ?_) | (refine OptK.mk _ (sIdx 13 rfl hx) ?_) | (refine OptK.mk _ (sIdxC 13 58 rfl rfl rfl) ?_) | (refine OptK.mk _ (sIdxC 14 48 (by decide) rfl rfl) ?_)
        refine loop_eq ?_ (ih 14 ⟨by omega, fun j c' hj hc' => ?_⟩ (by omega))
        · rw [wi, show prt s (stN 13) 13 = 0 from prt_nil s 13, show prt s (stN 14) 14 = 0 from prt_nil s 14]
          rfl
        · rcases (show j < 13 ∨ j = 13 by omega) with h | rfl
          · exact h2 j c' h hc'
          · rw [hx] at hc'; cases hc'; exact hok.2 ok
      · have hr := readV_bad (i := 13) (by decide) hx fun g => ok (hok.1 g)
        repeat' first | first | (refine DecK.no (decide_eq_false (by omega)) ?_) | (refine DecK.yes (decide_eq_true (by omega)) ?_) | (refine DecK.no (beq_eq_false_iff_ne.2 (by omega)) ?_) | (refine DecK.yes (beq_iff_eq.2 (by omega)) ?_) | (refine DecK.yes (bne_iff_ne.2 (by omega)) ?_) | (refine DecK.no (bne_eq_false_iff_eq.2 (by omega)) ?_) | (refine DecK.tt ?_) | (refine DecK.ff ?_) | (refine OptK.mk _ (sIdx 13 rfl hx) ?_) | (refine OptK.mk _ (sIdxC 13 58 rfl rfl rfl) ?_) | (refine OptK.mk _ (sIdxC 14 48 (by decide) rfl rfl) ?_)
        refine OptK.mk _ rfl ?_
        refine endV rfl ?_
        rw [hr]
        rfl
    · have wi : IntKind.i64.wrap (((14 : Nat) : Int) + 1) = ((15 : Nat) : Int) := by decide
      have hok : okB 14 c ↔ 48 ≤ c.toNat ∧ c.toNat ≤ 57 := Iff.rfl
      by_cases ok : 48 ≤ c.toNat ∧ c.toNat ≤ 57
      · repeat' first | first | (refine DecK.no (decide_eq_false (by omega)) ?_) | (refine DecK.yes (decide_eq_true (by omega)) ?_) | (refine DecK.no (beq_eq_false_iff_ne.2 (by omega)) ?_) | (refine DecK.yes (beq_iff_eq.2 (by omega)) ?_) | (refine DecK.yes (bne_iff_ne.2 (by omega)) ?_) | (refine DecK.no (bne_eq_false_iff_eq.2 (by omega)) ?_) | (refine DecK.tt ?_) | (refine DecK.ff ?_) | (refine OptK.mk _ (sIdx 14 rfl hx) ?_) | (refine OptK.mk _ (sIdxC 14 48 rfl rfl rfl) ?_) | (refine OptK.mk _ (sIdxC 15 48 (by decide) rfl rfl) ?_)
        have hb := prt_lt (s := s) (a := stN 14) (b := 14) (by omega) (by decide) (fun j c hj hj' hjc => by
            have h3 := h2 j c hj' hjc
            have h4 : (show Nat from stN 14) ≤ j := hj
            simp only [stN] at h4
            omega) (by decide)
        have hn : IntKind.i64.wrap (IntKind.i64.wrap (10 * prt s (stN 14) 14) + IntKind.i64.wrap (IntKind.u8.wrap ((c.toNat : Int) - 48))) = prt s (stN 14) (14 + 1) := by
          rw [u8_digit ok, w64 (n := 10 * _) (by omega), w64 (by omega), prt_succ hx (by decide) ok.1]
          omega
        refine loop_eq ?_ (ih 15 ⟨by omega, fun j c' hj hc' => ?_⟩ (by omega))
        · rw [hn, wi]
          rfl
        · rcases (show j < 14 ∨ j = 14 by omega) with h | rfl
          · exact h2 j c' h hc'
          · rw [hx] at hc'; cases hc'; exact hok.2 ok
      · have hr := readV_bad (i := 14) (by decide) hx fun g => ok (hok.1 g)
        by_cases lo : c.toNat < 48
        · repeat' first | first | (refine DecK.no (decide_eq_false (by omega)) ?_) | (refine DecK.yes (decide_eq_true (by omega)) ?_) | (refine DecK.no (beq_eq_false_iff_ne.2 (by omega)) ?_) | (refine DecK.yes (beq_iff_eq.2 (by omega)) ?_) | (refine DecK.yes (bne_iff_ne.2 (by omega)) ?_) | (refine DecK.no (bne_eq_false_iff_eq.2 (by omega)) ?_) | (refine DecK.tt ?_) | (refine DecK.ff ?_) | (refine OptK.mk _ (sIdx 14 rfl hx) ?_) | (refine OptK.mk _ (sIdxC 14 48 rfl rfl rfl) ?_) | (refine OptK.mk _ (sIdxC 15 48 (by decide) rfl rfl) ?_)
          refine OptK.mk _ rfl ?_
          refine endV rfl ?_
          rw [hr]
          rfl
        · repeat' first | first | (refine DecK.no (decide_eq_false (by omega)) ?_) | (refine DecK.yes (decide_eq_true (by omega)) ?_) | (refine DecK.no (beq_eq_false_iff_ne.2 (by omega)) ?_) | (refine DecK.yes (beq_iff_eq.2 (by omega)) ?_) | (refine DecK.yes (bne_iff_ne.2 (by omega)) ?_) | (refine DecK.no (bne_eq_false_iff_eq.2 (by omega)) ?_) | (refine DecK.tt ?_) | (refine DecK.ff ?_) | (refine OptK.mk _ (sIdx 14 rfl hx) ?_) | (refine OptK.mk _ (sIdxC 14 48 rfl rfl rfl) ?_) | (refine OptK.mk _ (sIdxC 15 48 (by decide) rfl rfl) ?_)
          refine OptK.mk _ rfl ?_
          refine endV rfl ?_
          rw [hr]
          rfl
    · have wi : IntKind.i64.wrap (((15 : Nat) : Int) + 1) = ((16 : Nat) : Int) := by decide
      have hok : okB 15 c ↔ 48 ≤ c.toNat ∧ c.toNat ≤ 57 := Iff.rfl
      by_cases ok : 48 ≤ c.toNat ∧ c.toNat ≤ 57
      · repeat' first | first | (refine DecK.no (decide_eq_false (by omega)) ?_) | (refine DecK.yes (decide_eq_true (by omega)) ?_) | (refine DecK.no (beq_eq_false_iff_ne.2 (by omega)) ?_) | (refine DecK.yes (beq_iff_eq.2 (by omega)) ?_) | (refine DecK.yes (bne_iff_ne.2 (by omega)) ?_) | (refine DecK.no (bne_eq_false_iff_eq.2 (by omega)) ?_) | (refine DecK.tt ?_) | (refine DecK.ff ?_) | (refine OptK.mk _ (sIdx 15 rfl hx) ?_) | (refine OptK.mk _ (sIdxC 15 48 rfl rfl rfl) ?_) | (refine OptK.mk _ (sIdxC 16 58 (by decide) rfl rfl) ?_) | (refine OptK.mk _ (own_app (l := dnL s 15) hz_ni rfl rfl (by simp [dnL])) ?_)
        have hb := prt_lt (s := s) (a := stN 15) (b := 15) (by omega) (by decide) (fun j c hj hj' hjc => by
            have h3 := h2 j c hj' hjc
            have h4 : (show Nat from stN 15) ≤ j := hj
            rcases (show j = 14 by simp only [stN] at h4; omega) with rfl
            all_goals exact h3) (by decide)
        have hn : IntKind.i64.wrap (IntKind.i64.wrap (10 * prt s (stN 15) 15) + IntKind.i64.wrap (IntKind.u8.wrap ((c.toNat : Int) - 48))) = prt s (stN 15) (15 + 1) := by
          rw [u8_digit ok, w64 (n := 10 * _) (by omega), w64 (by omega), prt_succ hx (by decide) ok.1]
          omega
        refine loop_eq ?_ (ih 16 ⟨by omega, fun j c' hj hc' => ?_⟩ (by omega))
        · rw [hn, wi, show prt s (stN 16) 16 = 0 from prt_nil s 16]
          rfl
        · rcases (show j < 15 ∨ j = 15 by omega) with h | rfl
          · exact h2 j c' h hc'
          · rw [hx] at hc'; cases hc'; exact hok.2 ok
      · have hr := readV_bad (i := 15) (by decide) hx fun g => ok (hok.1 g)
        by_cases lo : c.toNat < 48
        · repeat' first | first | (refine DecK.no (decide_eq_false (by omega)) ?_) | (refine DecK.yes (decide_eq_true (by omega)) ?_) | (refine DecK.no (beq_eq_false_iff_ne.2 (by omega)) ?_) | (refine DecK.yes (beq_iff_eq.2 (by omega)) ?_) | (refine DecK.yes (bne_iff_ne.2 (by omega)) ?_) | (refine DecK.no (bne_eq_false_iff_eq.2 (by omega)) ?_) | (refine DecK.tt ?_) | (refine DecK.ff ?_) | (refine OptK.mk _ (sIdx 15 rfl hx) ?_) | (refine OptK.mk _ (sIdxC 15 48 rfl rfl rfl) ?_) | (refine OptK.mk _ (sIdxC 16 58 (by decide) rfl rfl) ?_) | (refine OptK.mk _ (own_app (l := dnL s 15) hz_ni rfl rfl (by simp [dnL])) ?_)
          refine OptK.mk _ rfl ?_
          refine endV rfl ?_
          rw [hr]
          rfl
        · repeat' first | first | (refine DecK.no (decide_eq_false (by omega)) ?_) | (refine DecK.yes (decide_eq_true (by omega)) ?_) | (refine DecK.no (beq_eq_false_iff_ne.2 (by omega)) ?_) | (refine DecK.yes (beq_iff_eq.2 (by omega)) ?_) | (refine DecK.yes (bne_iff_ne.2 (by omega)) ?_) | (refine DecK.no (bne_eq_false_iff_eq.2 (by omega)) ?_) | (refine DecK.tt ?_) | (refine DecK.ff ?_) | (refine OptK.mk _ (sIdx 15 rfl hx) ?_) | (refine OptK.mk _ (sIdxC 15 48 rfl rfl rfl) ?_) | (refine OptK.mk _ (sIdxC 16 58 (by decide) rfl rfl) ?_) | (refine OptK.mk _ (own_app (l := dnL s 15) hz_ni rfl rfl (by simp [dnL])) ?_)
          refine OptK.mk _ rfl ?_
          refine endV rfl ?_
          rw [hr]
          rfl
    · have wi : IntKind.i64.wrap (((16 : Nat) : Int) + 1) = ((17 : Nat) : Int) := by decide
      have hok : okB 16 c ↔ c.toNat = 58 := Iff.rfl
      by_cases ok : c.toNat = 58
      · repeat' first | first | (refine DecK.no (decide_eq_false (by omega)) ?_) | (refine DecK.yes (decide_eq_true (by omega)) ?_) | (refine DecK.no (beq_eq_false_iff_ne.2 (by omega)) ?_) | (refine DecK.yes (beq_iff_eq.2 (by omega)) ?_) | (refine DecK.yes (bne_iff_ne.2 (by omega)) ?_) | (refine DecK.no (bne_eq_false_iff_eq.2 (by omega)) ?_) | (refine DecK.tt ?_) | (refine DecK.ff ?_) | (refine OptK.mk _ (sIdx 16 rfl hx) ?_) | (refine OptK.mk _ (sIdxC 16 58 rfl rfl rfl) ?_) | (refine OptK.mk _ (sIdxC 17 48 (by decide) rfl rfl) ?_)
        refine loop_eq ?_ (ih 17 ⟨by omega, fun j c' hj hc' => ?_⟩ (by omega))
        · rw [wi, show prt s (stN 16) 16 = 0 from prt_nil s 16, show prt s (stN 17) 17 = 0 from prt_nil s 17]
          rfl
        · rcases (show j < 16 ∨ j = 16 by omega) with h | rfl
          · exact h2 j c' h hc'
          · rw [hx] at hc'; cases hc'; exact hok.2 ok
      · have hr := readV_bad (i := 16) (by decide) hx fun g => ok (hok.1 g)
        repeat' first | first | (refine DecK.no (decide_eq_false (by omega)) ?_) | (refine DecK.yes (decide_eq_true (by omega)) ?_) | (refine DecK.no (beq_eq_false_iff_ne.2 (by omega)) ?_) | (refine DecK.yes (beq_iff_eq.2 (by omega)) ?_) | (refine DecK.yes (bne_iff_ne.2 (by omega)) ?_) | (refine DecK.no (bne_eq_false_iff_eq.2 (by omega)) ?_) | (refine DecK.tt ?_) | (refine DecK.ff ?_) | (refine OptK.mk _ (sIdx 16 rfl hx) ?_) | (refine OptK.mk _ (sIdxC 16 58 rfl rfl rfl) ?_) | (refine OptK.mk _ (sIdxC 17 48 (by decide) rfl rfl) ?_)
        refine OptK.mk _ rfl ?_
        refine endV rfl ?_
        rw [hr]
        rfl
    · have wi : IntKind.i64.wrap (((17 : Nat) : Int) + 1) = ((18 : Nat) : Int) := by decide
      have hok : okB 17 c ↔ 48 ≤ c.toNat ∧ c.toNat ≤ 57 := Iff.rfl
      by_cases ok : 48 ≤ c.toNat ∧ c.toNat ≤ 57
      · repeat' first | first | (refine DecK.no (decide_eq_false (by omega)) ?_) | (refine DecK.yes (decide_eq_true (by omega)) ?_) | (refine DecK.no (beq_eq_false_iff_ne.2 (by omega)) ?_) | (refine DecK.yes (beq_iff_eq.2 (by omega)) ?_) | (refine DecK.yes (bne_iff_ne.2 (by omega)) ?_) | (refine DecK.no (bne_eq_false_iff_eq.2 (by omega)) ?_) | (refine DecK.tt ?_) | (refine DecK.ff ?_) | (refine OptK.mk _ (sIdx 17 rfl hx) ?_) | (refine OptK.mk _ (sIdxC 17 48 rfl rfl rfl) ?_) | (refine OptK.mk _ (sIdxC 18 48 (by decide) rfl rfl) ?_)
        have hb := prt_lt (s := s) (a := stN 17) (b := 17) (by omega) (by decide) (fun j c hj hj' hjc => by
            have h3 := h2 j c hj' hjc
            have h4 : (show Nat from stN 17) ≤ j := hj
            simp only [stN] at h4
            omega) (by decide)
        have hn : IntKind.i64.wrap (IntKind.i64.wrap (10 * prt s (stN 17) 17) + IntKind.i64.wrap (IntKind.u8.wrap ((c.toNat : Int) - 48))) = prt s (stN 17) (17 + 1) := by
          rw [u8_digit ok, w64 (n := 10 * _) (by omega), w64 (by omega), prt_succ hx (by decide) ok.1]
          omega
        refine loop_eq ?_ (ih 18 ⟨by omega, fun j c' hj hc' => ?_⟩ (by omega))
        · rw [hn, wi]
          rfl
        · rcases (show j < 17 ∨ j = 17 by omega) with h | rfl
          · exact h2 j c' h hc'
          · rw [hx] at hc'; cases hc'; exact hok.2 ok
      · have hr := readV_bad (i := 17) (by decide) hx fun g => ok (hok.1 g)
        by_cases lo : c.toNat < 48
        · repeat' first | first | (refine DecK.no (decide_eq_false (by omega)) ?_) | (refine DecK.yes (decide_eq_true (by omega)) ?_) | (refine DecK.no (beq_eq_false_iff_ne.2 (by omega)) ?_) | (refine DecK.yes (beq_iff_eq.2 (by omega)) ?_) | (refine DecK.yes (bne_iff_ne.2 (by omega)) ?_) | (refine DecK.no (bne_eq_false_iff_eq.2 (by omega)) ?_) | (refine DecK.tt ?_) | (refine DecK.ff ?_) | (refine OptK.mk _ (sIdx 17 rfl hx) ?_) | (refine OptK.mk _ (sIdxC 17 48 rfl rfl rfl) ?_) | (refine OptK.mk _ (sIdxC 18 48 (by decide) rfl rfl) ?_)
          refine OptK.mk _ rfl ?_
          refine endV rfl ?_
          rw [hr]
          rfl
        · repeat' first | first | (refine DecK.no (decide_eq_false (by omega)) ?_) | (refine DecK.yes (decide_eq_true (by omega)) ?_) | (refine DecK.no (beq_eq_false_iff_ne.2 (by omega)) ?_) | (refine DecK.yes (beq_iff_eq.2 (by omega)) ?_) | (refine DecK.yes (bne_iff_ne.2 (by omega)) ?_) | (refine DecK.no (bne_eq_false_iff_eq.2 (by omega)) ?_) | (refine DecK.tt ?_) | (refine DecK.ff ?_) | (refine OptK.mk _ (sIdx 17 rfl hx) ?_) | (refine OptK.mk _ (sIdxC 17 48 rfl rfl rfl) ?_) | (refine OptK.mk _ (sIdxC 18 48 (by decide) rfl rfl) ?_)
          refine OptK.mk _ rfl ?_
          refine endV rfl ?_
          rw [hr]
          rfl
    · have wi : IntKind.i64.wrap (((18 : Nat) : Int) + 1) = ((19 : Nat) : Int) := by decide
      have hok : okB 18 c ↔ 48 ≤ c.toNat ∧ c.toNat ≤ 57 := Iff.rfl
      by_cases ok : 48 ≤ c.toNat ∧ c.toNat ≤ 57
      · repeat' first | first | (refine DecK.no (decide_eq_false (by omega)) ?_) | (refine DecK.yes (decide_eq_true (by omega)) ?_) | (refine DecK.no (beq_eq_false_iff_ne.2 (by omega)) ?_) | (refine DecK.yes (beq_iff_eq.2 (by omega)) ?_) | (refine DecK.yes (bne_iff_ne.2 (by omega)) ?_) | (refine DecK.no (bne_eq_false_iff_eq.2 (by omega)) ?_) | (refine DecK.tt ?_) | (refine DecK.ff ?_) | (refine OptK.mk _ (sIdx 18 rfl hx) ?_) | (refine OptK.mk _ (sIdxC 18 48 rfl rfl rfl) ?_) | (refine OptK.mk _ (sIdxC 19 46 (by decide) rfl rfl) ?_) | (refine OptK.mk _ (own_app (l := dnL s 18) hz_ni rfl rfl (by simp [dnL])) ?_)
        have hb := prt_lt (s := s) (a := stN 18) (b := 18) (by omega) (by decide) (fun j c hj hj' hjc => by
            have h3 := h2 j c hj' hjc
            have h4 : (show Nat from stN 18) ≤ j := hj
            rcases (show j = 17 by simp only [stN] at h4; omega) with rfl
            all_goals exact h3) (by decide)
        have hn : IntKind.i64.wrap (IntKind.i64.wrap (10 * prt s (stN 18) 18) + IntKind.i64.wrap (IntKind.u8.wrap ((c.toNat : Int) - 48))) = prt s (stN 18) (18 + 1) := by
          rw [u8_digit ok, w64 (n := 10 * _) (by omega), w64 (by omega), prt_succ hx (by decide) ok.1]
          omega
        refine loop_eq ?_ (ih 19 ⟨by omega, fun j c' hj hc' => ?_⟩ (by omega))
        · rw [hn, wi, show prt s (stN 19) 19 = 0 from prt_nil s 19]
          rfl
        · rcases (show j < 18 ∨ j = 18 by omega) with h | rfl
          · exact h2 j c' h hc'
          · rw [hx] at hc'; cases hc'; exact hok.2 ok
      · have hr := readV_bad (i := 18) (by decide) hx fun g => ok (hok.1 g)
        by_cases lo : c.toNat < 48
        · repeat' first | first | (refine DecK.no (decide_eq_false (by omega)) ?_) | (refine DecK.yes (decide_eq_true (by omega)) ?_) | (refine DecK.no (beq_eq_false_iff_ne.2 (by omega)) ?_) | (refine DecK.yes (beq_iff_eq.2 (by omega)) ?_) | (refine DecK.yes (bne_iff_ne.2 (by omega)) ?_) | (refine DecK.no (bne_eq_false_iff_eq.2 (by omega)) ?_) | (refine DecK.tt ?_) | (refine DecK.ff ?_) | (refine OptK.mk _ (sIdx 18 rfl hx) ?_) | (refine OptK.mk _ (sIdxC 18 48 rfl rfl rfl) ?_) | (refine OptK.mk _ (sIdxC 19 46 (by decide) rfl rfl) ?_) | (refine OptK.mk _ (own_app (l := dnL s 18) hz_ni rfl rfl (by simp [dnL])) ?_)
          refine OptK.mk _ rfl ?_
          refine endV rfl ?_
          rw [hr]
          rfl
        · repeat' first | first | (refine DecK.no (decide_eq_false (by omega)) ?_) | (refine DecK.yes (decide_eq_true (by omega)) ?_) | (refine DecK.no (beq_eq_false_iff_ne.2 (by omega)) ?_) | (refine DecK.yes (beq_iff_eq.2 (by omega)) ?_) | (refine DecK.yes (bne_iff_ne.2 (by omega)) ?_) | (refine DecK.no (bne_eq_false_iff_eq.2 (by omega)) ?_) | (refine DecK.tt ?_) | (refine DecK.ff ?_) | (refine OptK.mk _ (sIdx 18 rfl hx) ?_) | (refine OptK.mk _ (sIdxC 18 48 rfl rfl rfl) ?_) | (refine OptK.mk _ (sIdxC 19 46 (by decide) rfl rfl) ?_) | (refine OptK.mk _ (own_app (l := dnL s 18) hz_ni rfl rfl (by simp [dnL])) ?_)
          refine OptK.mk _ rfl ?_
          refine endV rfl ?_
          rw [hr]
          rfl
    · have wi : IntKind.i64.wrap (((19 : Nat) : Int) + 1) = ((20 : Nat) : Int) := by decide
      have hok : okB 19 c ↔ c.toNat = 46 := Iff.rfl
      by_cases ok : c.toNat = 46
      · repeat' first | first | (refine DecK.no (decide_eq_false (by omega)) ?_) | (refine DecK.yes (decide_eq_true (by omega)) ?_) | (refine DecK.no (beq_eq_false_iff_ne.2 (by omega)) ?_) | (refine DecK.yes (beq_iff_eq.2 (by omega)) ?_) | (refine DecK.yes (bne_iff_ne.2 (by omega)) ?_) | (refine DecK.no (bne_eq_false_iff_eq.2 (by omega)) ?_) | (refine DecK.tt ?_) | (refine DecK.ff ?_) | (refine OptK.mk _ (sIdx 19 rfl hx) ?_) | (refine OptK.mk _ (sIdxC 19 46 rfl rfl rfl) ?_) | (refine OptK.mk _ (sIdxC 20 48 (by decide) rfl rfl) ?_)
        refine loop_eq ?_ (ih 20 ⟨by omega, fun j c' hj hc' => ?_⟩ (by omega))
        · rw [wi, show prt s (stN 19) 19 = 0 from prt_nil s 19, show prt s (stN 20) 20 = 0 from prt_nil s 20]
          rfl
        · rcases (show j < 19 ∨ j = 19 by omega) with h | rfl
          · exact h2 j c' h hc'
          · rw [hx] at hc'; cases hc'; exact hok.2 ok
      · have hr := readV_bad (i := 19) (by decide) hx fun g => ok (hok.1 g)
        repeat' first | first | (refine DecK.no (decide_eq_false (by omega)) ?_) | (refine DecK.yes (decide_eq_true (by omega)) ?_) | (refine DecK.no (beq_eq_false_iff_ne.2 (by omega)) ?_) | (refine DecK.yes (beq_iff_eq.2 (by omega)) ?_) | (refine DecK.yes (bne_iff_ne.2 (by omega)) ?_) | (refine DecK.no (bne_eq_false_iff_eq.2 (by omega)) ?_) | (refine DecK.tt ?_) | (refine DecK.ff ?_) | (refine OptK.mk _ (sIdx 19 rfl hx) ?_) | (refine OptK.mk _ (sIdxC 19 46 rfl rfl rfl) ?_) | (refine OptK.mk _ (sIdxC 20 48 (by decide) rfl rfl) ?_)
        refine OptK.mk _ rfl ?_
        refine endV rfl ?_
        rw [hr]
        rfl
    · have wi : IntKind.i64.wrap (((20 : Nat) : Int) + 1) = ((21 : Nat) : Int) := by decide
      have hok : okB 20 c ↔ 48 ≤ c.toNat ∧ c.toNat ≤ 57 := Iff.rfl
      by_cases ok : 48 ≤ c.toNat ∧ c.toNat ≤ 57
      · repeat' first | first | (refine DecK.no (decide_eq_false (by omega)) ?_) | (refine DecK.yes (decide_eq_true (by omega)) ?_) | (refine DecK.no (beq_eq_false_iff_ne.2 (by omega)) ?_) | (refine DecK.yes (beq_iff_eq.2 (by omega)) ?_) | (refine DecK.yes (bne_iff_ne.2 (by omega)) ?_) | (refine DecK.no (bne_eq_false_iff_eq.2 (by omega)) ?_) | (refine DecK.tt ?_) | (refine DecK.ff ?_) | (refine OptK.mk _ (sIdx 20 rfl hx) ?_) | (refine OptK.mk _ (sIdxC 20 48 rfl rfl rfl) ?_) | (refine OptK.mk _ (sIdxC 21 48 (by decide) rfl rfl) ?_)
        have hb := prt_lt (s := s) (a := stN 20) (b := 20) (by omega) (by decide) (fun j c hj hj' hjc => by
            have h3 := h2 j c hj' hjc
            have h4 : (show Nat from stN 20) ≤ j := hj
            simp only [stN] at h4
            omega) (by decide)
        have hn : IntKind.i64.wrap (IntKind.i64.wrap (10 * prt s (stN 20) 20) + IntKind.i64.wrap (IntKind.u8.wrap ((c.toNat : Int) - 48))) = prt s (stN 20) (20 + 1) := by
          rw [u8_digit ok, w64 (n := 10 * _) (by omega), w64 (by omega), prt_succ hx (by decide) ok.1]
          omega
        refine loop_eq ?_ (ih 21 ⟨by omega, fun j c' hj hc' => ?_⟩ (by omega))
        · rw [hn, wi]
          rfl
        · rcases (show j < 20 ∨ j = 20 by omega) with h | rfl
          · exact h2 j c' h hc'
          · rw [hx] at hc'; cases hc'; exact hok.2 ok
      · have hr := readV_bad (i := 20) (by decide) hx fun g => ok (hok.1 g)
        by_cases lo : c.toNat < 48
        · repeat' first | first | (refine DecK.no (decide_eq_false (by omega)) ?_) | (refine DecK.yes (decide_eq_true (by omega)) ?_) | (refine DecK.no (beq_eq_false_iff_ne.2 (by omega)) ?_) | (refine DecK.yes (beq_iff_eq.2 (by omega)) ?_) | (refine DecK.yes (bne_iff_ne.2 (by omega)) ?_) | (refine DecK.no (bne_eq_false_iff_eq.2 (by omega)) ?_) | (refine DecK.tt ?_) | (refine DecK.ff ?_) | (refine OptK.mk _ (sIdx 20 rfl hx) ?_) | (refine OptK.mk _ (sIdxC 20 48 rfl rfl rfl) ?_) | (refine OptK.mk _ (sIdxC 21 48 (by decide) rfl rfl) ?_)
          refine OptK.mk _ rfl ?_
          refine endV rfl ?_
          rw [hr]
          rfl
        · repeat' first | first | (refine DecK.no (decide_eq_false (by omega)) ?_) | (refine DecK.yes (decide_eq_true (by omega)) ?_) | (refine DecK.no (beq_eq_false_iff_ne.2 (by omega)) ?_) | (refine DecK.yes (beq_iff_eq.2 (by omega)) ?_) | (refine DecK.yes (bne_iff_ne.2 (by omega)) ?_) | (refine DecK.no (bne_eq_false_iff_eq.2 (by omega)) ?_) | (refine DecK.tt ?_) | (refine DecK.ff ?_) | (refine OptK.mk _ (sIdx 20 rfl hx) ?_) | (refine OptK.mk _ (sIdxC 20 48 rfl rfl rfl) ?_) | (refine OptK.mk _ (sIdxC 21 48 (by decide) rfl rfl) ?_)
          refine OptK.mk _ rfl ?_
          refine endV rfl ?_
          rw [hr]
          rfl
    · have wi : IntKind.i64.wrap (((21 : Nat) : Int) + 1) = ((22 : Nat) : Int) := by decide
      have hok : okB 21 c ↔ 48 ≤ c.toNat ∧ c.toNat ≤ 57 := Iff.rfl
      by_cases ok : 48 ≤ c.toNat ∧ c.toNat ≤ 57
      · repeat' first | first | (refine DecK.no (decide_eq_false (by omega)) ?_) | (refine DecK.yes (decide_eq_true (by omega)) ?_) | (refine DecK.no (beq_eq_false_iff_ne.2 (by omega)) ?_) | (refine DecK.yes (beq_iff_eq.2 (by omega)) ?_) | (refine DecK.yes (bne_iff_ne.2 (by omega)) ?_) | (refine DecK.no (bne_eq_false_iff_eq.2 (by omega)) ?_) | (refine DecK.tt ?_) | (refine DecK.ff ?_) | (refine OptK.mk _ (sIdx 21 rfl hx) ?_) | (refine OptK.mk _ (sIdxC 21 48 rfl rfl rfl) ?_) | (refine OptK.mk _ (sIdxC 22 48 (by decide) rfl rfl) ?_)
        have hb := prt_lt (s := s) (a := stN 21) (b := 21) (by omega) (by decide) (fun j c hj hj' hjc => by
            have h3 := h2 j c hj' hjc
            have h4 : (show Nat from stN 21) ≤ j := hj
            rcases (show j = 20 by simp only [stN] at h4; omega) with rfl
            all_goals exact h3) (by decide)
        have hn : IntKind.i64.wrap (IntKind.i64.wrap (10 * prt s (stN 21) 21) + IntKind.i64.wrap (IntKind.u8.wrap ((c.toNat : Int) - 48))) = prt s (stN 21) (21 + 1) := by
          rw [u8_digit ok, w64 (n := 10 * _) (by omega), w64 (by omega), prt_succ hx (by decide) ok.1]
          omega
        refine loop_eq ?_ (ih 22 ⟨by omega, fun j c' hj hc' => ?_⟩ (by omega))
        · rw [hn, wi]
          rfl
        · rcases (show j < 21 ∨ j = 21 by omega) with h | rfl
          · exact h2 j c' h hc'
          · rw [hx] at hc'; cases hc'; exact hok.2 ok
      · have hr := readV_bad (i := 21) (by decide) hx fun g => ok (hok.1 g)
        by_cases lo : c.toNat < 48
        · repeat' first | first | (refine DecK.no (decide_eq_false (by omega)) ?_) | (refine DecK.yes (decide_eq_true (by omega)) ?_) | (refine DecK.no (beq_eq_false_iff_ne.2 (by omega)) ?_) | (refine DecK.yes (beq_iff_eq.2 (by omega)) ?_) | (refine DecK.yes (bne_iff_ne.2 (by omega)) ?_) | (refine DecK.no (bne_eq_false_iff_eq.2 (by omega)) ?_) | (refine DecK.tt ?_) | (refine DecK.ff ?_) | (refine OptK.mk _ (sIdx 21 rfl hx) ?_) | (refine OptK.mk _ (sIdxC 21 48 rfl rfl rfl) ?_) | (refine OptK.mk _ (sIdxC 22 48 (by decide) rfl rfl) ?_)
          refine OptK.mk _ rfl ?_
          refine endV rfl ?_
          rw [hr]
          rfl
        · repeat' first | first | (refine DecK.no (decide_eq_false (by omega)) ?_) | (refine DecK.yes (decide_eq_true (by omega)) ?_) | (refine DecK.no (beq_eq_false_iff_ne.2 (by omega)) ?_) | (refine DecK.yes (beq_iff_eq.2 (by omega)) ?_) | (refine DecK.yes (bne_iff_ne.2 (by omega)) ?_) | (refine DecK.no (bne_eq_false_iff_eq.2 (by omega)) ?_) | (refine DecK.tt ?_) | (refine DecK.ff ?_) | (refine OptK.mk _ (sIdx 21 rfl hx) ?_) | (refine OptK.mk _ (sIdxC 21 48 rfl rfl rfl) ?_) | (refine OptK.mk _ (sIdxC 22 48 (by decide) rfl rfl) ?_)
          refine OptK.mk _ rfl ?_
          refine endV rfl ?_
          rw [hr]
          rfl
    · have wi : IntKind.i64.wrap (((22 : Nat) : Int) + 1) = ((23 : Nat) : Int) := by decide
      have hok : okB 22 c ↔ 48 ≤ c.toNat ∧ c.toNat ≤ 57 := Iff.rfl
      by_cases ok : 48 ≤ c.toNat ∧ c.toNat ≤ 57
      · repeat' first | first | (refine DecK.no (decide_eq_false (by omega)) ?_) | (refine DecK.yes (decide_eq_true (by omega)) ?_) | (refine DecK.no (beq_eq_false_iff_ne.2 (by omega)) ?_) | (refine DecK.yes (beq_iff_eq.2 (by omega)) ?_) | (refine DecK.yes (bne_iff_ne.2 (by omega)) ?_) | (refine DecK.no (bne_eq_false_iff_eq.2 (by omega)) ?_) | (refine DecK.tt ?_) | (refine DecK.ff ?_) | (refine OptK.mk _ (sIdx 22 rfl hx) ?_) | (refine OptK.mk _ (sIdxC 22 48 rfl rfl rfl) ?_) | (refine OptK.mk _ (own_app (l := dnL s 22) hz_ni rfl rfl (by simp [dnL])) ?_)
        have hb := prt_lt (s := s) (a := stN 22) (b := 22) (by omega) (by decide) (fun j c hj hj' hjc => by
            have h3 := h2 j c hj' hjc
            have h4 : (show Nat from stN 22) ≤ j := hj
            rcases (show j = 20 ∨ j = 21 by simp only [stN] at h4; omega) with rfl | rfl
            all_goals exact h3) (by decide)
        have hn : IntKind.i64.wrap (IntKind.i64.wrap (10 * prt s (stN 22) 22) + IntKind.i64.wrap (IntKind.u8.wrap ((c.toNat : Int) - 48))) = prt s (stN 22) (22 + 1) := by
          rw [u8_digit ok, w64 (n := 10 * _) (by omega), w64 (by omega), prt_succ hx (by decide) ok.1]
          omega
        refine loop_eq ?_ (ih 23 ⟨by omega, fun j c' hj hc' => ?_⟩ (by omega))
        · rw [hn, wi, show prt s (stN 23) 23 = 0 from prt_nil s 23]
          rfl
        · rcases (show j < 22 ∨ j = 22 by omega) with h | rfl
          · exact h2 j c' h hc'
          · rw [hx] at hc'; cases hc'; exact hok.2 ok
      · have hr := readV_bad (i := 22) (by decide) hx fun g => ok (hok.1 g)
        by_cases lo : c.toNat < 48
        · repeat' first | first | (refine DecK.no (decide_eq_false (by omega)) ?_) | (refine DecK.yes (decide_eq_true (by omega)) ?_) | (refine DecK.no (beq_eq_false_iff_ne.2 (by omega)) ?_) | (refine DecK.yes (beq_iff_eq.2 (by omega)) ?_) | (refine DecK.yes (bne_iff_ne.2 (by omega)) ?_) | (refine DecK.no (bne_eq_false_iff_eq.2 (by omega)) ?_) | (refine DecK.tt ?_) | (refine DecK.ff ?_) | (refine OptK.mk _ (sIdx 22 rfl hx) ?_) | (refine OptK.mk _ (sIdxC 22 48 rfl rfl rfl) ?_) | (refine OptK.mk _ (own_app (l := dnL s 22) hz_ni rfl rfl (by simp [dnL])) ?_)
          refine OptK.mk _ rfl ?_
          refine endV rfl ?_
          rw [hr]
          rfl
        · repeat' first | first | (refine DecK.no (decide_eq_false (by omega)) ?_) | (refine DecK.yes (decide_eq_true (by omega)) ?_) | (refine DecK.no (beq_eq_false_iff_ne.2 (by omega)) ?_) | (refine DecK.yes (beq_iff_eq.2 (by omega)) ?_) | (refine DecK.yes (bne_iff_ne.2 (by omega)) ?_) | (refine DecK.no (bne_eq_false_iff_eq.2 (by omega)) ?_) | (refine DecK.tt ?_) | (refine DecK.ff ?_) | (refine OptK.mk _ (sIdx 22 rfl hx) ?_) | (refine OptK.mk _ (sIdxC 22 48 rfl rfl rfl) ?_) | (refine OptK.mk _ (own_app (l := dnL s 22) hz_ni rfl rfl (by simp [dnL])) ?_)
          refine OptK.mk _ rfl ?_
          refine endV rfl ?_
          rw [hr]
          rfl
  · obtain rfl : i = 23 := by omega
    have hg := goodT_of hl h2
    have hr : readV s = (if civErr (prt s 0 4) (prt s 5 7) (prt s 8 10) (prt s 11 13) (prt s 14 16) (prt s 17 19) (prt s 20 23) = 0 then .tup [civilV (prt s 0 4) (prt s 5 7) (prt s 8 10) (prt s 11 13) (prt s 14 16) (prt s 17 19) (prt s 20 23), .n .i64 0] else .tup [civilV 0 0 0 0 0 0 0, .n .i64 (civErr (prt s 0 4) (prt s 5 7) (prt s 8 10) (prt s 11 13) (prt s 14 16) (prt s 17 19) (prt s 20 23))]) := if_pos ⟨hl, hg⟩
    repeat' (refine OptK.mk _ rfl ?_)
    refine CallK.mk _ (check_ok (prt s 0 4) (prt s 5 7) (prt s 8 10) (prt s 11 13) (prt s 14 16) (prt s 17 19) (prt s 20 23)) rfl ?_
    by_cases ce : civErr (prt s 0 4) (prt s 5 7) (prt s 8 10) (prt s 11 13) (prt s 14 16) (prt s 17 19) (prt s 20 23) = 0
    · refine DecK.no (bne_eq_false_iff_eq.2 ce) ?_
      repeat' (refine OptK.mk _ rfl ?_)
      refine endV rfl ?_
      rw [hr, if_pos ce]
      rfl
    · refine DecK.yes (bne_iff_ne.2 ce) ?_
      repeat' (refine OptK.mk _ rfl ?_)
      refine endV rfl ?_
      rw [hr, if_neg ce]
      rfl
end Go.Proofs.YtljcbmnkjiogmaaDoor.Sv
