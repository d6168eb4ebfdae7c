/- Civil times are read from texts by parts. No condition. -/
import Derived.Test.YtljcbmnkjiogmaaDoorSu
namespace Go.Proofs.YtljcbmnkjiogmaaDoor.Sv
open Go Go.RowKit
set_option linter.unusedVariables false
set_option linter.unusedSimpArgs false
set_option maxRecDepth 100000
/-- live: [1, 2, 14, 15] -/
def L15_0 : SC := .seq (.reg [⟨some 16, none, .po (.bin .lss), [.tm 15, .tm 14]⟩] [1, 2, 14, 15, 16]) (.seq (.cond (.tm 16) .skip (.exit 0)) (.seq (.block 1 (.seq (.reg [⟨some 17, none, .mv, [.tm 15]⟩, ⟨some 4, none, .mv, [.tm 17]⟩] [1, 2, 4, 14, 15]) (.seq (.reg [⟨some 5, none, .mv, [.cn (.s (⟨⟨[]⟩⟩ : ByteArray))]⟩] [1, 2, 4, 5, 14, 15]) (.seq (.seq (.reg [⟨some 18, none, .mv, [.tm 4]⟩] [1, 2, 4, 5, 14, 15, 18]) (.block 2 (.seq (.seq (.reg [⟨some 20, none, .po (.bin .eql), [.tm 18, .cn (.n .i64 4)]⟩, ⟨some 19, none, .mv, [.tm 20]⟩] [1, 2, 4, 5, 14, 15, 18, 19]) (.cond (.tm 19) .skip (.reg [⟨some 21, none, .po (.bin .eql), [.tm 18, .cn (.n .i64 7)]⟩, ⟨some 19, none, .mv, [.tm 21]⟩] [1, 2, 4, 5, 14, 15, 18, 19]))) (.cond (.tm 19) (.reg [⟨some 5, none, .mv, [.cn (.s (⟨⟨[45]⟩⟩ : ByteArray))]⟩] [1, 2, 4, 5, 14, 15]) (.seq (.reg [⟨some 23, none, .po (.bin .eql), [.tm 18, .cn (.n .i64 10)]⟩, ⟨some 22, none, .mv, [.tm 23]⟩] [1, 2, 4, 5, 14, 15, 18, 22]) (.cond (.tm 22) (.reg [⟨some 5, none, .mv, [.cn (.s (⟨⟨[84]⟩⟩ : ByteArray))]⟩] [1, 2, 4, 5, 14, 15]) (.seq (.seq (.reg [⟨some 25, none, .po (.bin .eql), [.tm 18, .cn (.n .i64 13)]⟩, ⟨some 24, none, .mv, [.tm 25]⟩] [1, 2, 4, 5, 14, 15, 18, 24]) (.cond (.tm 24) .skip (.reg [⟨some 26, none, .po (.bin .eql), [.tm 18, .cn (.n .i64 16)]⟩, ⟨some 24, none, .mv, [.tm 26]⟩] [1, 2, 4, 5, 14, 15, 18, 24]))) (.cond (.tm 24) (.reg [⟨some 5, none, .mv, [.cn (.s (⟨⟨[58]⟩⟩ : ByteArray))]⟩] [1, 2, 4, 5, 14, 15]) (.seq (.reg [⟨some 28, none, .po (.bin .eql), [.tm 18, .cn (.n .i64 19)]⟩, ⟨some 27, none, .mv, [.tm 28]⟩] [1, 2, 4, 5, 14, 15, 27]) (.cond (.tm 27) (.reg [⟨some 5, none, .mv, [.cn (.s (⟨⟨[46]⟩⟩ : ByteArray))]⟩] [1, 2, 4, 5, 14, 15]) .skip)))))))))) (.seq (.reg [⟨some 29, none, .mv, [.tm 5]⟩, ⟨some 30, none, .po (.bin .neq), [.tm 29, .cn (.s (⟨⟨[]⟩⟩ : ByteArray))]⟩, ⟨some 31, none, .mv, [.tm 30]⟩, ⟨some 32, some (31, true), .ld false 1 false, [.tm 1]⟩, ⟨some 33, some (31, true), .mv, [.tm 4]⟩, ⟨some 34, some (31, true), .mv, [.tm 4]⟩, ⟨some 35, some (31, true), .po (.bin .add), [.tm 34, .cn (.n .i64 1)]⟩, ⟨some 36, some (31, true), .sl true 1 true true false, [.tm 32, .tm 33, .tm 35]⟩, ⟨some 37, some (31, true), .mv, [.tm 5]⟩, ⟨some 38, some (31, true), .po (.bin .neq), [.tm 36, .tm 37]⟩, ⟨some 39, none, .pick, [.tm 31, .tm 38, .cn (.b false)]⟩, ⟨some 40, none, .mv, [.tm 39]⟩, ⟨some 41, some (40, false), .mv, [.tm 5]⟩, ⟨some 42, some (40, false), .po (.bin .eql), [.tm 41, .cn (.s (⟨⟨[]⟩⟩ : ByteArray))]⟩, ⟨some 43, some (40, false), .mv, [.tm 42]⟩, ⟨some 44, some (43, true), .ld false 1 false, [.tm 1]⟩, ⟨some 45, some (43, true), .mv, [.tm 4]⟩, ⟨some 46, some (43, true), .po .idxS, [.tm 44, .tm 45]⟩, ⟨some 47, some (43, true), .po (.bin .gtr), [.tm 46, .cn (.n .u8 57)]⟩, ⟨some 48, some (43, true), .mv, [.tm 47]⟩, ⟨some 49, some (48, false), .ld false 1 false, [.tm 1]⟩, ⟨some 50, some (48, false), .mv, [.tm 4]⟩, ⟨some 51, some (48, false), .po .idxS, [.tm 49, .tm 50]⟩, ⟨some 52, some (48, false), .po (.bin .lss), [.tm 51, .cn (.n .u8 48)]⟩, ⟨some 53, some (43, true), .pick, [.tm 48, .cn (.b true), .tm 52]⟩, ⟨some 54, some (40, false), .pick, [.tm 43, .tm 53, .cn (.b false)]⟩, ⟨some 55, none, .pick, [.tm 40, .cn (.b true), .tm 54]⟩] [1, 2, 14, 15, 55]) (.cond (.tm 55) (.seq (.reg [⟨some 56, none, .po (.build [.n .i64 0, .n .i64 0, .n .i64 0, .n .i64 0, .n .i64 0, .n .i64 0, .n .i64 0] []), []⟩, ⟨none, none, .st 7, [.tm 2, .tm 56]⟩, ⟨some 3, none, .mv, [.cn (.n .i64 5)]⟩] [2, 3]) .ret) .skip)))))) (.reg [⟨some 57, none, .po (.bin .add), [.tm 15, .cn (.n .i64 1)]⟩, ⟨some 15, none, .mv, [.tm 57]⟩] [1, 2, 14, 15])))
/-- spyglass/spyref1.CivilRead -/
def F15 : Fn1 := ⟨81, .seq (.reg [⟨some 1, none, .box, [.tm 0]⟩, ⟨some 2, none, .alloc [.n .i64 0, .n .i64 0, .n .i64 0, .n .i64 0, .n .i64 0, .n .i64 0, .n .i64 0], []⟩, ⟨some 3, none, .mv, [.cn (.n .i64 0)]⟩] [1, 2]) (.seq (.seq (.reg [⟨some 9, none, .ld false 1 false, [.tm 1]⟩, ⟨some 10, none, .len true, [.tm 9]⟩, ⟨some 11, none, .po (.bin .neq), [.tm 10, .cn (.n .i64 23)]⟩] [1, 2, 11]) (.cond (.tm 11) (.seq (.reg [⟨some 12, none, .po (.build [.n .i64 0, .n .i64 0, .n .i64 0, .n .i64 0, .n .i64 0, .n .i64 0, .n .i64 0] []), []⟩, ⟨none, none, .st 7, [.tm 2, .tm 12]⟩, ⟨some 3, none, .mv, [.cn (.n .i64 5)]⟩] [2, 3]) .ret) .skip)) (.seq (.seq (.reg [⟨some 13, none, .ld false 1 false, [.tm 1]⟩, ⟨some 14, none, .len true, [.tm 13]⟩, ⟨some 15, none, .mv, [.cn (.n .i64 0)]⟩] [1, 2, 14, 15]) (.block 0 (.loop [1, 2, 14, 15] L15_0))) (.seq (.reg [⟨some 58, none, .po (.mkF (.func 37) 0), [.tm 1]⟩, ⟨some 6, none, .mv, [.tm 58]⟩] [2, 6]) (.seq (.reg [⟨some 59, none, .mv, [.tm 6]⟩, ⟨some 60, none, .callD, [.tm 59, .cn (.n .i64 0), .cn (.n .i64 4)]⟩, ⟨some 61, none, .mv, [.tm 6]⟩, ⟨some 62, none, .callD, [.tm 61, .cn (.n .i64 5), .cn (.n .i64 7)]⟩, ⟨some 63, none, .mv, [.tm 6]⟩, ⟨some 64, none, .callD, [.tm 63, .cn (.n .i64 8), .cn (.n .i64 10)]⟩, ⟨some 65, none, .mv, [.tm 6]⟩, ⟨some 66, none, .callD, [.tm 65, .cn (.n .i64 11), .cn (.n .i64 13)]⟩, ⟨some 67, none, .mv, [.tm 6]⟩, ⟨some 68, none, .callD, [.tm 67, .cn (.n .i64 14), .cn (.n .i64 16)]⟩, ⟨some 69, none, .mv, [.tm 6]⟩, ⟨some 70, none, .callD, [.tm 69, .cn (.n .i64 17), .cn (.n .i64 19)]⟩, ⟨some 71, none, .mv, [.tm 6]⟩, ⟨some 72, none, .callD, [.tm 71, .cn (.n .i64 20), .cn (.n .i64 23)]⟩, ⟨some 73, none, .po (.build [.n .i64 0, .n .i64 0, .n .i64 0, .n .i64 0, .n .i64 0, .n .i64 0, .n .i64 0] [(0, 1), (1, 1), (2, 1), (3, 1), (4, 1), (5, 1), (6, 1)]), [.tm 60, .tm 62, .tm 64, .tm 66, .tm 68, .tm 70, .tm 72]⟩, ⟨some 7, none, .alloc [.n .i64 0, .n .i64 0, .n .i64 0, .n .i64 0, .n .i64 0, .n .i64 0, .n .i64 0], []⟩, ⟨none, none, .st 7, [.tm 7, .tm 73]⟩] [2, 7]) (.seq (.seq (.reg [⟨some 74, none, .ld true 7 false, [.tm 7]⟩, ⟨some 75, none, .call 35, [.tm 74]⟩, ⟨some 8, none, .mv, [.tm 75]⟩] [2, 7, 8]) (.seq (.reg [⟨some 76, none, .mv, [.tm 8]⟩, ⟨some 77, none, .po (.bin .neq), [.tm 76, .cn (.n .i64 0)]⟩] [2, 7, 8, 77]) (.cond (.tm 77) (.seq (.reg [⟨some 78, none, .po (.build [.n .i64 0, .n .i64 0, .n .i64 0, .n .i64 0, .n .i64 0, .n .i64 0, .n .i64 0] []), []⟩, ⟨some 79, none, .mv, [.tm 8]⟩, ⟨none, none, .st 7, [.tm 2, .tm 78]⟩, ⟨some 3, none, .mv, [.tm 79]⟩] [2, 3]) .ret) .skip))) (.seq (.reg [⟨some 80, none, .ld true 7 false, [.tm 7]⟩, ⟨none, none, .st 7, [.tm 2, .tm 80]⟩, ⟨some 3, none, .mv, [.cn (.n .i64 0)]⟩] [2, 3]) .ret)))))), [.cell 2 true 7, .tm 3]⟩
theorem of15 : Fn1.of Tryd.prog 15 ⟨false, [], false⟩ [[1, 2], [1, 2, 11], [2, 3], [1, 2, 14, 15], [1, 2, 14, 15], [1, 2, 14, 15, 16], [1, 2, 4, 14, 15], [1, 2, 4, 5, 14, 15], [1, 2, 4, 5, 14, 15, 18], [1, 2, 4, 5, 14, 15, 18, 19], [1, 2, 4, 5, 14, 15, 18, 19], [1, 2, 4, 5, 14, 15], [1, 2, 4, 5, 14, 15, 18, 22], [1, 2, 4, 5, 14, 15], [1, 2, 4, 5, 14, 15, 18, 24], [1, 2, 4, 5, 14, 15, 18, 24], [1, 2, 4, 5, 14, 15], [1, 2, 4, 5, 14, 15, 27], [1, 2, 4, 5, 14, 15], [1, 2, 14, 15, 55], [2, 3], [1, 2, 14, 15], [2, 6], [2, 7], [2, 7, 8], [2, 7, 8, 77], [2, 3], [2, 3]] = some F15 := by kernel_rfl
/-- spyglass/spyref1.CivilRead$1 -/
def F37 : Fn1 := ⟨18, .seq (.reg [⟨some 5, none, .mv, [.cn (.n .i64 0)]⟩] [0, 1, 2]) (.seq (.reg [⟨some 9, none, .ld false 1 false, [.tm 2]⟩, ⟨some 10, none, .mv, [.tm 0]⟩, ⟨some 11, none, .mv, [.tm 1]⟩, ⟨some 12, none, .sl true 1 true true false, [.tm 9, .tm 10, .tm 11]⟩, ⟨some 13, none, .call 38, [.tm 12]⟩, ⟨some 14, none, .call 39, [.tm 13]⟩, ⟨some 8, none, .mv, [.tm 14]⟩, ⟨some 15, none, .po (.ext 0), [.tm 8]⟩, ⟨some 16, none, .po (.ext 1), [.tm 8]⟩, ⟨some 6, none, .mv, [.tm 15]⟩, ⟨some 7, none, .mv, [.tm 16]⟩] [6]) (.seq (.reg [⟨some 17, none, .mv, [.tm 6]⟩, ⟨some 5, none, .mv, [.tm 17]⟩] [5]) .ret)), [.tm 5]⟩
theorem of37 : Fn1.of Tryd.prog 37 ⟨false, [], false⟩ [[0, 1, 2], [6], [5]] = some F37 := by kernel_rfl
theorem prt_dec {s : List UInt8} (hl : s.length = 23) (hg : goodT s) {a b : Nat} (hb : b ≤ 23) (hd : ∀ j, j < b → a ≤ j → formL.getD j 0 = 48) : isDec ((s.take b).drop a) := fun c hc => by
  obtain ⟨j, hj⟩ := List.mem_iff_getElem?.1 hc
  rw [List.getElem?_drop, List.getElem?_take] at hj
  split at hj
  · have h := goodT_at hg (i := a + j) (by omega) hj
    unfold okB at h
    rwa [if_pos (hd (a + j) (by omega) (by omega))] at h
  · cases hj
theorem part_ok (s : List UInt8) (hl : s.length = 23) (hg : goodT s) (a b : Nat) (hab : a < b) (hb : b ≤ 23) (h4 : b ≤ a + 4) (hd : ∀ j, j < b → a ≤ j → formL.getD j 0 = 48) : Pure Tryd.prog 37 [.n .i64 (a : Int), .n .i64 (b : Int), .ip [strB s]] (.n .i64 (prt s a b)) := by
  have hdec := prt_dec hl hg hb hd
  have hlen : ((s.take b).drop a).length = b - a := by rw [List.length_drop, List.length_take]; omega
  have hnp : Lib.hasPrefix ((s.take b).drop a) [45] = false := by
    generalize (s.take b).drop a = p at hdec hlen
    cases p with
    | nil => simp at hlen; omega
    | cons c p =>
      have := (hdec c List.mem_cons_self).1
      have hne : ¬ (45 : UInt8) = c := fun e => by subst e; exact absurd this (by decide)
      simp [Lib.hasPrefix, List.isPrefixOf, hne]
  have hD := Digits_ok ((s.take b).drop a) (by omega) (by rw [hnp]; exact hdec)
  have hsd : sdv ((s.take b).drop a) = prt s a b := by unfold sdv prt; rw [hnp]; rfl
  rw [hsd] at hD
  have hp := prt_lt (s := s) (a := a) (b := b) (by omega) (by omega) (fun j c hj hj' hc => by
    have h := goodT_at hg (i := j) (by omega) hc
    unfold okB at h
    rwa [if_pos (hd j hj' hj)] at h) h4
  have hS := Small_ok (prt s a b) (zb_64 (by omega) |>.mono (by decide))
  have hsm : small (prt s a b) = prt s a b := if_pos (by unfold fits; omega)
  rw [hsm] at hS
  refine pure_of_wp of37 (Nat.le_of_ble_eq_true rfl) ?_
  refine OptK.mk _ rfl ?_
  refine OptK.mk _ (sPart a b rfl rfl (by omega) (by omega)) ?_
  refine CallK.mk _ hD rfl ?_
  refine CallK.mk _ hS rfl ?_
  exact endV rfl rfl
theorem strN0 : ((⟨#[]⟩ : ByteArray).toList != (⟨#[]⟩ : ByteArray).toList) = false := by rw [bne, sEq]; decide
theorem strE0 : ((⟨#[]⟩ : ByteArray).toList == (⟨#[]⟩ : ByteArray).toList) = true := by rw [sEq]; decide
theorem strN (c : UInt8) : ((⟨#[c]⟩ : ByteArray).toList != (⟨#[]⟩ : ByteArray).toList) = true := by
  rw [bne, sEq, decide_eq_false (fun h => by cases h)]
  rfl
theorem strEC (c : UInt8) : ((⟨#[c]⟩ : ByteArray).toList == (⟨#[]⟩ : ByteArray).toList) = false := by rw [sEq, decide_eq_false (fun h => by cases h)]
theorem one_at {s : List UInt8} {i : Nat} {c : UInt8} (h : s[i]? = some c) : (s.take (i + 1)).drop i = [c] := by
  have hlt := (List.getElem?_eq_some_iff.1 h).1
  rw [List.take_add_one, h, List.drop_append_of_le_length (by rw [List.length_take]; omega), List.drop_eq_nil_of_le (by rw [List.length_take]; omega)]
  rfl
theorem strC_yes {l : List UInt8} {c d : UInt8} (e : l = [c]) (h : c.toNat = d.toNat) : ((⟨l.toArray⟩ : ByteArray).toList != (⟨#[d]⟩ : ByteArray).toList) = false := by
  have : c = d := UInt8.toNat_inj.1 h
  subst this
  subst e
  rw [bne, sEq, decide_eq_true rfl]
  rfl
theorem strC_no {l : List UInt8} {c d : UInt8} (e : l = [c]) (h : ¬ c.toNat = d.toNat) : ((⟨l.toArray⟩ : ByteArray).toList != (⟨#[d]⟩ : ByteArray).toList) = true := by
  subst e
  rw [bne, sEq, decide_eq_false (fun g => h (by cases g; rfl))]
  rfl
set_option maxHeartbeats 16000000 in
theorem civilRead_ok (s : List UInt8) : Pure Tryd.prog 15 [strB s] (readV s) := by
  refine pure_of_wp of15 (Nat.le_of_ble_eq_true rfl) ?_
  have hs := bsz s
  refine DecK.bne (fun h => ?_) (fun h => ?_)
  · have hr : readV s = .tup [civilV 0 0 0 0 0 0 0, .n .i64 5] := if_neg fun g => h (by rw [hs, g.1]; rfl)
    refine OptK.mk _ rfl ?_
    refine endV rfl ?_
    rw [hr]
    rfl
  have hl : s.length = 23 := by omega
  refine loop_eq (st' := ⟨[(1, .ref 1 0), (2, .ref 2 0), (14, .v (.n .i64 23)), (15, .v (.n .i64 ((0 : Nat) : Int)))], [(2, [.n .i64 0, .n .i64 0, .n .i64 0, .n .i64 0, .n .i64 0, .n .i64 0, .n .i64 0]), (1, [strB s])]⟩) (by rw [h]; rfl) ?_
  refine loop_ind (fun (i : Nat) => ⟨[(1, .ref 1 0), (2, .ref 2 0), (14, .v (.n .i64 23)), (15, .v (.n .i64 (i : Int)))], [(2, [.n .i64 0, .n .i64 0, .n .i64 0, .n .i64 0, .n .i64 0, .n .i64 0, .n .i64 0]), (1, [strB s])]⟩) (fun i => 23 - i)
    (fun i => i ≤ 23 ∧ ∀ j c, j < i → s[j]? = some c → okB j c) 0 ⟨by omega, fun j c h => by omega⟩ ?_
  intro i ⟨h1, h2⟩ ih
  refine DecK.dec (fun g => ?_) (fun g => ?_)
  · have hi : i < 23 := by omega
    obtain ⟨c, hx⟩ : ∃ c, s[i]? = some c := ⟨_, List.getElem?_eq_getElem (by omega)⟩
    have hc256 : c.toNat < 256 := c.toNat_lt
    rcases (show i = 0 ∨ i = 1 ∨ i = 2 ∨ i = 3 ∨ i = 4 ∨ i = 5 ∨ i = 6 ∨ i = 7 ∨ i = 8 ∨ i = 9 ∨ i = 10 ∨ i = 11 ∨ i = 12 ∨ i = 13 ∨ i = 14 ∨ i = 15 ∨ i = 16 ∨ i = 17 ∨ i = 18 ∨ i = 19 ∨ i = 20 ∨ i = 21 ∨ i = 22 by omega) with rfl | rfl | rfl | rfl | rfl | rfl | rfl | rfl | rfl | rfl | rfl | rfl | rfl | rfl | rfl | rfl | rfl | rfl | rfl | rfl | rfl | rfl | rfl
    · have wi : IntKind.i64.wrap (((0 : Nat) : Int) + 1) = ((1 : Nat) : Int) := by decide
      have hok : okB 0 c ↔ 48 ≤ c.toNat ∧ c.toNat ≤ 57 := Iff.rfl
      have ec := one_at hx
      by_cases ok : 48 ≤ c.toNat ∧ c.toNat ≤ 57
      · repeat' first | (refine DecK.no strN0 ?_) | (refine DecK.yes strE0 ?_) | (refine DecK.yes (strN _) ?_) | (refine DecK.no (strEC _) ?_) | first | (refine DecK.no (decide_eq_false (by omega)) ?_) | (refine DecK.yes (decide_eq_true (by omega)) ?_) | (refine DecK.no (beq_eq_false_iff_ne.2 (by omega)) ?_) | (refine DecK.yes (beq_iff_eq.2 (by omega)) ?_) | (refine DecK.yes (bne_iff_ne.2 (by omega)) ?_) | (refine DecK.no (bne_eq_false_iff_eq.2 (by omega)) ?_) | (refine DecK.tt ?_) | (refine DecK.ff ?_) | (refine OptK.mk _ (sIdx 0 rfl hx) ?_)
        refine loop_eq ?_ (ih 1 ⟨by omega, fun j c' hj hc' => ?_⟩ (by omega))
        · rw [wi]
        · rcases (show j < 0 ∨ j = 0 by omega) with h | rfl
          · exact h2 j c' h hc'
          · rw [hx] at hc'; cases hc'; exact hok.2 ok
      · have hr := readV_bad (i := 0) (by decide) hx fun g => ok (hok.1 g)
        by_cases lo : c.toNat < 48
        · repeat' first | (refine DecK.no strN0 ?_) | (refine DecK.yes strE0 ?_) | (refine DecK.yes (strN _) ?_) | (refine DecK.no (strEC _) ?_) | first | (refine DecK.no (decide_eq_false (by omega)) ?_) | (refine DecK.yes (decide_eq_true (by omega)) ?_) | (refine DecK.no (beq_eq_false_iff_ne.2 (by omega)) ?_) | (refine DecK.yes (beq_iff_eq.2 (by omega)) ?_) | (refine DecK.yes (bne_iff_ne.2 (by omega)) ?_) | (refine DecK.no (bne_eq_false_iff_eq.2 (by omega)) ?_) | (refine DecK.tt ?_) | (refine DecK.ff ?_) | (refine OptK.mk _ (sIdx 0 rfl hx) ?_)
          refine OptK.mk _ rfl ?_
          refine endV rfl ?_
          rw [hr]
          rfl
        · repeat' first | (refine DecK.no strN0 ?_) | (refine DecK.yes strE0 ?_) | (refine DecK.yes (strN _) ?_) | (refine DecK.no (strEC _) ?_) | first | (refine DecK.no (decide_eq_false (by omega)) ?_) | (refine DecK.yes (decide_eq_true (by omega)) ?_) | (refine DecK.no (beq_eq_false_iff_ne.2 (by omega)) ?_) | (refine DecK.yes (beq_iff_eq.2 (by omega)) ?_) | (refine DecK.yes (bne_iff_ne.2 (by omega)) ?_) | (refine DecK.no (bne_eq_false_iff_eq.2 (by omega)) ?_) | (refine DecK.tt ?_) | (refine DecK.ff ?_) | (refine OptK.mk _ (sIdx 0 rfl hx) ?_)
          refine OptK.mk _ rfl ?_
          refine endV rfl ?_
          rw [hr]
          rfl
    · have wi : IntKind.i64.wrap (((1 : Nat) : Int) + 1) = ((2 : Nat) : Int) := by decide
      have hok : okB 1 c ↔ 48 ≤ c.toNat ∧ c.toNat ≤ 57 := Iff.rfl
      have ec := one_at hx
      by_cases ok : 48 ≤ c.toNat ∧ c.toNat ≤ 57
      · repeat' first | (refine DecK.no strN0 ?_) | (refine DecK.yes strE0 ?_) | (refine DecK.yes (strN _) ?_) | (refine DecK.no (strEC _) ?_) | first | (refine DecK.no (decide_eq_false (by omega)) ?_) | (refine DecK.yes (decide_eq_true (by omega)) ?_) | (refine DecK.no (beq_eq_false_iff_ne.2 (by omega)) ?_) | (refine DecK.yes (beq_iff_eq.2 (by omega)) ?_) | (refine DecK.yes (bne_iff_ne.2 (by omega)) ?_) | (refine DecK.no (bne_eq_false_iff_eq.2 (by omega)) ?_) | (refine DecK.tt ?_) | (refine DecK.ff ?_) | (refine OptK.mk _ (sIdx 1 rfl hx) ?_)
        refine loop_eq ?_ (ih 2 ⟨by omega, fun j c' hj hc' => ?_⟩ (by omega))
        · rw [wi]
        · rcases (show j < 1 ∨ j = 1 by omega) with h | rfl
          · exact h2 j c' h hc'
          · rw [hx] at hc'; cases hc'; exact hok.2 ok
      · have hr := readV_bad (i := 1) (by decide) hx fun g => ok (hok.1 g)
        by_cases lo : c.toNat < 48
        · repeat' first | (refine DecK.no strN0 ?_) | (refine DecK.yes strE0 ?_) | (refine DecK.yes (strN _) ?_) | (refine DecK.no (strEC _) ?_) | first | (refine DecK.no (decide_eq_false (by omega)) ?_) | (refine DecK.yes (decide_eq_true (by omega)) ?_) | (refine DecK.no (beq_eq_false_iff_ne.2 (by omega)) ?_) | (refine DecK.yes (beq_iff_eq.2 (by omega)) ?_) | (refine DecK.yes (bne_iff_ne.2 (by omega)) ?_) | (refine DecK.no (bne_eq_false_iff_eq.2 (by omega)) ?_) | (refine DecK.tt ?_) | (refine DecK.ff ?_) | (refine OptK.mk _ (sIdx 1 rfl hx) ?_)
          refine OptK.mk _ rfl ?_
          refine endV rfl ?_
          rw [hr]
          rfl
        · repeat' first | (refine DecK.no strN0 ?_) | (refine DecK.yes strE0 ?_) | (refine DecK.yes (strN _) ?_) | (refine DecK.no (strEC _) ?_) | first | (refine DecK.no (decide_eq_false (by omega)) ?_) | (refine DecK.yes (decide_eq_true (by omega)) ?_) | (refine DecK.no (beq_eq_false_iff_ne.2 (by omega)) ?_) | (refine DecK.yes (beq_iff_eq.2 (by omega)) ?_) | (refine DecK.yes (bne_iff_ne.2 (by omega)) ?_) | (refine DecK.no (bne_eq_false_iff_eq.2 (by omega)) ?_) | (refine DecK.tt ?_) | (refine DecK.ff ?_) | (refine OptK.mk _ (sIdx 1 rfl hx) ?_)
          refine OptK.mk _ rfl ?_
          refine endV rfl ?_
          rw [hr]
          rfl
    · have wi : IntKind.i64.wrap (((2 : Nat) : Int) + 1) = ((3 : Nat) : Int) := by decide
      have hok : okB 2 c ↔ 48 ≤ c.toNat ∧ c.toNat ≤ 57 := Iff.rfl
      have ec := one_at hx
      by_cases ok : 48 ≤ c.toNat ∧ c.toNat ≤ 57
      · repeat' first | (refine DecK.no strN0 ?_) | (refine DecK.yes strE0 ?_) | (refine DecK.yes (strN _) ?_) | (refine DecK.no (strEC _) ?_) | first | (refine DecK.no (decide_eq_false (by omega)) ?_) | (refine DecK.yes (decide_eq_true (by omega)) ?_) | (refine DecK.no (beq_eq_false_iff_ne.2 (by omega)) ?_) | (refine DecK.yes (beq_iff_eq.2 (by omega)) ?_) | (refine DecK.yes (bne_iff_ne.2 (by omega)) ?_) | (refine DecK.no (bne_eq_false_iff_eq.2 (by omega)) ?_) | (refine DecK.tt ?_) | (refine DecK.ff ?_) | (refine OptK.mk _ (sIdx 2 rfl hx) ?_)
        refine loop_eq ?_ (ih 3 ⟨by omega, fun j c' hj hc' => ?_⟩ (by omega))
        · rw [wi]
        · rcases (show j < 2 ∨ j = 2 by omega) with h | rfl
          · exact h2 j c' h hc'
          · rw [hx] at hc'; cases hc'; exact hok.2 ok
      · have hr := readV_bad (i := 2) (by decide) hx fun g => ok (hok.1 g)
        by_cases lo : c.toNat < 48
        · repeat' first | (refine DecK.no strN0 ?_) | (refine DecK.yes strE0 ?_) | (refine DecK.yes (strN _) ?_) | (refine DecK.no (strEC _) ?_) | first | (refine DecK.no (decide_eq_false (by omega)) ?_) | (refine DecK.yes (decide_eq_true (by omega)) ?_) | (refine DecK.no (beq_eq_false_iff_ne.2 (by omega)) ?_) | (refine DecK.yes (beq_iff_eq.2 (by omega)) ?_) | (refine DecK.yes (bne_iff_ne.2 (by omega)) ?_) | (refine DecK.no (bne_eq_false_iff_eq.2 (by omega)) ?_) | (refine DecK.tt ?_) | (refine DecK.ff ?_) | (refine OptK.mk _ (sIdx 2 rfl hx) ?_)
          refine OptK.mk _ rfl ?_
          refine endV rfl ?_
          rw [hr]
          rfl
        · repeat' first | (refine DecK.no strN0 ?_) | (refine DecK.yes strE0 ?_) | (refine DecK.yes (strN _) ?_) | (refine DecK.no (strEC _) ?_) | first | (refine DecK.no (decide_eq_false (by omega)) ?_) | (refine DecK.yes (decide_eq_true (by omega)) ?_) | (refine DecK.no (beq_eq_false_iff_ne.2 (by omega)) ?_) | (refine DecK.yes (beq_iff_eq.2 (by omega)) ?_) | (refine DecK.yes (bne_iff_ne.2 (by omega)) ?_) | (refine DecK.no (bne_eq_false_iff_eq.2 (by omega)) ?_) | (refine DecK.tt ?_) | (refine DecK.ff ?_) | (refine OptK.mk _ (sIdx 2 rfl hx) ?_)
          refine OptK.mk _ rfl ?_
          refine endV rfl ?_
          rw [hr]
          rfl
    · have wi : IntKind.i64.wrap (((3 : Nat) : Int) + 1) = ((4 : Nat) : Int) := by decide
      have hok : okB 3 c ↔ 48 ≤ c.toNat ∧ c.toNat ≤ 57 := Iff.rfl
      have ec := one_at hx
      by_cases ok : 48 ≤ c.toNat ∧ c.toNat ≤ 57
      · repeat' first | (refine DecK.no strN0 ?_) | (refine DecK.yes strE0 ?_) | (refine DecK.yes (strN _) ?_) | (refine DecK.no (strEC _) ?_) | first | (refine DecK.no (decide_eq_false (by omega)) ?_) | (refine DecK.yes (decide_eq_true (by omega)) ?_) | (refine DecK.no (beq_eq_false_iff_ne.2 (by omega)) ?_) | (refine DecK.yes (beq_iff_eq.2 (by omega)) ?_) | (refine DecK.yes (bne_iff_ne.2 (by omega)) ?_) | (refine DecK.no (bne_eq_false_iff_eq.2 (by omega)) ?_) | (refine DecK.tt ?_) | (refine DecK.ff ?_) | (refine OptK.mk _ (sIdx 3 rfl hx) ?_)
        refine loop_eq ?_ (ih 4 ⟨by omega, fun j c' hj hc' => ?_⟩ (by omega))
        · rw [wi]
        · rcases (show j < 3 ∨ j = 3 by omega) with h | rfl
          · exact h2 j c' h hc'
          · rw [hx] at hc'; cases hc'; exact hok.2 ok
      · have hr := readV_bad (i := 3) (by decide) hx fun g => ok (hok.1 g)
        by_cases lo : c.toNat < 48
        · repeat' first | (refine DecK.no strN0 ?_) | (refine DecK.yes strE0 ?_) | (refine DecK.yes (strN _) ?_) | (refine DecK.no (strEC _) ?_) | first | (refine DecK.no (decide_eq_false (by omega)) ?_) | (refine DecK.yes (decide_eq_true (by omega)) ?_) | (refine DecK.no (beq_eq_false_iff_ne.2 (by omega)) ?_) | (refine DecK.yes (beq_iff_eq.2 (by omega)) ?_) | (refine DecK.yes (bne_iff_ne.2 (by omega)) ?_) | (refine DecK.no (bne_eq_false_iff_eq.2 (by omega)) ?_) | (refine DecK.tt ?_) | (refine DecK.ff ?_) | (refine OptK.mk _ (sIdx 3 rfl hx) ?_)
          refine OptK.mk _ rfl ?_
          refine endV rfl ?_
          rw [hr]
          rfl
        · repeat' first | (refine DecK.no strN0 ?_) | (refine DecK.yes strE0 ?_) | (refine DecK.yes (strN _) ?_) | (refine DecK.no (strEC _) ?_) | first | (refine DecK.no (decide_eq_false (by omega)) ?_) | (refine DecK.yes (decide_eq_true (by omega)) ?_) | (refine DecK.no (beq_eq_false_iff_ne.2 (by omega)) ?_) | (refine DecK.yes (beq_iff_eq.2 (by omega)) ?_) | (refine DecK.yes (bne_iff_ne.2 (by omega)) ?_) | (refine DecK.no (bne_eq_false_iff_eq.2 (by omega)) ?_) | (refine DecK.tt ?_) | (refine DecK.ff ?_) | (refine OptK.mk _ (sIdx 3 rfl hx) ?_)
          refine OptK.mk _ rfl ?_
          refine endV rfl ?_
          rw [hr]
          rfl
    · have wi : IntKind.i64.wrap (((4 : Nat) : Int) + 1) = ((5 : Nat) : Int) := by decide
      have hok : okB 4 c ↔ c.toNat = 45 := Iff.rfl
      have ec := one_at hx
      by_cases ok : c.toNat = 45
      · repeat' first | (refine DecK.no strN0 ?_) | (refine DecK.yes strE0 ?_) | (refine DecK.yes (strN _) ?_) | (refine DecK.no (strEC _) ?_) | first | (refine DecK.no (decide_eq_false (by omega)) ?_) | (refine DecK.yes (decide_eq_true (by omega)) ?_) | (refine DecK.no (beq_eq_false_iff_ne.2 (by omega)) ?_) | (refine DecK.yes (beq_iff_eq.2 (by omega)) ?_) | (refine DecK.yes (bne_iff_ne.2 (by omega)) ?_) | (refine DecK.no (bne_eq_false_iff_eq.2 (by omega)) ?_) | (refine DecK.tt ?_) | (refine DecK.ff ?_) | (refine OptK.mk _ (sIdx 4 rfl hx) ?_) | (refine OptK.mk _ (sPart 4 5 rfl wi (by decide) (by omega)) ?_) | (refine DecK.no (strC_yes (d := 45) ec ok) ?_)
        refine loop_eq ?_ (ih 5 ⟨by omega, fun j c' hj hc' => ?_⟩ (by omega))
        · rw [wi]
        · rcases (show j < 4 ∨ j = 4 by omega) with h | rfl
          · exact h2 j c' h hc'
          · rw [hx] at hc'; cases hc'; exact hok.2 ok
      · have hr := readV_bad (i := 4) (by decide) hx fun g => ok (hok.1 g)
        repeat' first | (refine DecK.no strN0 ?_) | (refine DecK.yes strE0 ?_) | (refine DecK.yes (strN _) ?_) | (refine DecK.no (strEC _) ?_) | first | (refine DecK.no (decide_eq_false (by omega)) ?_) | (refine DecK.yes (decide_eq_true (by omega)) ?_) | (refine DecK.no (beq_eq_false_iff_ne.2 (by omega)) ?_) | (refine DecK.yes (beq_iff_eq.2 (by omega)) ?_) | (refine DecK.yes (bne_iff_ne.2 (by omega)) ?_) | (refine DecK.no (bne_eq_false_iff_eq.2 (by omega)) ?_) | (refine DecK.tt ?_) | (refine DecK.ff ?_) | (refine OptK.mk _ (sIdx 4 rfl hx) ?_) | (refine OptK.mk _ (sPart 4 5 rfl wi (by decide) (by omega)) ?_) | (refine DecK.yes (strC_no (d := 45) ec ok) ?_)
        refine OptK.mk _ rfl ?_
        refine endV rfl ?_
        rw [hr]
        rfl
    · have wi : IntKind.i64.wrap (((5 : Nat) : Int) + 1) = ((6 : Nat) : Int) := by decide
      have hok : okB 5 c ↔ 48 ≤ c.toNat ∧ c.toNat ≤ 57 := Iff.rfl
      have ec := one_at hx
      by_cases ok : 48 ≤ c.toNat ∧ c.toNat ≤ 57
      · repeat' first | (refine DecK.no strN0 ?_) | (refine DecK.yes strE0 ?_) | (refine DecK.yes (strN _) ?_) | (refine DecK.no (strEC _) ?_) | first | (refine DecK.no (decide_eq_false (by omega)) ?_) | (refine DecK.yes (decide_eq_true (by omega)) ?_) | (refine DecK.no (beq_eq_false_iff_ne.2 (by omega)) ?_) | (refine DecK.yes (beq_iff_eq.2 (by omega)) ?_) | (refine DecK.yes (bne_iff_ne.2 (by omega)) ?_) | (refine DecK.no (bne_eq_false_iff_eq.2 (by omega)) ?_) | (refine DecK.tt ?_) | (refine DecK.ff ?_) | (refine OptK.mk _ (sIdx 5 rfl hx) ?_)
        refine loop_eq ?_ (ih 6 ⟨by omega, fun j c' hj hc' => ?_⟩ (by omega))
        · rw [wi]
        · rcases (show j < 5 ∨ j = 5 by omega) with h | rfl
          · exact h2 j c' h hc'
          · rw [hx] at hc'; cases hc'; exact hok.2 ok
      · have hr := readV_bad (i := 5) (by decide) hx fun g => ok (hok.1 g)
        by_cases lo : c.toNat < 48
        · repeat' first | (refine DecK.no strN0 ?_) | (refine DecK.yes strE0 ?_) | (refine DecK.yes (strN _) ?_) | (refine DecK.no (strEC _) ?_) | first | (refine DecK.no (decide_eq_false (by omega)) ?_) | (refine DecK.yes (decide_eq_true (by omega)) ?_) | (refine DecK.no (beq_eq_false_iff_ne.2 (by omega)) ?_) | (refine DecK.yes (beq_iff_eq.2 (by omega)) ?_) | (refine DecK.yes (bne_iff_ne.2 (by omega)) ?_) | (refine DecK.no (bne_eq_false_iff_eq.2 (by omega)) ?_) | (refine DecK.tt ?_) | (refine DecK.ff ?_) | (refine OptK.mk _ (sIdx 5 rfl hx) ?_)
          refine OptK.mk _ rfl ?_
          refine endV rfl ?_
          rw [hr]
          rfl
        · repeat' first | (refine DecK.no strN0 ?_) | (refine DecK.yes strE0 ?_) | (refine DecK.yes (strN _) ?_) | (refine DecK.no (strEC _) ?_) | first | (refine DecK.no (decide_eq_false (by omega)) ?_) | (refine DecK.yes (decide_eq_true (by omega)) ?_) | (refine DecK.no (beq_eq_false_iff_ne.2 (by omega)) ?_) | (refine DecK.yes (beq_iff_eq.2 (by omega)) ?_) | (refine DecK.yes (bne_iff_ne.2 (by omega)) ?_) | (refine DecK.no (bne_eq_false_iff_eq.2 (by omega)) ?_) | (refine DecK.tt ?_) | (refine DecK.ff ?_) | (refine OptK.mk _ (sIdx 5 rfl hx) ?_)
          refine OptK.mk _ rfl ?_
          refine endV rfl ?_
          rw [hr]
          rfl
    · have wi : IntKind.i64.wrap (((6 : Nat) : Int) + 1) = ((7 : Nat) : Int) := by decide
      have hok : okB 6 c ↔ 48 ≤ c.toNat ∧ c.toNat ≤ 57 := Iff.rfl
      have ec := one_at hx
      by_cases ok : 48 ≤ c.toNat ∧ c.toNat ≤ 57
      · repeat' first | (refine DecK.no strN0 ?_) | (refine DecK.yes strE0 ?_) | (refine DecK.yes (strN _) ?_) | (refine DecK.no (strEC _) ?_) | first | (refine DecK.no (decide_eq_false (by omega)) ?_) | (refine DecK.yes (decide_eq_true (by omega)) ?_) | (refine DecK.no (beq_eq_false_iff_ne.2 (by omega)) ?_) | (refine DecK.yes (beq_iff_eq.2 (by omega)) ?_) | (refine DecK.yes (bne_iff_ne.2 (by omega)) ?_) | (refine DecK.no (bne_eq_false_iff_eq.2 (by omega)) ?_) | (refine DecK.tt ?_) | (refine DecK.ff ?_) | (refine OptK.mk _ (sIdx 6 rfl hx) ?_)
        refine loop_eq ?_ (ih 7 ⟨by omega, fun j c' hj hc' => ?_⟩ (by omega))
        · rw [wi]
        · rcases (show j < 6 ∨ j = 6 by omega) with h | rfl
          · exact h2 j c' h hc'
          · rw [hx] at hc'; cases hc'; exact hok.2 ok
      · have hr := readV_bad (i := 6) (by decide) hx fun g => ok (hok.1 g)
        by_cases lo : c.toNat < 48
        · repeat' first | (refine DecK.no strN0 ?_) | (refine DecK.yes strE0 ?_) | (refine DecK.yes (strN _) ?_) | (refine DecK.no (strEC _) ?_) | first | (refine DecK.no (decide_eq_false (by omega)) ?_) | (refine DecK.yes (decide_eq_true (by omega)) ?_) | (refine DecK.no (beq_eq_false_iff_ne.2 (by omega)) ?_) | (refine DecK.yes (beq_iff_eq.2 (by omega)) ?_) | (refine DecK.yes (bne_iff_ne.2 (by omega)) ?_) | (refine DecK.no (bne_eq_false_iff_eq.2 (by omega)) ?_) | (refine DecK.tt ?_) | (refine DecK.ff ?_) | (refine OptK.mk _ (sIdx 6 rfl hx) ?_)
          refine OptK.mk _ rfl ?_
          refine endV rfl ?_
          rw [hr]
          rfl
        · repeat' first | (refine DecK.no strN0 ?_) | (refine DecK.yes strE0 ?_) | (refine DecK.yes (strN _) ?_) | (refine DecK.no (strEC _) ?_) | first | (refine DecK.no (decide_eq_false (by omega)) ?_) | (refine DecK.yes (decide_eq_true (by omega)) ?_) | (refine DecK.no (beq_eq_false_iff_ne.2 (by omega)) ?_) | (refine DecK.yes (beq_iff_eq.2 (by omega)) ?_) | (refine DecK.yes (bne_iff_ne.2 (by omega)) ?_) | (refine DecK.no (bne_eq_false_iff_eq.2 (by omega)) ?_) | (refine DecK.tt ?_) | (refine DecK.ff ?_) | (refine OptK.mk _ (sIdx 6 rfl hx) ?_)
          refine OptK.mk _ rfl ?_
          refine endV rfl ?_
          rw [hr]
          rfl
    · have wi : IntKind.i64.wrap (((7 : Nat) : Int) + 1) = ((8 : Nat) : Int) := by decide
      have hok : okB 7 c ↔ c.toNat = 45 := Iff.rfl
      have ec := one_at hx
      by_cases ok : c.toNat = 45
      · repeat' first | (refine DecK.no strN0 ?_) | (refine DecK.yes strE0 ?_) | (refine DecK.yes (strN _) ?_) | (refine DecK.no (strEC _) ?_) | first | (refine DecK.no (decide_eq_false (by omega)) ?_) | (refine DecK.yes (decide_eq_true (by omega)) ?_) | (refine DecK.no (beq_eq_false_iff_ne.2 (by omega)) ?_) | (refine DecK.yes (beq_iff_eq.2 (by omega)) ?_) | (refine DecK.yes (bne_iff_ne.2 (by omega)) ?_) | (refine DecK.no (bne_eq_false_iff_eq.2 (by omega)) ?_) | (refine DecK.tt ?_) | (refine DecK.ff ?_) | (refine OptK.mk _ (sIdx 7 rfl hx) ?_) | (refine OptK.mk _ (sPart 7 8 rfl wi (by decide) (by omega)) ?_) | (refine DecK.no (strC_yes (d := 45) ec ok) ?_)
        refine loop_eq ?_ (ih 8 ⟨by omega, fun j c' hj hc' => ?_⟩ (by omega))
        · rw [wi]
        · rcases (show j < 7 ∨ j = 7 by omega) with h | rfl
          · exact h2 j c' h hc'
          · rw [hx] at hc'; cases hc'; exact hok.2 ok
      · have hr := readV_bad (i := 7) (by decide) hx fun g => ok (hok.1 g)
        repeat' first | (refine DecK.no strN0 ?_) | (refine DecK.yes strE0 ?_) | (refine DecK.yes (strN _) ?_) | (refine DecK.no (strEC _) ?_) | first | (refine DecK.no (decide_eq_false (by omega)) ?_) | (refine DecK.yes (decide_eq_true (by omega)) ?_) | (refine DecK.no (beq_eq_false_iff_ne.2 (by omega)) ?_) | (refine DecK.yes (beq_iff_eq.2 (by omega)) ?_) | (refine DecK.yes (bne_iff_ne.2 (by omega)) ?_) | (refine DecK.no (bne_eq_false_iff_eq.2 (by omega)) ?_) | (refine DecK.tt ?_) | (refine DecK.ff ?_) | (refine OptK.mk _ (sIdx 7 rfl hx) ?_) | (refine OptK.mk _ (sPart 7 8 rfl wi (by decide) (by omega)) ?_) | (refine DecK.yes (strC_no (d := 45) ec ok) ?_)
        refine OptK.mk _ rfl ?_
        refine endV rfl ?_
        rw [hr]
        rfl
    · have wi : IntKind.i64.wrap (((8 : Nat) : Int) + 1) = ((9 : Nat) : Int) := by decide
      have hok : okB 8 c ↔ 48 ≤ c.toNat ∧ c.toNat ≤ 57 := Iff.rfl
      have ec := one_at hx
      by_cases ok : 48 ≤ c.toNat ∧ c.toNat ≤ 57
      · repeat' first | (refine DecK.no strN0 ?_) | (refine DecK.yes strE0 ?_) | (refine DecK.yes (strN _) ?_) | (refine DecK.no (strEC _) ?_) | first | (refine DecK.no (decide_eq_false (by omega)) ?_) | (refine DecK.yes (decide_eq_true (by omega)) ?_) | (refine DecK.no (beq_eq_false_iff_ne.2 (by omega)) ?_) | (refine DecK.yes (beq_iff_eq.2 (by omega)) ?_) | (refine DecK.yes (bne_iff_ne.2 (by omega)) ?_) | (refine DecK.no (bne_eq_false_iff_eq.2 (by omega)) ?_) | (refine DecK.tt ?_) | (refine DecK.ff ?_) | (refine OptK.mk _ (sIdx 8 rfl hx) ?_)
        refine loop_eq ?_ (ih 9 ⟨by omega, fun j c' hj hc' => ?_⟩ (by omega))
        · rw [wi]
        · rcases (show j < 8 ∨ j = 8 by omega) with h | rfl
          · exact h2 j c' h hc'
          · rw [hx] at hc'; cases hc'; exact hok.2 ok
      · have hr := readV_bad (i := 8) (by decide) hx fun g => ok (hok.1 g)
        by_cases lo : c.toNat < 48
        · repeat' first | (refine DecK.no strN0 ?_) | (refine DecK.yes strE0 ?_) | (refine DecK.yes (strN _) ?_) | (refine DecK.no (strEC _) ?_) | first | (refine DecK.no (decide_eq_false (by omega)) ?_) | (refine DecK.yes (decide_eq_true (by omega)) ?_) | (refine DecK.no (beq_eq_false_iff_ne.2 (by omega)) ?_) | (refine DecK.yes (beq_iff_eq.2 (by omega)) ?_) | (refine DecK.yes (bne_iff_ne.2 (by omega)) ?_) | (refine DecK.no (bne_eq_false_iff_eq.2 (by omega)) ?_) | (refine DecK.tt ?_) | (refine DecK.ff ?_) | (refine OptK.mk _ (sIdx 8 rfl hx) ?_)
          refine OptK.mk _ rfl ?_
          refine endV rfl ?_
          rw [hr]
          rfl
        · repeat' first | (refine DecK.no strN0 ?_) | (refine DecK.yes strE0 ?_) | (refine DecK.yes (strN _) ?_) | (refine DecK.no (strEC _) ?_) | first | (refine DecK.no (decide_eq_false (by omega)) ?_) | (refine DecK.yes (decide_eq_true (by omega)) ?_) | (refine DecK.no (beq_eq_false_iff_ne.2 (by omega)) ?_) | (refine DecK.yes (beq_iff_eq.2 (by omega)) ?_) | (refine DecK.yes (bne_iff_ne.2 (by omega)) ?_) | (refine DecK.no (bne_eq_false_iff_eq.2 (by omega)) ?_) | (refine DecK.tt ?_) | (refine DecK.ff ?_) | (refine OptK.mk _ (sIdx 8 rfl hx) ?_)
          refine OptK.mk _ rfl ?_
          refine endV rfl ?_
          rw [hr]
          rfl
    · have wi : IntKind.i64.wrap (((9 : Nat) : Int) + 1) = ((10 : Nat) : Int) := by decide
      have hok : okB 9 c ↔ 48 ≤ c.toNat ∧ c.toNat ≤ 57 := Iff.rfl
      have ec := one_at hx
      by_cases ok : 48 ≤ c.toNat ∧ c.toNat ≤ 57
      · repeat' first | (refine DecK.no strN0 ?_) | (refine DecK.yes strE0 ?_) | (refine DecK.yes (strN _) ?_) | (refine DecK.no (strEC _) ?_) | first | (refine DecK.no (decide_eq_false (by omega)) ?_) | (refine DecK.yes (decide_eq_true (by omega)) ?_) | (refine DecK.no (beq_eq_false_iff_ne.2 (by omega)) ?_) | (refine DecK.yes (beq_iff_eq.2 (by omega)) ?_) | (refine DecK.yes (bne_iff_ne.2 (by omega)) ?_) | (refine DecK.no (bne_eq_false_iff_eq.2 (by omega)) ?_) | (refine DecK.tt ?_) | (refine DecK.ff ?_) | (refine OptK.mk _ (sIdx 9 rfl hx) ?_)
        refine loop_eq ?_ (ih 10 ⟨by omega, fun j c' hj hc' => ?_⟩ (by omega))
        · rw [wi]
        · rcases (show j < 9 ∨ j = 9 by omega) with h | rfl
          · exact h2 j c' h hc'
          · rw [hx] at hc'; cases hc'; exact hok.2 ok
      · have hr := readV_bad (i := 9) (by decide) hx fun g => ok (hok.1 g)
        by_cases lo : c.toNat < 48
        · repeat' first | (refine DecK.no strN0 ?_) | (refine DecK.yes strE0 ?_) | (refine DecK.yes (strN _) ?_) | (refine DecK.no (strEC _) ?_) | first | (refine DecK.no (decide_eq_false (by omega)) ?_) | (refine DecK.yes (decide_eq_true (by omega)) ?_) | (refine DecK.no (beq_eq_false_iff_ne.2 (by omega)) ?_) | (refine DecK.yes (beq_iff_eq.2 (by omega)) ?_) | (refine DecK.yes (bne_iff_ne.2 (by omega)) ?_) | (refine DecK.no (bne_eq_false_iff_eq.2 (by omega)) ?_) | (refine DecK.tt ?_) | (refine DecK.ff ?_) | (refine OptK.mk _ (sIdx 9 rfl hx) ?_)
          refine OptK.mk _ rfl ?_
          refine endV rfl ?_
          rw [hr]
          rfl
        · repeat' first | (refine DecK.no strN0 ?_) | (refine DecK.yes strE0 ?_) | (refine DecK.yes (strN _) ?_) | (refine DecK.no (strEC _) ?_) | first | (refine DecK.no (decide_eq_false (by omega)) ?_) | (refine DecK.yes (decide_eq_true (by omega)) ?_) | (refine DecK.no (beq_eq_false_iff_ne.2 (by omega)) ?_) | (refine DecK.yes (beq_iff_eq.2 (by omega)) ?_) | (refine DecK.yes (bne_iff_ne.2 (by omega)) ?_) | (refine DecK.no (bne_eq_false_iff_eq.2 (by omega)) ?_) | (refine DecK.tt ?_) | (refine DecK.ff ?_) | (refine OptK.mk _ (sIdx 9 rfl hx) ?_)
          refine OptK.mk _ rfl ?_
          refine endV rfl ?_
          rw [hr]
          rfl
    · have wi : IntKind.i64.wrap (((10 : Nat) : Int) + 1) = ((11 : Nat) : Int) := by decide
      have hok : okB 10 c ↔ c.toNat = 84 := Iff.rfl
      have ec := one_at hx
      by_cases ok : c.toNat = 84
      · repeat' first | (refine DecK.no strN0 ?_) | (refine DecK.yes strE0 ?_) | (refine DecK.yes (strN _) ?_) | (refine DecK.no (strEC _) ?_) | first | (refine DecK.no (decide_eq_false (by omega)) ?_) | (refine DecK.yes (decide_eq_true (by omega)) ?_) | (refine DecK.no (beq_eq_false_iff_ne.2 (by omega)) ?_) | (refine DecK.yes (beq_iff_eq.2 (by omega)) ?_) | (refine DecK.yes (bne_iff_ne.2 (by omega)) ?_) | (refine DecK.no (bne_eq_false_iff_eq.2 (by omega)) ?_) | (refine DecK.tt ?_) | (refine DecK.ff ?_) | (refine OptK.mk _ (sIdx 10 rfl hx) ?_) | (refine OptK.mk _ (sPart 10 11 rfl wi (by decide) (by omega)) ?_) | (refine DecK.no (strC_yes (d := 84) ec ok) ?_)
        refine loop_eq ?_ (ih 11 ⟨by omega, fun j c' hj hc' => ?_⟩ (by omega))
        · rw [wi]
        · rcases (show j < 10 ∨ j = 10 by omega) with h | rfl
          · exact h2 j c' h hc'
          · rw [hx] at hc'; cases hc'; exact hok.2 ok
      · have hr := readV_bad (i := 10) (by decide) hx fun g => ok (hok.1 g)
        repeat' first | (refine DecK.no strN0 ?_) | (refine DecK.yes strE0 ?_) | (refine DecK.yes (strN _) ?_) | (refine DecK.no (strEC _) ?_) | first | (refine DecK.no (decide_eq_false (by omega)) ?_) | (refine DecK.yes (decide_eq_true (by omega)) ?_) | (refine DecK.no (beq_eq_false_iff_ne.2 (by omega)) ?_) | (refine DecK.yes (beq_iff_eq.2 (by omega)) ?_) | (refine DecK.yes (bne_iff_ne.2 (by omega)) ?_) | (refine DecK.no (bne_eq_false_iff_eq.2 (by omega)) ?_) | (refine DecK.tt ?_) | (refine DecK.ff ?_) | (refine OptK.mk _ (sIdx 10 rfl hx) ?_) | (refine OptK.mk _ (sPart 10 11 rfl wi (by decide) (by omega)) ?_) | (refine DecK.yes (strC_no (d := 84) ec ok) ?_)
        refine OptK.mk _ rfl ?_
        refine endV rfl ?_
        rw [hr]
        rfl
    · have wi : IntKind.i64.wrap (((11 : Nat) : Int) + 1) = ((12 : Nat) : Int) := by decide
      have hok : okB 11 c ↔ 48 ≤ c.toNat ∧ c.toNat ≤ 57 := Iff.rfl
      have ec := one_at hx
      by_cases ok : 48 ≤ c.toNat ∧ c.toNat ≤ 57
      · repeat' first | (refine DecK.no strN0 ?_) | (refine DecK.yes strE0 ?_) | (refine DecK.yes (strN _) ?_) | (refine DecK.no (strEC _) ?_) | first | (refine DecK.no (decide_eq_false (by omega)) ?_) | (refine DecK.yes (decide_eq_true (by omega)) ?_) | (refine DecK.no (beq_eq_false_iff_ne.2 (by omega)) ?_) | (refine DecK.yes (beq_iff_eq.2 (by omega)) ?_) | (refine DecK.yes (bne_iff_ne.2 (by omega)) ?_) | (refine DecK.no (bne_eq_false_iff_eq.2 (by omega)) ?_) | (refine DecK.tt ?_) | (refine DecK.ff ?_) | (refine OptK.mk _ (sIdx 11 rfl hx) ?_)
        refine loop_eq ?_ (ih 12 ⟨by omega, fun j c' hj hc' => ?_⟩ (by omega))
        · rw [wi]
        · rcases (show j < 11 ∨ j = 11 by omega) with h | rfl
          · exact h2 j c' h hc'
          · rw [hx] at hc'; cases hc'; exact hok.2 ok
      · have hr := readV_bad (i := 11) (by decide) hx fun g => ok (hok.1 g)
        by_cases lo : c.toNat < 48
        · repeat' first | (refine DecK.no strN0 ?_) | (refine DecK.yes strE0 ?_) | (refine DecK.yes (strN _) ?_) | (refine DecK.no (strEC _) ?_) | first | (refine DecK.no (decide_eq_false (by omega)) ?_) | (refine DecK.yes (decide_eq_true (by omega)) ?_) | (refine DecK.no (beq_eq_false_iff_ne.2 (by omega)) ?_) | (refine DecK.yes (beq_iff_eq.2 (by omega)) ?_) | (refine DecK.yes (bne_iff_ne.2 (by omega)) ?_) | (refine DecK.no (bne_eq_false_iff_eq.2 (by omega)) ?_) | (refine DecK.tt ?_) | (refine DecK.ff ?_) | (refine OptK.mk _ (sIdx 11 rfl hx) ?_)
          refine OptK.mk _ rfl ?_
          refine endV rfl ?_
          rw [hr]
          rfl
        · repeat' first | (refine DecK.no strN0 ?_) | (refine DecK.yes strE0 ?_) | (refine DecK.yes (strN _) ?_) | (refine DecK.no (strEC _) ?_) | first | (refine DecK.no (decide_eq_false (by omega)) ?_) | (refine DecK.yes (decide_eq_true (by omega)) ?_) | (refine DecK.no (beq_eq_false_iff_ne.2 (by omega)) ?_) | (refine DecK.yes (beq_iff_eq.2 (by omega)) ?_) | (refine DecK.yes (bne_iff_ne.2 (by omega)) ?_) | (refine DecK.no (bne_eq_false_iff_eq.2 (by omega)) ?_) | (refine DecK.tt ?_) | (refine DecK.ff ?_) | (refine OptK.mk _ (sIdx 11 rfl hx) ?_)
          refine OptK.mk _ rfl ?_
          refine endV rfl ?_
          rw [hr]
          rfl
    · have wi : IntKind.i64.wrap (((12 : Nat) : Int) + 1) = ((13 : Nat) : Int) := by decide
      have hok : okB 12 c ↔ 48 ≤ c.toNat ∧ c.toNat ≤ 57 := Iff.rfl
      have ec := one_at hx
      by_cases ok : 48 ≤ c.toNat ∧ c.toNat ≤ 57
      · repeat' first | (refine DecK.no strN0 ?_) | (refine DecK.yes strE0 ?_) | (refine DecK.yes (strN _) ?_) | (refine DecK.no (strEC _) ?_) | first | (refine DecK.no (decide_eq_false (by omega)) ?_) | (refine DecK.yes (decide_eq_true (by omega)) ?_) | (refine DecK.no (beq_eq_false_iff_ne.2 (by omega)) ?_) | (refine DecK.yes (beq_iff_eq.2 (by omega)) ?_) | (refine DecK.yes (bne_iff_ne.2 (by omega)) ?_) | (refine DecK.no (bne_eq_false_iff_eq.2 (by omega)) ?_) | (refine DecK.tt ?_) | (refine DecK.ff ?_) | (refine OptK.mk _ (sIdx 12 rfl hx) ?_)
        refine loop_eq ?_ (ih 13 ⟨by omega, fun j c' hj hc' => ?_⟩ (by omega))
        · rw [wi]
        · rcases (show j < 12 ∨ j = 12 by omega) with h | rfl
          · exact h2 j c' h hc'
          · rw [hx] at hc'; cases hc'; exact hok.2 ok
      · have hr := readV_bad (i := 12) (by decide) hx fun g => ok (hok.1 g)
        by_cases lo : c.toNat < 48
        · repeat' first | (refine DecK.no strN0 ?_) | (refine DecK.yes strE0 ?_) | (refine DecK.yes (strN _) ?_) | (refine DecK.no (strEC _) ?_) | first | (refine DecK.no (decide_eq_false (by omega)) ?_) | (refine DecK.yes (decide_eq_true (by omega)) ?_) | (refine DecK.no (beq_eq_false_iff_ne.2 (by omega)) ?_) | (refine DecK.yes (beq_iff_eq.2 (by omega)) ?_) | (refine DecK.yes (bne_iff_ne.2 (by omega)) ?_) | (refine DecK.no (bne_eq_false_iff_eq.2 (by omega)) ?_) | (refine DecK.tt ?_) | (refine DecK.ff ?_) | (refine OptK.mk _ (sIdx 12 rfl hx) ?_)
          refine OptK.mk _ rfl ?_
          refine endV rfl ?_
          rw [hr]
          rfl
        · repeat' first | (refine DecK.no strN0 ?_) | (refine DecK.yes strE0 ?_) | (refine DecK.yes (strN _) ?_) | (refine DecK.no (strEC _) ?_) | first | (refine DecK.no (decide_eq_false (by omega)) ?_) | (refine DecK.yes (decide_eq_true (by omega)) ?_) | (refine DecK.no (beq_eq_false_iff_ne.2 (by omega)) ?_) | (refine DecK.yes (beq_iff_eq.2 (by omega)) ?_) | (refine DecK.yes (bne_iff_ne.2 (by omega)) ?_) | (refine DecK.no (bne_eq_false_iff_eq.2 (by omega)) ?_) | (refine DecK.tt ?_) | (refine DecK.ff ?_) | (refine OptK.mk _ (sIdx 12 rfl hx) ?_)
          refine OptK.mk _ rfl ?_
          refine endV rfl ?_
          rw [hr]
          rfl
    · have wi : IntKind.i64.wrap (((13 : Nat) : Int) + 1) = ((14 : Nat) : Int) := by decide
      have hok : okB 13 c ↔ c.toNat = 58 := Iff.rfl
      have ec := one_at hx
      by_cases ok : c.toNat = 58
      · repeat' first | (refine DecK.no strN0 ?_) | (refine DecK.yes strE0 ?_) | (refine DecK.yes (strN _) ?_) | (refine DecK.no (strEC _) ?_) | first | (refine DecK.no (decide_eq_false (by omega)) ?_) | (refine DecK.yes (decide_eq_true (by omega)) ?_) | (refine DecK.no (beq_eq_false_iff_ne.2 (by omega)) ?_) | (refine DecK.yes (beq_iff_eq.2 (by omega)) ?_) | (refine DecK.yes (bne_iff_ne.2 (by omega)) ?_) | (refine DecK.no (bne_eq_false_iff_eq.2 (by omega)) ?_) | (refine DecK.tt ?_) | (refine DecK.ff ?_) | (refine OptK.mk _ (sIdx 13 rfl hx) ?_) | (refine OptK.mk _ (sPart 13 14 rfl wi (by decide) (by omega)) ?_) | (refine DecK.no (strC_yes (d := 58) ec ok) ?_)
        refine loop_eq ?_ (ih 14 ⟨by omega, fun j c' hj hc' => ?_⟩ (by omega))
        · rw [wi]
        · rcases (show j < 13 ∨ j = 13 by omega) with h | rfl
          · exact h2 j c' h hc'
          · rw [hx] at hc'; cases hc'; exact hok.2 ok
      · have hr := readV_bad (i := 13) (by decide) hx fun g => ok (hok.1 g)
        repeat' first | (refine DecK.no strN0 ?_) | (refine DecK.yes strE0 ?_) | (refine DecK.yes (strN _) ?_) | (refine DecK.no (strEC _) ?_) | first | (refine DecK.no (decide_eq_false (by omega)) ?_) | (refine DecK.yes (decide_eq_true (by omega)) ?_) | (refine DecK.no (beq_eq_false_iff_ne.2 (by omega)) ?_) | (refine DecK.yes (beq_iff_eq.2 (by omega)) ?_) | (refine DecK.yes (bne_iff_ne.2 (by omega)) ?_) | (refine DecK.no (bne_eq_false_iff_eq.2 (by omega)) ?_) | (refine DecK.tt ?_) | (refine DecK.ff ?_) | (refine OptK.mk _ (sIdx 13 rfl hx) ?_) | (refine OptK.mk _ (sPart 13 14 rfl wi (by decide) (by omega)) ?_) | (refine DecK.yes (strC_no (d := 58) ec ok) ?_)
        refine OptK.mk _ rfl ?_
        refine endV rfl ?_
        rw [hr]
        rfl
    · have wi : IntKind.i64.wrap (((14 : Nat) : Int) + 1) = ((15 : Nat) : Int) := by decide
      have hok : okB 14 c ↔ 48 ≤ c.toNat ∧ c.toNat ≤ 57 := Iff.rfl
      have ec := one_at hx
      by_cases ok : 48 ≤ c.toNat ∧ c.toNat ≤ 57
      · repeat' first | (refine DecK.no strN0 ?_) | (refine DecK.yes strE0 ?_) | (refine DecK.yes (strN _) ?_) | (refine DecK.no (strEC _) ?_) | first | (refine DecK.no (decide_eq_false (by omega)) ?_) | (refine DecK.yes (decide_eq_true (by omega)) ?_) | (refine DecK.no (beq_eq_false_iff_ne.2 (by omega)) ?_) | (refine DecK.yes (beq_iff_eq.2 (by omega)) ?_) | (refine DecK.yes (bne_iff_ne.2 (by omega)) ?_) | (refine DecK.no (bne_eq_false_iff_eq.2 (by omega)) ?_) | (refine DecK.tt ?_) | (refine DecK.ff ?_) | (refine OptK.mk _ (sIdx 14 rfl hx) ?_)
        refine loop_eq ?_ (ih 15 ⟨by omega, fun j c' hj hc' => ?_⟩ (by omega))
        · rw [wi]
        · rcases (show j < 14 ∨ j = 14 by omega) with h | rfl
          · exact h2 j c' h hc'
          · rw [hx] at hc'; cases hc'; exact hok.2 ok
      · have hr := readV_bad (i := 14) (by decide) hx fun g => ok (hok.1 g)
        by_cases lo : c.toNat < 48
        · repeat' first | (refine DecK.no strN0 ?_) | (refine DecK.yes strE0 ?_) | (refine DecK.yes (strN _) ?_) | (refine DecK.no (strEC _) ?_) | first | (refine DecK.no (decide_eq_false (by omega)) ?_) | (refine DecK.yes (decide_eq_true (by omega)) ?_) | (refine DecK.no (beq_eq_false_iff_ne.2 (by omega)) ?_) | (refine DecK.yes (beq_iff_eq.2 (by omega)) ?_) | (refine DecK.yes (bne_iff_ne.2 (by omega)) ?_) | (refine DecK.no (bne_eq_false_iff_eq.2 (by omega)) ?_) | (refine DecK.tt ?_) | (refine DecK.ff ?_) | (refine OptK.mk _ (sIdx 14 rfl hx) ?_)
          refine OptK.mk _ rfl ?_
          refine endV rfl ?_
          rw [hr]
          rfl
        · repeat' first | (refine DecK.no strN0 ?_) | (refine DecK.yes strE0 ?_) | (refine DecK.yes (strN _) ?_) | (refine DecK.no (strEC _) ?_) | first | (refine DecK.no (decide_eq_false (by omega)) ?_) | (refine DecK.yes (decide_eq_true (by omega)) ?_) | (refine DecK.no (beq_eq_false_iff_ne.2 (by omega)) ?_) | (refine DecK.yes (beq_iff_eq.2 (by omega)) ?_) | (refine DecK.yes (bne_iff_ne.2 (by omega)) ?_) | (refine DecK.no (bne_eq_false_iff_eq.2 (by omega)) ?_) | (refine DecK.tt ?_) | (refine DecK.ff ?_) | (refine OptK.mk _ (sIdx 14 rfl hx) ?_)
          refine OptK.mk _ rfl ?_
          refine endV rfl ?_
          rw [hr]
          rfl
    · have wi : IntKind.i64.wrap (((15 : Nat) : Int) + 1) = ((16 : Nat) : Int) := by decide
      have hok : okB 15 c ↔ 48 ≤ c.toNat ∧ c.toNat ≤ 57 := Iff.rfl
      have ec := one_at hx
      by_cases ok : 48 ≤ c.toNat ∧ c.toNat ≤ 57
      · repeat' first | (refine DecK.no strN0 ?_) | (refine DecK.yes strE0 ?_) | (refine DecK.yes (strN _) ?_) | (refine DecK.no (strEC _) ?_) | first | (refine DecK.no (decide_eq_false (by omega)) ?_) | (refine DecK.yes (decide_eq_true (by omega)) ?_) | (refine DecK.no (beq_eq_false_iff_ne.2 (by omega)) ?_) | (refine DecK.yes (beq_iff_eq.2 (by omega)) ?_) | (refine DecK.yes (bne_iff_ne.2 (by omega)) ?_) | (refine DecK.no (bne_eq_false_iff_eq.2 (by omega)) ?_) | (refine DecK.tt ?_) | (refine DecK.ff ?_) | (refine OptK.mk _ (sIdx 15 rfl hx) ?_)
        refine loop_eq ?_ (ih 16 ⟨by omega, fun j c' hj hc' => ?_⟩ (by omega))
        · rw [wi]
        · rcases (show j < 15 ∨ j = 15 by omega) with h | rfl
          · exact h2 j c' h hc'
          · rw [hx] at hc'; cases hc'; exact hok.2 ok
      · have hr := readV_bad (i := 15) (by decide) hx fun g => ok (hok.1 g)
        by_cases lo : c.toNat < 48
        · repeat' first | (refine DecK.no strN0 ?_) | (refine DecK.yes strE0 ?_) | (refine DecK.yes (strN _) ?_) | (refine DecK.no (strEC _) ?_) | first | (refine DecK.no (decide_eq_false (by omega)) ?_) | (refine DecK.yes (decide_eq_true (by omega)) ?_) | (refine DecK.no (beq_eq_false_iff_ne.2 (by omega)) ?_) | (refine DecK.yes (beq_iff_eq.2 (by omega)) ?_) | (refine DecK.yes (bne_iff_ne.2 (by omega)) ?_) | (refine DecK.no (bne_eq_false_iff_eq.2 (by omega)) ?_) | (refine DecK.tt ?_) | (refine DecK.ff ?_) | (refine OptK.mk _ (sIdx 15 rfl hx) ?_)
          refine OptK.mk _ rfl ?_
          refine endV rfl ?_
          rw [hr]
          rfl
        · repeat' first | (refine DecK.no strN0 ?_) | (refine DecK.yes strE0 ?_) | (refine DecK.yes (strN _) ?_) | (refine DecK.no (strEC _) ?_) | first | (refine DecK.no (decide_eq_false (by omega)) ?_) | (refine DecK.yes (decide_eq_true (by omega)) ?_) | (refine DecK.no (beq_eq_false_iff_ne.2 (by omega)) ?_) | (refine DecK.yes (beq_iff_eq.2 (by omega)) ?_) | (refine DecK.yes (bne_iff_ne.2 (by omega)) ?_) | (refine DecK.no (bne_eq_false_iff_eq.2 (by omega)) ?_) | (refine DecK.tt ?_) | (refine DecK.ff ?_) | (refine OptK.mk _ (sIdx 15 rfl hx) ?_)
          refine OptK.mk _ rfl ?_
          refine endV rfl ?_
          rw [hr]
          rfl
    · have wi : IntKind.i64.wrap (((16 : Nat) : Int) + 1) = ((17 : Nat) : Int) := by decide
      have hok : okB 16 c ↔ c.toNat = 58 := Iff.rfl
      have ec := one_at hx
      by_cases ok : c.toNat = 58
      · repeat' first | (refine DecK.no strN0 ?_) | (refine DecK.yes strE0 ?_) | (refine DecK.yes (strN _) ?_) | (refine DecK.no (strEC _) ?_) | first | (refine DecK.no (decide_eq_false (by omega)) ?_) | (refine DecK.yes (decide_eq_true (by omega)) ?_) | (refine DecK.no (beq_eq_false_iff_ne.2 (by omega)) ?_) | (refine DecK.yes (beq_iff_eq.2 (by omega)) ?_) | (refine DecK.yes (bne_iff_ne.2 (by omega)) ?_) | (refine DecK.no (bne_eq_false_iff_eq.2 (by omega)) ?_) | (refine DecK.tt ?_) | (refine DecK.ff ?_) | (refine OptK.mk _ (sIdx 16 rfl hx) ?_) | (refine OptK.mk _ (sPart 16 17 rfl wi (by decide) (by omega)) ?_) | (refine DecK.no (strC_yes (d := 58) ec ok) ?_)
        refine loop_eq ?_ (ih 17 ⟨by omega, fun j c' hj hc' => ?_⟩ (by omega))
        · rw [wi]
        · rcases (show j < 16 ∨ j = 16 by omega) with h | rfl
          · exact h2 j c' h hc'
          · rw [hx] at hc'; cases hc'; exact hok.2 ok
      · have hr := readV_bad (i := 16) (by decide) hx fun g => ok (hok.1 g)
        repeat' first | (refine DecK.no strN0 ?_) | (refine DecK.yes strE0 ?_) | (refine DecK.yes (strN _) ?_) | (refine DecK.no (strEC _) ?_) | first | (refine DecK.no (decide_eq_false (by omega)) ?_) | (refine DecK.yes (decide_eq_true (by omega)) ?_) | (refine DecK.no (beq_eq_false_iff_ne.2 (by omega)) ?_) | (refine DecK.yes (beq_iff_eq.2 (by omega)) ?_) | (refine DecK.yes (bne_iff_ne.2 (by omega)) ?_) | (refine DecK.no (bne_eq_false_iff_eq.2 (by omega)) ?_) | (refine DecK.tt ?_) | (refine DecK.ff ?_) | (refine OptK.mk _ (sIdx 16 rfl hx) ?_) | (refine OptK.mk _ (sPart 16 17 rfl wi (by decide) (by omega)) ?_) | (refine DecK.yes (strC_no (d := 58) ec ok) ?_)
        refine OptK.mk _ rfl ?_
        refine endV rfl ?_
        rw [hr]
        rfl
    · have wi : IntKind.i64.wrap (((17 : Nat) : Int) + 1) = ((18 : Nat) : Int) := by decide
      have hok : okB 17 c ↔ 48 ≤ c.toNat ∧ c.toNat ≤ 57 := Iff.rfl
      have ec := one_at hx
      by_cases ok : 48 ≤ c.toNat ∧ c.toNat ≤ 57
      · repeat' first | (refine DecK.no strN0 ?_) | (refine DecK.yes strE0 ?_) | (refine DecK.yes (strN _) ?_) | (refine DecK.no (strEC _) ?_) | first | (refine DecK.no (decide_eq_false (by omega)) ?_) | (refine DecK.yes (decide_eq_true (by omega)) ?_) | (refine DecK.no (beq_eq_false_iff_ne.2 (by omega)) ?_) | (refine DecK.yes (beq_iff_eq.2 (by omega)) ?_) | (refine DecK.yes (bne_iff_ne.2 (by omega)) ?_) | (refine DecK.no (bne_eq_false_iff_eq.2 (by omega)) ?_) | (refine DecK.tt ?_) | (refine DecK.ff ?_) | (refine OptK.mk _ (sIdx 17 rfl hx) ?_)
        refine loop_eq ?_ (ih 18 ⟨by omega, fun j c' hj hc' => ?_⟩ (by omega))
        · rw [wi]
        · rcases (show j < 17 ∨ j = 17 by omega) with h | rfl
          · exact h2 j c' h hc'
          · rw [hx] at hc'; cases hc'; exact hok.2 ok
      · have hr := readV_bad (i := 17) (by decide) hx fun g => ok (hok.1 g)
        by_cases lo : c.toNat < 48
        · repeat' first | (refine DecK.no strN0 ?_) | (refine DecK.yes strE0 ?_) | (refine DecK.yes (strN _) ?_) | (refine DecK.no (strEC _) ?_) | first | (refine DecK.no (decide_eq_false (by omega)) ?_) | (refine DecK.yes (decide_eq_true (by omega)) ?_) | (refine DecK.no (beq_eq_false_iff_ne.2 (by omega)) ?_) | (refine DecK.yes (beq_iff_eq.2 (by omega)) ?_) | (refine DecK.yes (bne_iff_ne.2 (by omega)) ?_) | (refine DecK.no (bne_eq_false_iff_eq.2 (by omega)) ?_) | (refine DecK.tt ?_) | (refine DecK.ff ?_) | (refine OptK.mk _ (sIdx 17 rfl hx) ?_)
          refine OptK.mk _ rfl ?_
          refine endV rfl ?_
          rw [hr]
          rfl
        · repeat' first | (refine DecK.no strN0 ?_) | (refine DecK.yes strE0 ?_) | (refine DecK.yes (strN _) ?_) | (refine DecK.no (strEC _) ?_) | first | (refine DecK.no (decide_eq_false (by omega)) ?_) | (refine DecK.yes (decide_eq_true (by omega)) ?_) | (refine DecK.no (beq_eq_false_iff_ne.2 (by omega)) ?_) | (refine DecK.yes (beq_iff_eq.2 (by omega)) ?_) | (refine DecK.yes (bne_iff_ne.2 (by omega)) ?_) | (refine DecK.no (bne_eq_false_iff_eq.2 (by omega)) ?_) | (refine DecK.tt ?_) | (refine DecK.ff ?_) | (refine OptK.mk _ (sIdx 17 rfl hx) ?_)
          refine OptK.mk _ rfl ?_
          refine endV rfl ?_
          rw [hr]
          rfl
    · have wi : IntKind.i64.wrap (((18 : Nat) : Int) + 1) = ((19 : Nat) : Int) := by decide
      have hok : okB 18 c ↔ 48 ≤ c.toNat ∧ c.toNat ≤ 57 := Iff.rfl
      have ec := one_at hx
      by_cases ok : 48 ≤ c.toNat ∧ c.toNat ≤ 57
      · repeat' first | (refine DecK.no strN0 ?_) | (refine DecK.yes strE0 ?_) | (refine DecK.yes (strN _) ?_) | (refine DecK.no (strEC _) ?_) | first | (refine DecK.no (decide_eq_false (by omega)) ?_) | (refine DecK.yes (decide_eq_true (by omega)) ?_) | (refine DecK.no (beq_eq_false_iff_ne.2 (by omega)) ?_) | (refine DecK.yes (beq_iff_eq.2 (by omega)) ?_) | (refine DecK.yes (bne_iff_ne.2 (by omega)) ?_) | (refine DecK.no (bne_eq_false_iff_eq.2 (by omega)) ?_) | (refine DecK.tt ?_) | (refine DecK.ff ?_) | (refine OptK.mk _ (sIdx 18 rfl hx) ?_)
        refine loop_eq ?_ (ih 19 ⟨by omega, fun j c' hj hc' => ?_⟩ (by omega))
        · rw [wi]
        · rcases (show j < 18 ∨ j = 18 by omega) with h | rfl
          · exact h2 j c' h hc'
          · rw [hx] at hc'; cases hc'; exact hok.2 ok
      · have hr := readV_bad (i := 18) (by decide) hx fun g => ok (hok.1 g)
        by_cases lo : c.toNat < 48
        · repeat' first | (refine DecK.no strN0 ?_) | (refine DecK.yes strE0 ?_) | (refine DecK.yes (strN _) ?_) | (refine DecK.no (strEC _) ?_) | first | (refine DecK.no (decide_eq_false (by omega)) ?_) | (refine DecK.yes (decide_eq_true (by omega)) ?_) | (refine DecK.no (beq_eq_false_iff_ne.2 (by omega)) ?_) | (refine DecK.yes (beq_iff_eq.2 (by omega)) ?_) | (refine DecK.yes (bne_iff_ne.2 (by omega)) ?_) | (refine DecK.no (bne_eq_false_iff_eq.2 (by omega)) ?_) | (refine DecK.tt ?_) | (refine DecK.ff ?_) | (refine OptK.mk _ (sIdx 18 rfl hx) ?_)
          refine OptK.mk _ rfl ?_
          refine endV rfl ?_
          rw [hr]
          rfl
        · repeat' first | (refine DecK.no strN0 ?_) | (refine DecK.yes strE0 ?_) | (refine DecK.yes (strN _) ?_) | (refine DecK.no (strEC _) ?_) | first | (refine DecK.no (decide_eq_false (by omega)) ?_) | (refine DecK.yes (decide_eq_true (by omega)) ?_) | (refine DecK.no (beq_eq_false_iff_ne.2 (by omega)) ?_) | (refine DecK.yes (beq_iff_eq.2 (by omega)) ?_) | (refine DecK.yes (bne_iff_ne.2 (by omega)) ?_) | (refine DecK.no (bne_eq_false_iff_eq.2 (by omega)) ?_) | (refine DecK.tt ?_) | (refine DecK.ff ?_) | (refine OptK.mk _ (sIdx 18 rfl hx) ?_)
          refine OptK.mk _ rfl ?_
          refine endV rfl ?_
          rw [hr]
          rfl
    · have wi : IntKind.i64.wrap (((19 : Nat) : Int) + 1) = ((20 : Nat) : Int) := by decide
      have hok : okB 19 c ↔ c.toNat = 46 := Iff.rfl
      have ec := one_at hx
      by_cases ok : c.toNat = 46
      · repeat' first | (refine DecK.no strN0 ?_) | (refine DecK.yes strE0 ?_) | (refine DecK.yes (strN _) ?_) | (refine DecK.no (strEC _) ?_) | first | (refine DecK.no (decide_eq_false (by omega)) ?_) | (refine DecK.yes (decide_eq_true (by omega)) ?_) | (refine DecK.no (beq_eq_false_iff_ne.2 (by omega)) ?_) | (refine DecK.yes (beq_iff_eq.2 (by omega)) ?_) | (refine DecK.yes (bne_iff_ne.2 (by omega)) ?_) | (refine DecK.no (bne_eq_false_iff_eq.2 (by omega)) ?_) | (refine DecK.tt ?_) | (refine DecK.ff ?_) | (refine OptK.mk _ (sIdx 19 rfl hx) ?_) | (refine OptK.mk _ (sPart 19 20 rfl wi (by decide) (by omega)) ?_) | (refine DecK.no (strC_yes (d := 46) ec ok) ?_)
        refine loop_eq ?_ (ih 20 ⟨by omega, fun j c' hj hc' => ?_⟩ (by omega))
        · rw [wi]
        · rcases (show j < 19 ∨ j = 19 by omega) with h | rfl
          · exact h2 j c' h hc'
          · rw [hx] at hc'; cases hc'; exact hok.2 ok
      · have hr := readV_bad (i := 19) (by decide) hx fun g => ok (hok.1 g)
        repeat' first | (refine DecK.no strN0 ?_) | (refine DecK.yes strE0 ?_) | (refine DecK.yes (strN _) ?_) | (refine DecK.no (strEC _) ?_) | first | (refine DecK.no (decide_eq_false (by omega)) ?_) | (refine DecK.yes (decide_eq_true (by omega)) ?_) | (refine DecK.no (beq_eq_false_iff_ne.2 (by omega)) ?_) | (refine DecK.yes (beq_iff_eq.2 (by omega)) ?_) | (refine DecK.yes (bne_iff_ne.2 (by omega)) ?_) | (refine DecK.no (bne_eq_false_iff_eq.2 (by omega)) ?_) | (refine DecK.tt ?_) | (refine DecK.ff ?_) | (refine OptK.mk _ (sIdx 19 rfl hx) ?_) | (refine OptK.mk _ (sPart 19 20 rfl wi (by decide) (by omega)) ?_) | (refine DecK.yes (strC_no (d := 46) ec ok) ?_)
        refine OptK.mk _ rfl ?_
        refine endV rfl ?_
        rw [hr]
        rfl
    · have wi : IntKind.i64.wrap (((20 : Nat) : Int) + 1) = ((21 : Nat) : Int) := by decide
      have hok : okB 20 c ↔ 48 ≤ c.toNat ∧ c.toNat ≤ 57 := Iff.rfl
      have ec := one_at hx
      by_cases ok : 48 ≤ c.toNat ∧ c.toNat ≤ 57
      · repeat' first | (refine DecK.no strN0 ?_) | (refine DecK.yes strE0 ?_) | (refine DecK.yes (strN _) ?_) | (refine DecK.no (strEC _) ?_) | first | (refine DecK.no (decide_eq_false (by omega)) ?_) | (refine DecK.yes (decide_eq_true (by omega)) ?_) | (refine DecK.no (beq_eq_false_iff_ne.2 (by omega)) ?_) | (refine DecK.yes (beq_iff_eq.2 (by omega)) ?_) | (refine DecK.yes (bne_iff_ne.2 (by omega)) ?_) | (refine DecK.no (bne_eq_false_iff_eq.2 (by omega)) ?_) | (refine DecK.tt ?_) | (refine DecK.ff ?_) | (refine OptK.mk _ (sIdx 20 rfl hx) ?_)
        refine loop_eq ?_ (ih 21 ⟨by omega, fun j c' hj hc' => ?_⟩ (by omega))
        · rw [wi]
        · rcases (show j < 20 ∨ j = 20 by omega) with h | rfl
          · exact h2 j c' h hc'
          · rw [hx] at hc'; cases hc'; exact hok.2 ok
      · have hr := readV_bad (i := 20) (by decide) hx fun g => ok (hok.1 g)
        by_cases lo : c.toNat < 48
        · repeat' first | (refine DecK.no strN0 ?_) | (refine DecK.yes strE0 ?_) | (refine DecK.yes (strN _) ?_) | (refine DecK.no (strEC _) ?_) | first | (refine DecK.no (decide_eq_false (by omega)) ?_) | (refine DecK.yes (decide_eq_true (by omega)) ?_) | (refine DecK.no (beq_eq_false_iff_ne.2 (by omega)) ?_) | (refine DecK.yes (beq_iff_eq.2 (by omega)) ?_) | (refine DecK.yes (bne_iff_ne.2 (by omega)) ?_) | (refine DecK.no (bne_eq_false_iff_eq.2 (by omega)) ?_) | (refine DecK.tt ?_) | (refine DecK.ff ?_) | (refine OptK.mk _ (sIdx 20 rfl hx) ?_)
          refine OptK.mk _ rfl ?_
          refine endV rfl ?_
          rw [hr]
          rfl
        · repeat' first | (refine DecK.no strN0 ?_) | (refine DecK.yes strE0 ?_) | (refine DecK.yes (strN _) ?_) | (refine DecK.no (strEC _) ?_) | first | (refine DecK.no (decide_eq_false (by omega)) ?_) | (refine DecK.yes (decide_eq_true (by omega)) ?_) | (refine DecK.no (beq_eq_false_iff_ne.2 (by omega)) ?_) | (refine DecK.yes (beq_iff_eq.2 (by omega)) ?_) | (refine DecK.yes (bne_iff_ne.2 (by omega)) ?_) | (refine DecK.no (bne_eq_false_iff_eq.2 (by omega)) ?_) | (refine DecK.tt ?_) | (refine DecK.ff ?_) | (refine OptK.mk _ (sIdx 20 rfl hx) ?_)
          refine OptK.mk _ rfl ?_
          refine endV rfl ?_
          rw [hr]
          rfl
    · have wi : IntKind.i64.wrap (((21 : Nat) : Int) + 1) = ((22 : Nat) : Int) := by decide
      have hok : okB 21 c ↔ 48 ≤ c.toNat ∧ c.toNat ≤ 57 := Iff.rfl
      have ec := one_at hx
      by_cases ok : 48 ≤ c.toNat ∧ c.toNat ≤ 57
      · repeat' first | (refine DecK.no strN0 ?_) | (refine DecK.yes strE0 ?_) | (refine DecK.yes (strN _) ?_) | (refine DecK.no (strEC _) ?_) | first | (refine DecK.no (decide_eq_false (by omega)) ?_) | (refine DecK.yes (decide_eq_true (by omega)) ?_) | (refine DecK.no (beq_eq_false_iff_ne.2 (by omega)) ?_) | (refine DecK.yes (beq_iff_eq.2 (by omega)) ?_) | (refine DecK.yes (bne_iff_ne.2 (by omega)) ?_) | (refine DecK.no (bne_eq_false_iff_eq.2 (by omega)) ?_) | (refine DecK.tt ?_) | (refine DecK.ff ?_) | (refine OptK.mk _ (sIdx 21 rfl hx) ?_)
        refine loop_eq ?_ (ih 22 ⟨by omega, fun j c' hj hc' => ?_⟩ (by omega))
        · rw [wi]
        · rcases (show j < 21 ∨ j = 21 by omega) with h | rfl
          · exact h2 j c' h hc'
          · rw [hx] at hc'; cases hc'; exact hok.2 ok
      · have hr := readV_bad (i := 21) (by decide) hx fun g => ok (hok.1 g)
        by_cases lo : c.toNat < 48
        · repeat' first | (refine DecK.no strN0 ?_) | (refine DecK.yes strE0 ?_) | (refine DecK.yes (strN _) ?_) | (refine DecK.no (strEC _) ?_) | first | (refine DecK.no (decide_eq_false (by omega)) ?_) | (refine DecK.yes (decide_eq_true (by omega)) ?_) | (refine DecK.no (beq_eq_false_iff_ne.2 (by omega)) ?_) | (refine DecK.yes (beq_iff_eq.2 (by omega)) ?_) | (refine DecK.yes (bne_iff_ne.2 (by omega)) ?_) | (refine DecK.no (bne_eq_false_iff_eq.2 (by omega)) ?_) | (refine DecK.tt ?_) | (refine DecK.ff ?_) | (refine OptK.mk _ (sIdx 21 rfl hx) ?_)
          refine OptK.mk _ rfl ?_
          refine endV rfl ?_
          rw [hr]
          rfl
        · repeat' first | (refine DecK.no strN0 ?_) | (refine DecK.yes strE0 ?_) | (refine DecK.yes (strN _) ?_) | (refine DecK.no (strEC _) ?_) | first | (refine DecK.no (decide_eq_false (by omega)) ?_) | (refine DecK.yes (decide_eq_true (by omega)) ?_) | (refine DecK.no (beq_eq_false_iff_ne.2 (by omega)) ?_) | (refine DecK.yes (beq_iff_eq.2 (by omega)) ?_) | (refine DecK.yes (bne_iff_ne.2 (by omega)) ?_) | (refine DecK.no (bne_eq_false_iff_eq.2 (by omega)) ?_) | (refine DecK.tt ?_) | (refine DecK.ff ?_) | (refine OptK.mk _ (sIdx 21 rfl hx) ?_)
          refine OptK.mk _ rfl ?_
          refine endV rfl ?_
          rw [hr]
          rfl
    · have wi : IntKind.i64.wrap (((22 : Nat) : Int) + 1) = ((23 : Nat) : Int) := by decide
      have hok : okB 22 c ↔ 48 ≤ c.toNat ∧ c.toNat ≤ 57 := Iff.rfl
      have ec := one_at hx
      by_cases ok : 48 ≤ c.toNat ∧ c.toNat ≤ 57
      · repeat' first | (refine DecK.no strN0 ?_) | (refine DecK.yes strE0 ?_) | (refine DecK.yes (strN _) ?_) | (refine DecK.no (strEC _) ?_) | first | (refine DecK.no (decide_eq_false (by omega)) ?_) | (refine DecK.yes (decide_eq_true (by omega)) ?_) | (refine DecK.no (beq_eq_false_iff_ne.2 (by omega)) ?_) | (refine DecK.yes (beq_iff_eq.2 (by omega)) ?_) | (refine DecK.yes (bne_iff_ne.2 (by omega)) ?_) | (refine DecK.no (bne_eq_false_iff_eq.2 (by omega)) ?_) | (refine DecK.tt ?_) | (refine DecK.ff ?_) | (refine OptK.mk _ (sIdx 22 rfl hx) ?_)
        refine loop_eq ?_ (ih 23 ⟨by omega, fun j c' hj hc' => ?_⟩ (by omega))
        · rw [wi]
        · rcases (show j < 22 ∨ j = 22 by omega) with h | rfl
          · exact h2 j c' h hc'
          · rw [hx] at hc'; cases hc'; exact hok.2 ok
      · have hr := readV_bad (i := 22) (by decide) hx fun g => ok (hok.1 g)
        by_cases lo : c.toNat < 48
        · repeat' first | (refine DecK.no strN0 ?_) | (refine DecK.yes strE0 ?_) | (refine DecK.yes (strN _) ?_) | (refine DecK.no (strEC _) ?_) | first | (refine DecK.no (decide_eq_false (by omega)) ?_) | (refine DecK.yes (decide_eq_true (by omega)) ?_) | (refine DecK.no (beq_eq_false_iff_ne.2 (by omega)) ?_) | (refine DecK.yes (beq_iff_eq.2 (by omega)) ?_) | (refine DecK.yes (bne_iff_ne.2 (by omega)) ?_) | (refine DecK.no (bne_eq_false_iff_eq.2 (by omega)) ?_) | (refine DecK.tt ?_) | (refine DecK.ff ?_) | (refine OptK.mk _ (sIdx 22 rfl hx) ?_)
          refine OptK.mk _ rfl ?_
          refine endV rfl ?_
          rw [hr]
          rfl
        · repeat' first | (refine DecK.no strN0 ?_) | (refine DecK.yes strE0 ?_) | (refine DecK.yes (strN _) ?_) | (refine DecK.no (strEC _) ?_) | first | (refine DecK.no (decide_eq_false (by omega)) ?_) | (refine DecK.yes (decide_eq_true (by omega)) ?_) | (refine DecK.no (beq_eq_false_iff_ne.2 (by omega)) ?_) | (refine DecK.yes (beq_iff_eq.2 (by omega)) ?_) | (refine DecK.yes (bne_iff_ne.2 (by omega)) ?_) | (refine DecK.no (bne_eq_false_iff_eq.2 (by omega)) ?_) | (refine DecK.tt ?_) | (refine DecK.ff ?_) | (refine OptK.mk _ (sIdx 22 rfl hx) ?_)
          refine OptK.mk _ rfl ?_
          refine endV rfl ?_
          rw [hr]
          rfl
  · obtain rfl : i = 23 := by omega
    have hg := goodT_of hl h2
    have hr : readV s = (if civErr (prt s 0 4) (prt s 5 7) (prt s 8 10) (prt s 11 13) (prt s 14 16) (prt s 17 19) (prt s 20 23) = 0 then .tup [civilV (prt s 0 4) (prt s 5 7) (prt s 8 10) (prt s 11 13) (prt s 14 16) (prt s 17 19) (prt s 20 23), .n .i64 0] else .tup [civilV 0 0 0 0 0 0 0, .n .i64 (civErr (prt s 0 4) (prt s 5 7) (prt s 8 10) (prt s 11 13) (prt s 14 16) (prt s 17 19) (prt s 20 23))]) := if_pos ⟨hl, hg⟩
    refine CallK.mk _ (part_ok s hl hg 0 4 (by decide) (by decide) (by decide) (by decide)) rfl ?_
    refine CallK.mk _ (part_ok s hl hg 5 7 (by decide) (by decide) (by decide) (by decide)) rfl ?_
    refine CallK.mk _ (part_ok s hl hg 8 10 (by decide) (by decide) (by decide) (by decide)) rfl ?_
    refine CallK.mk _ (part_ok s hl hg 11 13 (by decide) (by decide) (by decide) (by decide)) rfl ?_
    refine CallK.mk _ (part_ok s hl hg 14 16 (by decide) (by decide) (by decide) (by decide)) rfl ?_
    refine CallK.mk _ (part_ok s hl hg 17 19 (by decide) (by decide) (by decide) (by decide)) rfl ?_
    refine CallK.mk _ (part_ok s hl hg 20 23 (by decide) (by decide) (by decide) (by decide)) rfl ?_
    repeat' (refine OptK.mk _ rfl ?_)
    refine CallK.mk _ (civilErr_ok (prt s 0 4) (prt s 5 7) (prt s 8 10) (prt s 11 13) (prt s 14 16) (prt s 17 19) (prt s 20 23)) rfl ?_
    by_cases ce : civErr (prt s 0 4) (prt s 5 7) (prt s 8 10) (prt s 11 13) (prt s 14 16) (prt s 17 19) (prt s 20 23) = 0
    · refine DecK.no (bne_eq_false_iff_eq.2 ce) ?_
      repeat' (refine OptK.mk _ rfl ?_)
      refine endV rfl ?_
      rw [hr, if_pos ce]
      rfl
    · refine DecK.yes (bne_iff_ne.2 ce) ?_
      repeat' (refine OptK.mk _ rfl ?_)
      refine endV rfl ?_
      rw [hr, if_neg ce]
      rfl
end Go.Proofs.YtljcbmnkjiogmaaDoor.Sv
