/- Clocks: the statement on times. No condition. -/
import Derived.Test.YtdceakejbnolpaaCa
namespace Go.Proofs.Ytdceakejbnolpaa.Sv
open Go Go.RowKit
set_option linter.unusedVariables false
set_option linter.unusedSimpArgs false
set_option maxRecDepth 100000
/-- spyglass/clock.Uniform -/
def F74 : Fn1 := ⟨54, .seq (.reg [⟨some 2, none, .box, [.tm 0]⟩, ⟨some 4, none, .alloc [.n .i64 0, .n .i64 0, .b false], []⟩] [1, 2, 4]) (.seq (.seq (.reg [⟨some 10, none, .ld true 5 false, [.tm 2]⟩, ⟨some 11, none, .call 75, [.tm 10]⟩, ⟨some 12, none, .po (.bin .neq), [.tm 11, .cn (.n .i64 0)]⟩, ⟨some 13, none, .mv, [.tm 12]⟩, ⟨some 14, some (13, false), .mv, [.tm 1]⟩, ⟨some 15, some (13, false), .call 72, [.tm 14]⟩, ⟨some 16, some (13, false), .po (.un .not), [.tm 15]⟩, ⟨some 17, none, .pick, [.tm 13, .cn (.b true), .tm 16]⟩, ⟨some 18, none, .mv, [.tm 17]⟩, ⟨some 19, some (18, false), .mv, [.tm 1]⟩, ⟨some 20, some (18, false), .fa 0, [.tm 2]⟩, ⟨some 21, some (18, false), .ld false 1 false, [.tm 20]⟩, ⟨some 22, some (18, false), .po (.bin .lss), [.tm 19, .tm 21]⟩, ⟨some 23, none, .pick, [.tm 18, .cn (.b true), .tm 22]⟩] [1, 2, 4, 23]) (.cond (.tm 23) (.seq (.reg [⟨some 24, none, .call 134, []⟩, ⟨none, none, .st 3, [.tm 4, .tm 24]⟩] [4]) .ret) .skip)) (.seq (.reg [⟨some 25, none, .mv, [.tm 1]⟩, ⟨some 26, none, .fa 0, [.tm 2]⟩, ⟨some 27, none, .ld false 1 false, [.tm 26]⟩, ⟨some 28, none, .po (.bin .sub), [.tm 25, .tm 27]⟩, ⟨some 5, none, .mv, [.tm 28]⟩] [2, 4, 5]) (.seq (.reg [⟨some 30, none, .mv, [.tm 5]⟩, ⟨some 31, none, .po (.bin .sub), [.tm 30, .cn (.n .i64 1)]⟩, ⟨some 32, none, .po .mx, [.tm 31, .cn (.n .i64 0)]⟩, ⟨some 33, none, .fa 4, [.tm 2]⟩, ⟨some 34, none, .ld false 1 false, [.tm 33]⟩, ⟨some 35, none, .po (.bin .add), [.cn (.n .i64 1000000), .tm 34]⟩, ⟨some 36, none, .call 125, [.tm 32, .cn (.n .i64 1000000), .tm 35]⟩, ⟨some 29, none, .mv, [.tm 36]⟩, ⟨some 37, none, .po (.ext 0), [.tm 29]⟩, ⟨some 38, none, .po (.ext 1), [.tm 29]⟩, ⟨some 6, none, .mv, [.tm 37]⟩, ⟨some 7, none, .mv, [.tm 38]⟩] [2, 4, 5, 6]) (.seq (.reg [⟨some 40, none, .mv, [.tm 5]⟩, ⟨some 41, none, .po (.bin .add), [.tm 40, .cn (.n .i64 1)]⟩, ⟨some 42, none, .fa 4, [.tm 2]⟩, ⟨some 43, none, .ld false 1 false, [.tm 42]⟩, ⟨some 44, none, .po (.bin .sub), [.cn (.n .i64 1000000), .tm 43]⟩, ⟨some 45, none, .call 76, [.tm 41, .cn (.n .i64 1000000), .tm 44]⟩, ⟨some 39, none, .mv, [.tm 45]⟩, ⟨some 46, none, .po (.ext 0), [.tm 39]⟩, ⟨some 47, none, .po (.ext 1), [.tm 39]⟩, ⟨some 8, none, .mv, [.tm 46]⟩, ⟨some 9, none, .mv, [.tm 47]⟩] [2, 4, 6, 8]) (.seq (.dreg [⟨some 48, none, .fa 1, [.tm 2]⟩, ⟨some 49, none, .ld true 3 false, [.tm 48]⟩, ⟨some 50, none, .mv, [.tm 6]⟩, ⟨some 51, none, .mv, [.tm 8]⟩, ⟨some 52, none, .call 78, [.tm 50, .tm 51]⟩, ⟨some 53, none, .call 77, [.tm 49, .tm 52]⟩, ⟨none, none, .st 3, [.tm 4, .tm 53]⟩] [] [4]) .ret))))), [.cell 4 true 3]⟩
theorem of74 : Fn1.of Try.prog 74 ⟨false, [], false⟩ [[1, 2, 4], [1, 2, 4, 23], [4], [2, 4, 5], [2, 4, 5, 6], [2, 4, 6, 8], [4]] = some F74 := by kernel_rfl
/-- spyglass/spyref1.Said -/
def F81 : Fn1 := ⟨49, .seq (.reg [⟨some 2, none, .box, [.tm 0]⟩, ⟨some 4, none, .alloc [.n .i64 0, .n .i64 0, .b false], []⟩] [1, 2, 4]) (.seq (.seq (.reg [⟨some 6, none, .ld true 5 false, [.tm 2]⟩, ⟨some 7, none, .call 141, [.tm 6]⟩, ⟨some 8, none, .po (.un .not), [.tm 7]⟩, ⟨some 9, none, .mv, [.tm 8]⟩, ⟨some 10, some (9, false), .mv, [.tm 1]⟩, ⟨some 11, some (9, false), .call 73, [.tm 10]⟩, ⟨some 12, some (9, false), .po (.un .not), [.tm 11]⟩, ⟨some 13, none, .pick, [.tm 9, .cn (.b true), .tm 12]⟩, ⟨some 14, none, .mv, [.tm 13]⟩, ⟨some 15, some (14, false), .mv, [.tm 1]⟩, ⟨some 16, some (14, false), .fa 0, [.tm 2]⟩, ⟨some 17, some (14, false), .ld false 1 false, [.tm 16]⟩, ⟨some 18, some (14, false), .po (.bin .lss), [.tm 15, .tm 17]⟩, ⟨some 19, none, .pick, [.tm 14, .cn (.b true), .tm 18]⟩] [1, 2, 4, 19]) (.cond (.tm 19) (.seq (.reg [⟨some 20, none, .po (.build [.n .i64 0, .n .i64 0, .b false] [(2, 1)]), [.cn (.b true)]⟩, ⟨none, none, .st 3, [.tm 4, .tm 20]⟩] [4]) .ret) .skip)) (.seq (.reg [⟨some 21, none, .mv, [.tm 1]⟩, ⟨some 22, none, .fa 0, [.tm 2]⟩, ⟨some 23, none, .ld false 1 false, [.tm 22]⟩, ⟨some 24, none, .po (.bin .sub), [.tm 21, .tm 23]⟩, ⟨some 5, none, .mv, [.tm 24]⟩] [2, 4, 5]) (.seq (.dreg [⟨some 25, none, .fa 1, [.tm 2]⟩, ⟨some 26, none, .fa 0, [.tm 25]⟩, ⟨some 27, none, .ld false 1 false, [.tm 26]⟩, ⟨some 28, none, .call 15, [.tm 27]⟩, ⟨some 29, none, .mv, [.tm 5]⟩, ⟨some 30, none, .po (.bin .sub), [.tm 29, .cn (.n .i64 1)]⟩, ⟨some 31, none, .po .mx, [.cn (.n .i64 0), .tm 30]⟩, ⟨some 32, none, .fa 4, [.tm 2]⟩, ⟨some 33, none, .ld false 1 false, [.tm 32]⟩, ⟨some 34, none, .po (.bin .add), [.cn (.n .i64 1000000), .tm 33]⟩, ⟨some 35, none, .call 84, [.tm 31, .cn (.n .i64 1000000), .tm 34, .cn (.b false)]⟩, ⟨some 36, none, .call 22, [.tm 28, .tm 35]⟩, ⟨some 37, none, .fa 1, [.tm 2]⟩, ⟨some 38, none, .fa 1, [.tm 37]⟩, ⟨some 39, none, .ld false 1 false, [.tm 38]⟩, ⟨some 40, none, .call 15, [.tm 39]⟩, ⟨some 41, none, .mv, [.tm 5]⟩, ⟨some 42, none, .po (.bin .add), [.tm 41, .cn (.n .i64 1)]⟩, ⟨some 43, none, .fa 4, [.tm 2]⟩, ⟨some 44, none, .ld false 1 false, [.tm 43]⟩, ⟨some 45, none, .po (.bin .sub), [.cn (.n .i64 1000000), .tm 44]⟩, ⟨some 46, none, .call 84, [.tm 42, .cn (.n .i64 1000000), .tm 45, .cn (.b true)]⟩, ⟨some 47, none, .call 22, [.tm 40, .tm 46]⟩, ⟨some 48, none, .call 83, [.tm 36, .tm 47]⟩, ⟨none, none, .st 3, [.tm 4, .tm 48]⟩] [] [4]) .ret))), [.cell 4 true 3]⟩
theorem of81 : Fn1.of Try.prog 81 ⟨false, [], false⟩ [[1, 2, 4], [1, 2, 4, 19], [4], [2, 4, 5], [4]] = some F81 := by kernel_rfl
/-- spyglass/spylaw1.clocks -/
def F32 : Fn1 := ⟨8, .seq (.reg [⟨some 0, none, .mv, [.cn (.b false)]⟩] []) (.seq (.reg [⟨some 2, none, .po (.build [.n .i64 0, .n .i64 0, .b false] [(0, 1), (1, 1)]), [.cn (.n .i64 5000), .cn (.n .i64 5010)]⟩, ⟨some 3, none, .po (.build [.n .i64 0, .n .i64 0, .n .i64 0, .b false, .n .i64 0] [(0, 1), (1, 3), (4, 1)]), [.cn (.n .i64 1000), .tm 2, .cn (.n .i64 100000)]⟩, ⟨some 1, none, .alloc [.n .i64 0, .n .i64 0, .n .i64 0, .b false, .n .i64 0], []⟩, ⟨none, none, .st 5, [.tm 1, .tm 3]⟩] [1]) (.seq (.reg [⟨some 4, none, .ld true 5 false, [.tm 1]⟩, ⟨some 5, none, .call 74, [.tm 4, .cn (.n .i64 1100)]⟩, ⟨some 6, none, .po (.build [.n .i64 0, .n .i64 0, .b false] [(0, 1), (1, 1)]), [.cn (.n .i64 5090), .cn (.n .i64 5123)]⟩, ⟨some 7, none, .po (.veq false [(0, .n), (1, .n), (2, .b)]), [.tm 5, .tm 6]⟩, ⟨some 0, none, .mv, [.tm 7]⟩] [0]) .ret)), [.tm 0]⟩
theorem of32 : Fn1.of Try.prog 32 ⟨false, [], false⟩ [[], [1], [0]] = some F32 := by kernel_rfl
/-- A part of a time: how large it may be. -/
theorem part_le {a n d : Int} (ha : 0 ≤ a) (hn : 0 ≤ n ∧ n ≤ 1100000) (hd : 900000 ≤ d ∧ d ≤ 1100000) : 0 ≤ a * n / d ∧ a * n / d ≤ 2 * a ∧ a * n / d ≤ cdiv (a * n) d ∧ cdiv (a * n) d ≤ a * n / d + 1 := by
  have h1 : 0 ≤ a * n / d := Int.ediv_nonneg (Int.mul_nonneg ha hn.1) (by omega)
  have h2 : a * n / d ≤ 2 * a := by
    have e : a * n ≤ a * (2 * d) := Int.mul_le_mul_of_nonneg_left (by omega) ha
    have := Int.ediv_le_ediv (show 0 < d by omega) e
    rw [show a * (2 * d) = 2 * a * d by grind, Int.mul_ediv_cancel _ (by omega)] at this
    exact this
  obtain ⟨q, r, g1, g2, g3, g4, g5, g6⟩ := quo_all (a := a * n) (b := d) (by omega)
  have := Int.mul_nonneg ha hn.1
  refine ⟨h1, h2, by omega, by omega⟩
def uniB (s lo hi : Int) (u : Bool) (dr t : Int) : Bd :=
  if clkErr s lo hi u dr = 0 ∧ u = false ∧ inT t ∧ s ≤ t then mkB (lo + max (t - s - 1) 0 * 1000000 / (1000000 + dr)) (hi + cdiv ((t - s + 1) * 1000000) (1000000 - dr)) else none
theorem quoT_fit {d q : Int} (h : ¬ d < 1) (hq : fits q) : V.tup (quoT d q) = .tup [.n .i64 q, .n .i64 0] := by rw [quoT, if_neg h, if_pos hq]
theorem upT_fit {d x : Int} (h : ¬ d < 1) (hq : fits (x / d)) (hc : fits (cdiv x d)) : V.tup (upT d x) = .tup [.n .i64 (cdiv x d), .n .i64 0] := by rw [upT, if_neg h, if_pos ⟨hq, hc⟩]
theorem uniform_ok (s lo hi : Int) (u : Bool) (dr t : Int) : Pure Try.prog 74 [clkV s lo hi u dr, .n .i64 t] (encB (uniB s lo hi u dr t)) := by
  refine pure_of_wp of74 (Nat.le_of_ble_eq_true rfl) ?_
  have tn := noneTick
  refine CallK.mk _ (clkCheck s lo hi u dr) rfl ?_
  refine DecK.bne (fun h => ?_) (fun h => ?_)
  · repeat' first | refine DecK.tt ?_ | refine DecK.ff ?_ | refine DecK.beq (fun _ => ?_) (fun _ => ?_) | refine DecK.bne (fun _ => ?_) (fun _ => ?_) | refine DecK.dec (fun _ => ?_) (fun _ => ?_) | refine OptK.mk _ rfl ?_ | refine endV (by rfl) ?_ | (refine CallK.mk _ tn rfl ?_)
    rw [uniB, if_neg (fun g => h g.1)]; rfl
  obtain ⟨h1, h2, h3, h4, h5, h6⟩ := clk_ok h
  refine CallK.mk _ (inTime1 t) rfl ?_
  by_cases ht : inT t
  case neg =>
    refine DecK.yes (by simp [ht]) ?_
    repeat' first | (refine DecK.yes (by simp [ht]) ?_) | (refine CallK.mk _ tn rfl ?_) | (refine OptK.mk _ rfl ?_) | (refine endV (by rfl) ?_)
    rw [uniB, if_neg (fun g => ht g.2.2.1)]; rfl
  refine DecK.no (by simp [ht]) ?_
  refine DecK.dec (fun hs => ?_) (fun hs => ?_)
  · repeat' first | refine DecK.tt ?_ | refine DecK.ff ?_ | refine DecK.beq (fun _ => ?_) (fun _ => ?_) | refine DecK.bne (fun _ => ?_) (fun _ => ?_) | refine DecK.dec (fun _ => ?_) (fun _ => ?_) | refine OptK.mk _ rfl ?_ | refine endV (by rfl) ?_ | (refine CallK.mk _ tn rfl ?_)
    rw [uniB, if_neg (fun g => by omega)]; rfl
  have ht' := ht
  unfold inT at h1 h2 h3 ht
  obtain ⟨m, hm⟩ : ∃ m, m = max (t - s - 1) 0 := ⟨_, rfl⟩
  have w1 : (if 0 > IntKind.i64.wrap (IntKind.i64.wrap (t - s) - 1) then 0 else IntKind.i64.wrap (IntKind.i64.wrap (t - s) - 1)) = m := by simp (discharger := omega) only [w64, wu64, wu8, w32, wu32, tdivC, tmodC]; omega
  have w2 : IntKind.i64.wrap (1000000 + dr) = 1000000 + dr := w64 (by omega)
  have w3 : IntKind.i64.wrap (IntKind.i64.wrap (t - s) + 1) = t - s + 1 := by simp (discharger := omega) only [w64, wu64, wu8, w32, wu32, tdivC, tmodC]
  have w4 : IntKind.i64.wrap (1000000 - dr) = 1000000 - dr := w64 (by omega)
  obtain ⟨p1, p2, p3, p4⟩ := part_le (a := m) (n := 1000000) (d := 1000000 + dr) (by omega) (by omega) (by omega)
  obtain ⟨q1, q2, q3, q4⟩ := part_le (a := t - s + 1) (n := 1000000) (d := 1000000 - dr) (by omega) (by omega) (by omega)
  have t1 : Pure Try.prog 125 [.n .i64 m, .n .i64 1000000, .n .i64 (1000000 + dr)] (.tup [.n .i64 (m * 1000000 / (1000000 + dr)), .n .i64 0]) := by
    have := mulDiv_ok m 1000000 (1000000 + dr) (by unfold fits; omega) (by decide) (by unfold fits; omega)
    rwa [quoT_fit (by omega) (by unfold fits; omega)] at this
  have t2 : Pure Try.prog 76 [.n .i64 (t - s + 1), .n .i64 1000000, .n .i64 (1000000 - dr)] (.tup [.n .i64 (cdiv ((t - s + 1) * 1000000) (1000000 - dr)), .n .i64 0]) := by
    have := mulDivUp_ok (t - s + 1) 1000000 (1000000 - dr) (by unfold fits; omega) (by decide) (by unfold fits; omega)
    rwa [upT_fit (by omega) (by unfold fits; omega) (by unfold fits; omega)] at this
  have hle : m * 1000000 / (1000000 + dr) ≤ cdiv ((t - s + 1) * 1000000) (1000000 - dr) := by
    have k1 : m * 1000000 / (1000000 + dr) ≤ m := by
      have := Int.ediv_le_ediv (show 0 < 1000000 + dr by omega) (Int.mul_le_mul_of_nonneg_left (show 1000000 ≤ 1000000 + dr by omega) (show 0 ≤ m by omega))
      rwa [Int.mul_ediv_cancel _ (by omega)] at this
    have k2 : t - s + 1 ≤ (t - s + 1) * 1000000 / (1000000 - dr) := by
      have := Int.ediv_le_ediv (show 0 < 1000000 - dr by omega) (Int.mul_le_mul_of_nonneg_left (show 1000000 - dr ≤ 1000000 by omega) (show 0 ≤ t - s + 1 by omega))
      rwa [Int.mul_ediv_cancel _ (by omega)] at this
    omega
  generalize hA : m * 1000000 / (1000000 + dr) = A at *
  generalize hB : cdiv ((t - s + 1) * 1000000) (1000000 - dr) = B at *
  have ho := ofTick A B
  rw [mkB_some (by unfold bval; omega)] at ho
  refine CallK.mk _ (t1.args (by rw [w1, w2])) rfl ?_
  refine CallK.mk _ (t2.args (by rw [w3, w4])) rfl ?_
  refine CallK.mk _ ho rfl ?_
  refine CallK.mk _ (addTick lo hi u A B false) rfl ?_
  ((repeat' first | refine DecK.tt ?_ | refine DecK.ff ?_ | refine DecK.beq (fun _ => ?_) (fun _ => ?_) | refine DecK.bne (fun _ => ?_) (fun _ => ?_) | refine DecK.dec (fun _ => ?_) (fun _ => ?_) | refine OptK.mk _ rfl ?_ | refine endV (by rfl) ?_) <;> (try with_reducible rfl))
  refine congrArg encB ?_
  rw [uniB, ← hm, hA, hB]
  have hn : normB A B false = some (A, B) := mkB_some (by unfold bval; omega)
  rw [hn]
  rcases bd_cases lo hi u with ⟨g1, ⟨_, rfl, rfl, rfl⟩ | g2⟩ | ⟨g1, rfl, g3, g2⟩
  · rw [g1, if_neg (fun g => by simp at g)]; rfl
  · exact absurd h6 g2
  · rw [g1, if_pos ⟨h, rfl, ht', by omega⟩]; rfl
theorem said_ok (s lo hi : Int) (u : Bool) (dr t : Int) : Pure Try.prog 81 [clkV s lo hi u dr, .n .i64 t] (encB (uniB s lo hi u dr t)) := by
  refine pure_of_wp of81 (Nat.le_of_ble_eq_true rfl) ?_
  refine CallK.mk _ (known_ok s lo hi u dr) rfl ?_
  by_cases hk : clkErr s lo hi u dr = 0 ∧ u = false
  case neg =>
    refine DecK.yes (by simp [hk]) ?_
    repeat' first | (refine DecK.yes (by simp [hk]) ?_) | (refine OptK.mk _ rfl ?_) | (refine endV (by rfl) ?_)
    rw [uniB, if_neg (fun g => hk ⟨g.1, g.2.1⟩)]; rfl
  refine DecK.no (by rw [decide_eq_true hk]; rfl) ?_
  refine CallK.mk _ (inTime2 t) rfl ?_
  by_cases ht : inT t
  case neg =>
    refine DecK.yes (by simp [ht]) ?_
    repeat' first | (refine DecK.yes (by simp [ht]) ?_) | (refine OptK.mk _ rfl ?_) | (refine endV (by rfl) ?_)
    rw [uniB, if_neg (fun g => ht g.2.2.1)]; rfl
  refine DecK.no (by simp [ht]) ?_
  refine DecK.dec (fun hs => ?_) (fun hs => ?_)
  · ((repeat' first | refine DecK.tt ?_ | refine DecK.ff ?_ | refine DecK.beq (fun _ => ?_) (fun _ => ?_) | refine DecK.bne (fun _ => ?_) (fun _ => ?_) | refine DecK.dec (fun _ => ?_) (fun _ => ?_) | refine OptK.mk _ rfl ?_ | refine endV (by rfl) ?_) <;> (try with_reducible rfl))
    rw [uniB, if_neg (fun g => by omega)]; rfl
  obtain ⟨h, rfl⟩ := hk
  obtain ⟨h1, h2, h3, h4, h5, h6⟩ := clk_ok h
  have eu : uniB s lo hi false dr t = mkB (lo + max (t - s - 1) 0 * 1000000 / (1000000 + dr)) (hi + cdiv ((t - s + 1) * 1000000) (1000000 - dr)) := by rw [uniB, if_pos ⟨h, rfl, ht, by omega⟩]
  rw [eu]
  unfold inT at h1 h2 h3 ht
  obtain ⟨m, hm⟩ : ∃ m, m = max (t - s - 1) 0 := ⟨_, rfl⟩
  have w1 : (if IntKind.i64.wrap (IntKind.i64.wrap (t - s) - 1) > 0 then IntKind.i64.wrap (IntKind.i64.wrap (t - s) - 1) else 0) = m := by simp (discharger := omega) only [w64, wu64, wu8, w32, wu32, tdivC, tmodC]; omega
  have w2 : IntKind.i64.wrap (1000000 + dr) = 1000000 + dr := w64 (by omega)
  have w3 : IntKind.i64.wrap (IntKind.i64.wrap (t - s) + 1) = t - s + 1 := by simp (discharger := omega) only [w64, wu64, wu8, w32, wu32, tdivC, tmodC]
  have w4 : IntKind.i64.wrap (1000000 - dr) = 1000000 - dr := w64 (by omega)
  rw [← hm]
  obtain ⟨p1, p2, p3, p4⟩ := part_le (a := m) (n := 1000000) (d := 1000000 + dr) (by omega) (by omega) (by omega)
  obtain ⟨q1, q2, q3, q4⟩ := part_le (a := t - s + 1) (n := 1000000) (d := 1000000 - dr) (by omega) (by omega) (by omega)
  have t1 := part_ok m 1000000 (1000000 + dr) false (by unfold fits; omega) (by decide) (by unfold fits; omega) (by omega)
  have t2 := part_ok (t - s + 1) 1000000 (1000000 - dr) true (by unfold fits; omega) (by decide) (by unfold fits; omega) (by omega)
  simp only [Bool.false_eq_true, if_false] at t1
  simp only [if_true] at t2
  generalize m * 1000000 / (1000000 + dr) = A at *
  generalize cdiv ((t - s + 1) * 1000000) (1000000 - dr) = B at *
  have zz : ∀ x : Int, -18446744073709551616 ≤ x ∧ x ≤ 18446744073709551616 → zok x := fun x h => (zb_64 h).mono (by decide)
  refine CallK.mk _ (I_ok lo (by omega)) rfl ?_
  refine CallK.mk _ (t1.args (by rw [w1, w2])) rfl ?_
  refine CallK.mk _ (Plus_ok lo A (zz _ (by omega)) (zz _ (by omega))) rfl ?_
  refine CallK.mk _ (I_ok hi (by omega)) rfl ?_
  refine CallK.mk _ (t2.args (by rw [w3, w4])) rfl ?_
  refine CallK.mk _ (Plus_ok hi B (zz _ (by omega)) (zz _ (by omega))) rfl ?_
  refine CallK.mk _ (boundedTick (lo + A) (hi + B) (zz _ (by omega)) (zz _ (by omega))) rfl ?_
  ((repeat' first | refine DecK.tt ?_ | refine DecK.ff ?_ | refine DecK.beq (fun _ => ?_) (fun _ => ?_) | refine DecK.bne (fun _ => ?_) (fun _ => ?_) | refine DecK.dec (fun _ => ?_) (fun _ => ?_) | refine OptK.mk _ rfl ?_ | refine endV (by rfl) ?_) <;> (try with_reducible rfl))
  rfl
def showB (s lo hi : Int) (u : Bool) (dr t : Int) : Bd :=
  if clkErr s lo hi u dr = 0 ∧ u = false ∧ inT t ∧ hi ≤ t then mkB (s + (t - hi) * (1000000 - dr) / 1000000) (s + (t - lo) * (1000000 + dr) / 1000000 + 1) else none
theorem eqB {objs : List (Nat × List V)} (x : Bd) : (SO.po (.veq false [(0, .n), (1, .n), (2, .b)])).rdx objs [.v (encB x), .v (encB x)] = some (.v (.b true)) := by
  simp [SO.rdx, SO.rd, allV, PO.run, veqV, eqLv, eqk]
theorem clocks_ok : Pure Try.prog 32 [] (.b true) := by
  refine pure_of_wp of32 (Nat.le_of_ble_eq_true rfl) ?_
  have h := uniform_ok 1000 5000 5010 false 100000 1100
  have e : uniB 1000 5000 5010 false 100000 1100 = some (5090, 5123) := by decide
  rw [e] at h
  refine OptK.mk _ rfl ?_
  refine CallK.mk _ h rfl ?_
  refine OptK.mk _ (eqB (some (5090, 5123))) ?_
  ((repeat' first | refine DecK.tt ?_ | refine DecK.ff ?_ | refine DecK.beq (fun _ => ?_) (fun _ => ?_) | refine DecK.bne (fun _ => ?_) (fun _ => ?_) | refine DecK.dec (fun _ => ?_) (fun _ => ?_) | refine OptK.mk _ rfl ?_ | refine endV (by rfl) ?_) <;> (try with_reducible rfl))
end Go.Proofs.Ytdceakejbnolpaa.Sv
