/- Civil times as texts. No condition. -/
import Derived.Test.YtljcbmnkjiogmaaDoorSh
import Derived.Lib.ItoaLen
import Derived.Test.YtljcbmnkjiogmaaDoorTf
namespace Go.Proofs.YtljcbmnkjiogmaaDoor.Sv
open Go Go.RowKit
set_option linter.unusedVariables false
set_option linter.unusedSimpArgs false
set_option maxRecDepth 100000
/-- spyglass/scale.pad -/
def F34 : Fn1 := ⟨15, .seq (.reg [⟨some 4, none, .mv, [.cn (.s (⟨⟨[]⟩⟩ : ByteArray))]⟩] [0, 1]) (.seq (.reg [⟨some 6, none, .mv, [.tm 0]⟩, ⟨some 7, none, .call 45, [.tm 6]⟩, ⟨some 5, none, .mv, [.tm 7]⟩] [1, 5]) (.seq (.reg [⟨some 8, none, .mv, [.tm 1]⟩, ⟨some 9, none, .mv, [.tm 5]⟩, ⟨some 10, none, .len true, [.tm 9]⟩, ⟨some 11, none, .po (.bin .sub), [.tm 8, .tm 10]⟩, ⟨some 12, none, .call 52, [.cn (.s (⟨⟨[48]⟩⟩ : ByteArray)), .tm 11]⟩, ⟨some 13, none, .mv, [.tm 5]⟩, ⟨some 14, none, .po (.bin .add), [.tm 12, .tm 13]⟩, ⟨some 4, none, .mv, [.tm 14]⟩] [4]) .ret)), [.tm 4]⟩
theorem of34 : Fn1.of Tryd.prog 34 ⟨false, [], false⟩ [[0, 1], [1, 5], [4]] = some F34 := by kernel_rfl
/-- live: [0, 5, 6, 7] -/
def L36_0 : SC := .seq (.reg [⟨some 8, none, .po (.bin .lss), [.tm 7, .tm 6]⟩] [0, 5, 6, 7, 8]) (.seq (.cond (.tm 8) .skip (.exit 0)) (.seq (.block 1 (.seq (.reg [⟨some 9, none, .mv, [.tm 0]⟩, ⟨some 10, none, .po (.bin .rem), [.tm 9, .cn (.n .i64 10)]⟩, ⟨some 11, none, .po (.bin .add), [.cn (.n .i64 48), .tm 10]⟩, ⟨some 12, none, .po (.toInt .i32), [.tm 11]⟩, ⟨some 13, none, .po .i2s, [.tm 12]⟩, ⟨some 14, none, .mv, [.tm 5]⟩, ⟨some 15, none, .po (.bin .add), [.tm 13, .tm 14]⟩, ⟨some 5, none, .mv, [.tm 15]⟩] [0, 5, 6, 7]) (.reg [⟨some 16, none, .mv, [.tm 0]⟩, ⟨some 17, none, .po (.bin .quo), [.tm 16, .cn (.n .i64 10)]⟩, ⟨some 0, none, .mv, [.tm 17]⟩] [0, 5, 6, 7]))) (.reg [⟨some 18, none, .po (.bin .add), [.tm 7, .cn (.n .i64 1)]⟩, ⟨some 7, none, .mv, [.tm 18]⟩] [0, 5, 6, 7])))
/-- spyglass/spyref1.digits -/
def F36 : Fn1 := ⟨20, .seq (.reg [⟨some 4, none, .mv, [.cn (.s (⟨⟨[]⟩⟩ : ByteArray))]⟩] [0, 1]) (.seq (.reg [⟨some 5, none, .mv, [.cn (.s (⟨⟨[]⟩⟩ : ByteArray))]⟩] [0, 1, 5]) (.seq (.seq (.reg [⟨some 6, none, .mv, [.tm 1]⟩, ⟨some 7, none, .mv, [.cn (.n .i64 0)]⟩] [0, 5, 6, 7]) (.block 0 (.loop [0, 5, 6, 7] L36_0))) (.seq (.reg [⟨some 19, none, .mv, [.tm 5]⟩, ⟨some 4, none, .mv, [.tm 19]⟩] [4]) .ret))), [.tm 4]⟩
theorem of36 : Fn1.of Tryd.prog 36 ⟨false, [], false⟩ [[0, 1], [0, 1, 5], [0, 5, 6, 7], [0, 5, 6, 7], [0, 5, 6, 7, 8], [0, 5, 6, 7], [0, 5, 6, 7], [0, 5, 6, 7], [4]] = some F36 := by kernel_rfl
/-- spyglass/scale.Text -/
def F12 : Fn1 := ⟨43, .seq (.reg [⟨some 1, none, .box, [.tm 0]⟩, ⟨some 2, none, .mv, [.cn (.s (⟨⟨[]⟩⟩ : ByteArray))]⟩, ⟨some 3, none, .mv, [.cn (.n .i64 0)]⟩] [1]) (.seq (.seq (.reg [⟨some 5, none, .ld true 7 false, [.tm 1]⟩, ⟨some 6, none, .call 33, [.tm 5]⟩, ⟨some 4, none, .mv, [.tm 6]⟩] [1, 4]) (.seq (.reg [⟨some 7, none, .mv, [.tm 4]⟩, ⟨some 8, none, .po (.bin .neq), [.tm 7, .cn (.n .i64 0)]⟩] [1, 4, 8]) (.cond (.tm 8) (.seq (.reg [⟨some 9, none, .mv, [.tm 4]⟩, ⟨some 2, none, .mv, [.cn (.s (⟨⟨[]⟩⟩ : ByteArray))]⟩, ⟨some 3, none, .mv, [.tm 9]⟩] [2, 3]) .ret) .skip))) (.seq (.dreg [⟨some 10, none, .fa 0, [.tm 1]⟩, ⟨some 11, none, .ld false 1 false, [.tm 10]⟩, ⟨some 12, none, .call 34, [.tm 11, .cn (.n .i64 4)]⟩, ⟨some 13, none, .po (.bin .add), [.tm 12, .cn (.s (⟨⟨[45]⟩⟩ : ByteArray))]⟩, ⟨some 14, none, .fa 1, [.tm 1]⟩, ⟨some 15, none, .ld false 1 false, [.tm 14]⟩, ⟨some 16, none, .call 34, [.tm 15, .cn (.n .i64 2)]⟩, ⟨some 17, none, .po (.bin .add), [.tm 13, .tm 16]⟩, ⟨some 18, none, .po (.bin .add), [.tm 17, .cn (.s (⟨⟨[45]⟩⟩ : ByteArray))]⟩, ⟨some 19, none, .fa 2, [.tm 1]⟩, ⟨some 20, none, .ld false 1 false, [.tm 19]⟩, ⟨some 21, none, .call 34, [.tm 20, .cn (.n .i64 2)]⟩, ⟨some 22, none, .po (.bin .add), [.tm 18, .tm 21]⟩, ⟨some 23, none, .po (.bin .add), [.tm 22, .cn (.s (⟨⟨[84]⟩⟩ : ByteArray))]⟩, ⟨some 24, none, .fa 3, [.tm 1]⟩, ⟨some 25, none, .ld false 1 false, [.tm 24]⟩, ⟨some 26, none, .call 34, [.tm 25, .cn (.n .i64 2)]⟩, ⟨some 27, none, .po (.bin .add), [.tm 23, .tm 26]⟩, ⟨some 28, none, .po (.bin .add), [.tm 27, .cn (.s (⟨⟨[58]⟩⟩ : ByteArray))]⟩, ⟨some 29, none, .fa 4, [.tm 1]⟩, ⟨some 30, none, .ld false 1 false, [.tm 29]⟩, ⟨some 31, none, .call 34, [.tm 30, .cn (.n .i64 2)]⟩, ⟨some 32, none, .po (.bin .add), [.tm 28, .tm 31]⟩, ⟨some 33, none, .po (.bin .add), [.tm 32, .cn (.s (⟨⟨[58]⟩⟩ : ByteArray))]⟩, ⟨some 34, none, .fa 5, [.tm 1]⟩, ⟨some 35, none, .ld false 1 false, [.tm 34]⟩, ⟨some 36, none, .call 34, [.tm 35, .cn (.n .i64 2)]⟩, ⟨some 37, none, .po (.bin .add), [.tm 33, .tm 36]⟩, ⟨some 38, none, .po (.bin .add), [.tm 37, .cn (.s (⟨⟨[46]⟩⟩ : ByteArray))]⟩, ⟨some 39, none, .fa 6, [.tm 1]⟩, ⟨some 40, none, .ld false 1 false, [.tm 39]⟩, ⟨some 41, none, .call 34, [.tm 40, .cn (.n .i64 3)]⟩, ⟨some 42, none, .po (.bin .add), [.tm 38, .tm 41]⟩, ⟨some 2, none, .mv, [.tm 42]⟩, ⟨some 3, none, .mv, [.cn (.n .i64 0)]⟩] [] [2, 3]) .ret)), [.tm 2, .tm 3]⟩
theorem of12 : Fn1.of Tryd.prog 12 ⟨false, [], false⟩ [[1], [1, 4], [1, 4, 8], [2, 3], [2, 3]] = some F12 := by kernel_rfl
/-- spyglass/spyref1.CivilText -/
def F13 : Fn1 := ⟨43, .seq (.reg [⟨some 1, none, .box, [.tm 0]⟩, ⟨some 2, none, .mv, [.cn (.s (⟨⟨[]⟩⟩ : ByteArray))]⟩, ⟨some 3, none, .mv, [.cn (.n .i64 0)]⟩] [1]) (.seq (.seq (.reg [⟨some 5, none, .ld true 7 false, [.tm 1]⟩, ⟨some 6, none, .call 35, [.tm 5]⟩, ⟨some 4, none, .mv, [.tm 6]⟩] [1, 4]) (.seq (.reg [⟨some 7, none, .mv, [.tm 4]⟩, ⟨some 8, none, .po (.bin .neq), [.tm 7, .cn (.n .i64 0)]⟩] [1, 4, 8]) (.cond (.tm 8) (.seq (.reg [⟨some 9, none, .mv, [.tm 4]⟩, ⟨some 2, none, .mv, [.cn (.s (⟨⟨[]⟩⟩ : ByteArray))]⟩, ⟨some 3, none, .mv, [.tm 9]⟩] [2, 3]) .ret) .skip))) (.seq (.dreg [⟨some 10, none, .fa 0, [.tm 1]⟩, ⟨some 11, none, .ld false 1 false, [.tm 10]⟩, ⟨some 12, none, .call 36, [.tm 11, .cn (.n .i64 4)]⟩, ⟨some 13, none, .po (.bin .add), [.tm 12, .cn (.s (⟨⟨[45]⟩⟩ : ByteArray))]⟩, ⟨some 14, none, .fa 1, [.tm 1]⟩, ⟨some 15, none, .ld false 1 false, [.tm 14]⟩, ⟨some 16, none, .call 36, [.tm 15, .cn (.n .i64 2)]⟩, ⟨some 17, none, .po (.bin .add), [.tm 13, .tm 16]⟩, ⟨some 18, none, .po (.bin .add), [.tm 17, .cn (.s (⟨⟨[45]⟩⟩ : ByteArray))]⟩, ⟨some 19, none, .fa 2, [.tm 1]⟩, ⟨some 20, none, .ld false 1 false, [.tm 19]⟩, ⟨some 21, none, .call 36, [.tm 20, .cn (.n .i64 2)]⟩, ⟨some 22, none, .po (.bin .add), [.tm 18, .tm 21]⟩, ⟨some 23, none, .po (.bin .add), [.tm 22, .cn (.s (⟨⟨[84]⟩⟩ : ByteArray))]⟩, ⟨some 24, none, .fa 3, [.tm 1]⟩, ⟨some 25, none, .ld false 1 false, [.tm 24]⟩, ⟨some 26, none, .call 36, [.tm 25, .cn (.n .i64 2)]⟩, ⟨some 27, none, .po (.bin .add), [.tm 23, .tm 26]⟩, ⟨some 28, none, .po (.bin .add), [.tm 27, .cn (.s (⟨⟨[58]⟩⟩ : ByteArray))]⟩, ⟨some 29, none, .fa 4, [.tm 1]⟩, ⟨some 30, none, .ld false 1 false, [.tm 29]⟩, ⟨some 31, none, .call 36, [.tm 30, .cn (.n .i64 2)]⟩, ⟨some 32, none, .po (.bin .add), [.tm 28, .tm 31]⟩, ⟨some 33, none, .po (.bin .add), [.tm 32, .cn (.s (⟨⟨[58]⟩⟩ : ByteArray))]⟩, ⟨some 34, none, .fa 5, [.tm 1]⟩, ⟨some 35, none, .ld false 1 false, [.tm 34]⟩, ⟨some 36, none, .call 36, [.tm 35, .cn (.n .i64 2)]⟩, ⟨some 37, none, .po (.bin .add), [.tm 33, .tm 36]⟩, ⟨some 38, none, .po (.bin .add), [.tm 37, .cn (.s (⟨⟨[46]⟩⟩ : ByteArray))]⟩, ⟨some 39, none, .fa 6, [.tm 1]⟩, ⟨some 40, none, .ld false 1 false, [.tm 39]⟩, ⟨some 41, none, .call 36, [.tm 40, .cn (.n .i64 3)]⟩, ⟨some 42, none, .po (.bin .add), [.tm 38, .tm 41]⟩, ⟨some 2, none, .mv, [.tm 42]⟩, ⟨some 3, none, .mv, [.cn (.n .i64 0)]⟩] [] [2, 3]) .ret)), [.tm 2, .tm 3]⟩
theorem of13 : Fn1.of Tryd.prog 13 ⟨false, [], false⟩ [[1], [1, 4], [1, 4, 8], [2, 3], [2, 3]] = some F13 := by kernel_rfl
/-- A number with n digits. -/
def digF : Nat → Nat → List UInt8
  | 0, _ => []
  | n + 1, x => digF n (x / 10) ++ [UInt8.ofNat (48 + x % 10)]
theorem digF_len : ∀ n x, (digF n x).length = n
  | 0, _ => rfl
  | n + 1, x => by rw [digF, List.length_append, digF_len n]; rfl
theorem digF_zero : ∀ n, digF n 0 = List.replicate n 48
  | 0 => rfl
  | n + 1 => by rw [digF, digF_zero n, List.replicate_succ']; rfl
theorem pad_dec : ∀ (n x : Nat), x < 10 ^ (n + 1) → (Lib.decDigits x).length ≤ n + 1 ∧ List.replicate (n + 1 - (Lib.decDigits x).length) 48 ++ Lib.decDigits x = digF (n + 1) x
  | n, x, h => by
    by_cases hx : x < 10
    · rw [Lib.decDigits, dif_pos hx, digF, Nat.div_eq_of_lt hx, digF_zero, Nat.mod_eq_of_lt hx]
      exact ⟨by simp, by simp⟩
    · match n, h with
      | 0, h => omega
      | n + 1, h =>
        obtain ⟨h1, h2⟩ := pad_dec n (x / 10) (by rw [Nat.pow_succ] at h; omega)
        rw [Lib.decDigits, dif_neg hx, digF, ← h2, List.length_append, List.length_singleton]
        refine ⟨by omega, ?_⟩
        rw [← List.append_assoc, show n + 1 + 1 - ((Lib.decDigits (x / 10)).length + 1) = n + 1 - (Lib.decDigits (x / 10)).length by omega]
theorem digF_cons : ∀ (k x : Nat), digF (k + 1) x = UInt8.ofNat (48 + x / 10 ^ k % 10) :: digF k x
  | 0, x => by simp [digF]
  | k + 1, x => by
    rw [digF, digF_cons k (x / 10), digF, Nat.div_div_eq_div_mul, Nat.pow_succ, Nat.mul_comm 10]
    rfl
theorem encD {x : Nat} (h : x < 128) : Utf8.encode (x : Int) = ⟨#[UInt8.ofNat x]⟩ := by
  unfold Utf8.encode
  have hv : Utf8.valid (x : Int) = true := by
    unfold Utf8.valid
    simp
    omega
  simp only [hv, if_true, Int.toNat_natCast]
  rw [if_pos h]
theorem pad_ok (x n : Nat) (h : x < 10 ^ (n + 1)) (hn : n ≤ 10) : Pure Tryd.prog 34 [.n .i64 x, .n .i64 ((n + 1 : Nat) : Int)] (strB (digF (n + 1) x)) := by
  obtain ⟨h1, h2⟩ := pad_dec n x h
  have hx : x < 10 ^ 11 := Nat.lt_of_lt_of_le h (Nat.pow_le_pow_right (by decide) (by omega))
  have hi : Lib.itoa (x : Int) = Lib.decDigits x := by
    unfold Lib.itoa
    rw [if_neg (by omega), Int.toNat_natCast]
  have hc := Itoa_ok (x : Int) (by omega)
  rw [hi] at hc
  refine pure_of_wp of34 (Nat.le_of_ble_eq_true rfl) ?_
  refine CallK.mk _ hc rfl ?_
  have hs := bsz (Lib.decDigits x)
  have w : IntKind.i64.wrap (((n + 1 : Nat) : Int) - ((⟨(Lib.decDigits x).toArray⟩ : ByteArray).size : Int)) = ((n + 1 - (Lib.decDigits x).length : Nat) : Int) := by
    rw [hs, w64 (by omega)]
    omega
  refine CallK.mk _ ((repeat_ok 48 (n + 1 - (Lib.decDigits x).length) (by omega)).args (by rw [← w])) rfl ?_
  refine OptK.mk _ (sAdd _ _ (by rw [List.length_replicate]; omega)) ?_
  rw [h2]
  rfl
theorem digits_ok (x n : Nat) (hx : x < 10 ^ 11) (hn : n ≤ 10) : Pure Tryd.prog 36 [.n .i64 x, .n .i64 n] (strB (digF n x)) := by
  refine pure_of_wp of36 (Nat.le_of_ble_eq_true rfl) ?_
  refine loop_eq (st' := ⟨[(0, .v (.n .i64 ((x / 10 ^ 0 : Nat) : Int))), (5, .v (strB (digF 0 x))), (6, .v (.n .i64 n)), (7, .v (.n .i64 ((0 : Nat) : Int)))], []⟩) (by rw [Nat.pow_zero, Nat.div_one]; rfl) ?_
  refine loop_ind (fun (k : Nat) => ⟨[(0, .v (.n .i64 ((x / 10 ^ k : Nat) : Int))), (5, .v (strB (digF k x))), (6, .v (.n .i64 n)), (7, .v (.n .i64 (k : Int)))], []⟩) (fun k => n - k) (fun k => k ≤ n) 0 (by omega) ?_
  intro k hk ih
  have hlt : x / 10 ^ k < 10 ^ 11 := Nat.lt_of_le_of_lt (Nat.div_le_self _ _) hx
  have hd : (x / 10 ^ k) / 10 = x / 10 ^ (k + 1) := by rw [Nat.div_div_eq_div_mul, Nat.pow_succ]
  have hc := digF_cons k x
  refine DecK.dec (fun g => ?_) (fun g => ?_)
  · generalize x / 10 ^ k = y at hlt hd hc
    have w1 : IntKind.i32.wrap (IntKind.i64.wrap (48 + (y : Int).tmod 10)) = ((48 + y % 10 : Nat) : Int) := by
      rw [tmodC (by decide), if_pos (by omega), w64 (by omega), w32 (by omega)]
      omega
    have w2 : IntKind.i64.wrap ((y : Int).tdiv 10) = ((x / 10 ^ (k + 1) : Nat) : Int) := by
      rw [tdivC (by decide), if_pos (by omega), w64 (by omega), ← hd]
      omega
    have w3 : IntKind.i64.wrap ((k : Int) + 1) = ((k + 1 : Nat) : Int) := by simp (discharger := omega) only [w64, wu64, wu8, w32, wu32, tdivC, tmodC]; omega
    refine OptK.mk (.v (strB ([UInt8.ofNat (48 + y % 10)] ++ digF k x))) (by rw [w1, encD (by omega)]; exact sAdd _ _ (by simp [digF_len]; omega)) ?_
    refine loop_eq ?_ (ih (k + 1) (by omega) (by omega))
    rw [w2, w3, hc]
    rfl
  · obtain rfl : k = n := by omega
    exact endV rfl rfl
/-- A civil time's text. -/
def civT (y mo d h mi s ms : Nat) : List UInt8 := digF 4 y ++ [45] ++ digF 2 mo ++ [45] ++ digF 2 d ++ [84] ++ digF 2 h ++ [58] ++ digF 2 mi ++ [58] ++ digF 2 s ++ [46] ++ digF 3 ms
theorem text_ok (y mo d h mi s ms : Int) : Pure Tryd.prog 12 [civilV y mo d h mi s ms] (if civErr y mo d h mi s ms = 0 then .tup [strB (civT y.toNat mo.toNat d.toNat h.toNat mi.toNat s.toNat ms.toNat), .n .i64 0] else .tup [strB [], .n .i64 (civErr y mo d h mi s ms)]) := by
  refine pure_of_wp of12 (Nat.le_of_ble_eq_true rfl) ?_
  refine CallK.mk _ (check_ok y mo d h mi s ms) rfl ?_
  by_cases g : civErr y mo d h mi s ms = 0
  case neg =>
    refine DecK.yes (bne_iff_ne.2 g) ?_
    rw [if_neg g]
    exact endV rfl rfl
  refine DecK.no (bne_eq_false_iff_eq.2 g) ?_
  rw [if_pos g]
  obtain ⟨⟨g1, g2, g3, g4, g5, g6⟩, k1, k2, k3, k4, k5, k6, k7, k8⟩ := civErr_zero g
  have g7 := (mlen_bounds y mo).2
  obtain ⟨y, rfl⟩ : ∃ n : Nat, y = n := ⟨y.toNat, by omega⟩
  obtain ⟨mo, rfl⟩ : ∃ n : Nat, mo = n := ⟨mo.toNat, by omega⟩
  obtain ⟨d, rfl⟩ : ∃ n : Nat, d = n := ⟨d.toNat, by omega⟩
  obtain ⟨h, rfl⟩ : ∃ n : Nat, h = n := ⟨h.toNat, by omega⟩
  obtain ⟨mi, rfl⟩ : ∃ n : Nat, mi = n := ⟨mi.toNat, by omega⟩
  obtain ⟨s, rfl⟩ : ∃ n : Nat, s = n := ⟨s.toNat, by omega⟩
  obtain ⟨ms, rfl⟩ : ∃ n : Nat, ms = n := ⟨ms.toNat, by omega⟩
  simp only [Int.toNat_natCast]
  refine CallK.mk _ (pad_ok y 3 (by omega) (by decide)) rfl ?_
  refine OptK.mk _ (sAdd (digF 4 y) [45] (by simp [digF_len])) ?_
  refine CallK.mk _ (pad_ok mo 1 (by omega) (by decide)) rfl ?_
  refine OptK.mk _ (sAdd _ (digF 2 mo) (by simp [digF_len])) ?_
  refine OptK.mk _ (sAdd _ [45] (by simp [digF_len])) ?_
  refine CallK.mk _ (pad_ok d 1 (by omega) (by decide)) rfl ?_
  refine OptK.mk _ (sAdd _ (digF 2 d) (by simp [digF_len])) ?_
  refine OptK.mk _ (sAdd _ [84] (by simp [digF_len])) ?_
  refine CallK.mk _ (pad_ok h 1 (by omega) (by decide)) rfl ?_
  refine OptK.mk _ (sAdd _ (digF 2 h) (by simp [digF_len])) ?_
  refine OptK.mk _ (sAdd _ [58] (by simp [digF_len])) ?_
  refine CallK.mk _ (pad_ok mi 1 (by omega) (by decide)) rfl ?_
  refine OptK.mk _ (sAdd _ (digF 2 mi) (by simp [digF_len])) ?_
  refine OptK.mk _ (sAdd _ [58] (by simp [digF_len])) ?_
  refine CallK.mk _ (pad_ok s 1 (by omega) (by decide)) rfl ?_
  refine OptK.mk _ (sAdd _ (digF 2 s) (by simp [digF_len])) ?_
  refine OptK.mk _ (sAdd _ [46] (by simp [digF_len])) ?_
  refine CallK.mk _ (pad_ok ms 2 (by omega) (by decide)) rfl ?_
  refine OptK.mk _ (sAdd _ (digF 3 ms) (by simp [digF_len])) ?_
  refine endV rfl ?_
  rfl
theorem civilText_ok (y mo d h mi s ms : Int) : Pure Tryd.prog 13 [civilV y mo d h mi s ms] (if civErr y mo d h mi s ms = 0 then .tup [strB (civT y.toNat mo.toNat d.toNat h.toNat mi.toNat s.toNat ms.toNat), .n .i64 0] else .tup [strB [], .n .i64 (civErr y mo d h mi s ms)]) := by
  refine pure_of_wp of13 (Nat.le_of_ble_eq_true rfl) ?_
  refine CallK.mk _ (civilErr_ok y mo d h mi s ms) rfl ?_
  by_cases g : civErr y mo d h mi s ms = 0
  case neg =>
    refine DecK.yes (bne_iff_ne.2 g) ?_
    rw [if_neg g]
    exact endV rfl rfl
  refine DecK.no (bne_eq_false_iff_eq.2 g) ?_
  rw [if_pos g]
  obtain ⟨⟨g1, g2, g3, g4, g5, g6⟩, k1, k2, k3, k4, k5, k6, k7, k8⟩ := civErr_zero g
  have g7 := (mlen_bounds y mo).2
  obtain ⟨y, rfl⟩ : ∃ n : Nat, y = n := ⟨y.toNat, by omega⟩
  obtain ⟨mo, rfl⟩ : ∃ n : Nat, mo = n := ⟨mo.toNat, by omega⟩
  obtain ⟨d, rfl⟩ : ∃ n : Nat, d = n := ⟨d.toNat, by omega⟩
  obtain ⟨h, rfl⟩ : ∃ n : Nat, h = n := ⟨h.toNat, by omega⟩
  obtain ⟨mi, rfl⟩ : ∃ n : Nat, mi = n := ⟨mi.toNat, by omega⟩
  obtain ⟨s, rfl⟩ : ∃ n : Nat, s = n := ⟨s.toNat, by omega⟩
  obtain ⟨ms, rfl⟩ : ∃ n : Nat, ms = n := ⟨ms.toNat, by omega⟩
  simp only [Int.toNat_natCast]
  refine CallK.mk _ (digits_ok y 4 (by omega) (by decide)) rfl ?_
  refine OptK.mk _ (sAdd (digF 4 y) [45] (by simp [digF_len])) ?_
  refine CallK.mk _ (digits_ok mo 2 (by omega) (by decide)) rfl ?_
  refine OptK.mk _ (sAdd _ (digF 2 mo) (by simp [digF_len])) ?_
  refine OptK.mk _ (sAdd _ [45] (by simp [digF_len])) ?_
  refine CallK.mk _ (digits_ok d 2 (by omega) (by decide)) rfl ?_
  refine OptK.mk _ (sAdd _ (digF 2 d) (by simp [digF_len])) ?_
  refine OptK.mk _ (sAdd _ [84] (by simp [digF_len])) ?_
  refine CallK.mk _ (digits_ok h 2 (by omega) (by decide)) rfl ?_
  refine OptK.mk _ (sAdd _ (digF 2 h) (by simp [digF_len])) ?_
  refine OptK.mk _ (sAdd _ [58] (by simp [digF_len])) ?_
  refine CallK.mk _ (digits_ok mi 2 (by omega) (by decide)) rfl ?_
  refine OptK.mk _ (sAdd _ (digF 2 mi) (by simp [digF_len])) ?_
  refine OptK.mk _ (sAdd _ [58] (by simp [digF_len])) ?_
  refine CallK.mk _ (digits_ok s 2 (by omega) (by decide)) rfl ?_
  refine OptK.mk _ (sAdd _ (digF 2 s) (by simp [digF_len])) ?_
  refine OptK.mk _ (sAdd _ [46] (by simp [digF_len])) ?_
  refine CallK.mk _ (digits_ok ms 3 (by omega) (by decide)) rfl ?_
  refine OptK.mk _ (sAdd _ (digF 3 ms) (by simp [digF_len])) ?_
  refine endV rfl ?_
  rfl
end Go.Proofs.YtljcbmnkjiogmaaDoor.Sv
