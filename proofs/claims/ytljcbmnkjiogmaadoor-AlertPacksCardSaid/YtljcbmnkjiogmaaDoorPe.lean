/- Alerts in packed form: the reference's packing. No condition. -/
import Derived.Test.YtljcbmnkjiogmaaDoorPd
namespace Go.Proofs.YtljcbmnkjiogmaaDoor.Sv
open Go Go.RowKit
set_option linter.unusedVariables false
set_option linter.unusedSimpArgs false
set_option maxRecDepth 100000

theorem fN_16 {k : Int} (hk : 1 ≤ k ∧ k ≤ 6) {a b c d : Bool} {j : Nat} (hj : j < 4) (hx : [a, b, c, d][j]? = some true) : IntKind.i64.wrap (k + 16 * (fN a b c d j : Int) + IntKind.i64.wrap (16 * 2 ^ (j : Int).toNat)) = k + 16 * (fN a b c d (j + 1) : Int) := by
  have h := fN_add hj hx
  have h2 := fN_lt a b c d j
  rw [h, Int.toNat_natCast]
  rcases (show j = 0 ∨ j = 1 ∨ j = 2 ∨ j = 3 by omega) with rfl | rfl | rfl | rfl
  all_goals
    generalize fN a b c d _ = z at h2 ⊢
    rw [w64 (n := 16 * 2 ^ _) (by decide), w64 (by simp; omega)]
    simp
    omega
theorem packed_ok (i k o t0 t1 : Int) (tu : Bool) (r0 r1 : Int) (ru : Bool) (d0 d1 : Int) (du : Bool) (q0 q1 : Int) (qu : Bool) (f : Int)
    (h : alErr i k o t0 t1 tu r0 r1 ru d0 d1 du q0 q1 qu f = 0) : Pure Tryd.prog 11 [.agg (alC i k o t0 t1 tu r0 r1 ru d0 d1 du q0 q1 qu f)] (.sl (packA i k o t0 t1 tu r0 r1 ru d0 d1 du q0 q1 qu f).length (bV (packA i k o t0 t1 tu r0 r1 ru d0 d1 du q0 q1 qu f)) false) := by
  refine pure_of_wp of11 (Nat.le_of_ble_eq_true rfl) ?_
  obtain ⟨⟨h1, h2, h3, h4, h5, h6⟩, hk, e1, e2, e3, e4⟩ := alErr_0 h
  have b1 := bErr_0 e1
  have b2 := bErr_0 e2
  have b3 := bErr_0 e3
  have b4 := bErr_0 e4
  refine loop_eq (st' := ⟨[(1, .ref 1 0), (3, .v (.n .i64 (k + 16 * ((fN tu ru du qu 0 : Nat) : Int)))), (21, .v (.sl 4 ([tu, ru, du, qu].flatMap fun b => [V.b b]) true)), (22, .v (.n .i64 4)), (23, .v (.n .i64 ((0 : Nat) : Int)))], [(1, alC i k o t0 t1 tu r0 r1 ru d0 d1 du q0 q1 qu f)]⟩) (by rw [show k + 16 * ((fN tu ru du qu 0 : Nat) : Int) = k by simp [fN]]; rfl) ?_
  refine loop_ind (fun (j : Nat) => ⟨[(1, .ref 1 0), (3, .v (.n .i64 (k + 16 * ((fN tu ru du qu j : Nat) : Int)))), (21, .v (.sl 4 ([tu, ru, du, qu].flatMap fun b => [V.b b]) true)), (22, .v (.n .i64 4)), (23, .v (.n .i64 (j : Int)))], [(1, alC i k o t0 t1 tu r0 r1 ru d0 d1 du q0 q1 qu f)]⟩) (fun j => 4 - j) (fun j => j ≤ 4) 0 (by omega) ?_
  intro j hj ih
  refine DecK.dec (fun g => ?_) (fun g => ?_)
  · have hjlt : j < 4 := by omega
    have wj : IntKind.i64.wrap ((j : Int) + 1) = ((j + 1 : Nat) : Int) := by simp (discharger := omega) only [w64, wu64, wu8, w32, wu32, tdivC, tmodC]; omega
    have hlt : j < [tu, ru, du, qu].length := hjlt
    obtain ⟨x, hx⟩ : ∃ x, [tu, ru, du, qu][j]? = some x := ⟨_, List.getElem?_eq_getElem hlt⟩
    refine OptK.mk _ (ria j rfl hlt) ?_
    refine OptK.mk _ (rld1 (g := fun b : Bool => .b b) hx) ?_
    refine ⟨fun hb => ?_, fun hb => ?_⟩
    · refine OptK.mk _ (op_shl (by omega) (by show (j : Int).toNat ≤ 64; omega)) ?_
      subst hb
      have ef := fN_16 hk hjlt hx
      refine loop_eq ?_ (ih (j + 1) (by omega) (by omega))
      rw [← ef, wj]
    · subst hb
      have ef := fN_no hjlt hx
      refine loop_eq ?_ (ih (j + 1) (by omega) (by omega))
      rw [ef, wj]
  obtain rfl : j = 4 := by omega
  have eb := flag_byte2 hk tu ru du qu
  generalize hB : k.toNat + 16 * fN tu ru du qu 4 = B at eb
  have l1 := sev_10 (n := i.toNat) (by omega)
  have l2 := pr_len (fun _ => b1) (u := tu)
  have l3 := pr_len (fun _ => b2) (u := ru)
  have l4 := pr_len (fun _ => b3) (u := du)
  have l5 := pr_len (fun _ => b4) (u := qu)
  have l6 := sev_10 (n := o.toNat) (by omega)
  have l7 := sev_10 (n := f.toNat) (by omega)
  have hH : packB i k o t0 t1 tu r0 r1 ru d0 d1 du q0 q1 qu f = [165, B] ++ sev i.toNat ++ pr t0 t1 tu ++ (if k = 6 then sev f.toNat else sev o.toNat ++ pr r0 r1 ru ++ pr d0 d1 du ++ pr q0 q1 qu) := by
    rw [← hB]; rfl
  have hlen : (packB i k o t0 t1 tu r0 r1 ru d0 d1 du q0 q1 qu f).length ≤ 200 := by
    rw [hH]
    split <;> simp <;> omega
  have h256 := pack_256 (i := i) (o := o) (t0 := t0) (t1 := t1) (tu := tu) (r0 := r0) (r1 := r1) (ru := ru) (d0 := d0) (d1 := d1) (du := du) (q0 := q0) (q1 := q1) (qu := qu) (f := f) hk
  have hA : packA i k o t0 t1 tu r0 r1 ru d0 d1 du q0 q1 qu f = packB i k o t0 t1 tu r0 r1 ru d0 d1 du q0 q1 qu f ++ four (crcL (packB i k o t0 t1 tu r0 r1 ru d0 d1 du q0 q1 qu f)) := rfl
  obtain ⟨L, hL⟩ : ∃ L, L = packB i k o t0 t1 tu r0 r1 ru d0 d1 du q0 q1 qu f := ⟨_, rfl⟩
  rw [← hL] at hH hlen h256 hA
  have hc := crcL_lt L
  refine CallK.mk _ ((seven_ok i.toNat (by omega)).args (by rw [u64_of (by omega) (by omega)])) rfl ?_
  refine OptK.mk _ (own_apps (l := [165, B]) (l' := sev i.toNat) (f := nb) nb_len (by rw [eb]; rfl) (bV_one _) (by simp; omega)) ?_
  refine CallK.mk _ (pair7Tick t0 t1 tu (fun _ => b1)) rfl ?_
  refine OptK.mk _ (own_apps (l := [165, B] ++ sev i.toNat) (l' := pr t0 t1 tu) (f := nb) nb_len rfl (bV_one _) (by simp; omega)) ?_
  by_cases h9 : k = 6
  case' pos =>
    refine DecK.yes (beq_iff_eq.2 h9) ?_
    refine CallK.mk _ ((seven_ok f.toNat (by omega)).args (by rw [u64_of (by omega) (by omega)])) rfl ?_
    refine OptK.mk _ (own_apps (l := [165, B] ++ sev i.toNat ++ pr t0 t1 tu) (l' := sev f.toNat) (f := nb) nb_len rfl (bV_one _) (by simp; omega)) ?_
    rw [if_pos h9] at hH
    refine CallK.mk _ ((crcRefL (l := [165, B] ++ sev i.toNat ++ pr t0 t1 tu ++ sev f.toNat) false (by rw [← hH]; exact h256) (by rw [← hH]; omega)).args (congrArg (fun v => [v]) (snapRow' nb_len rfl))) rfl ?_
    refine CallK.mk _ (four_ok _ (crcL_lt _)) rfl ?_
    refine OptK.mk _ (own_apps (l := [165, B] ++ sev i.toNat ++ pr t0 t1 tu ++ sev f.toNat) (l' := four (crcL ([165, B] ++ sev i.toNat ++ pr t0 t1 tu ++ sev f.toNat))) (t := true) (f := nb) nb_len rfl (bV_one _) (by rw [← hH]; simp [four]; omega)) ?_
  case' neg =>
    refine DecK.no (beq_eq_false_iff_ne.2 h9) ?_
    rw [if_neg h9, ← List.append_assoc, ← List.append_assoc, ← List.append_assoc] at hH
    refine CallK.mk _ ((seven_ok o.toNat (by omega)).args (by rw [u64_of (by omega) (by omega)])) rfl ?_
    refine OptK.mk _ (own_apps (l := [165, B] ++ sev i.toNat ++ pr t0 t1 tu) (l' := sev o.toNat) (f := nb) nb_len rfl (bV_one _) (by simp; omega)) ?_
    refine CallK.mk _ (pair7Arc r0 r1 ru (fun _ => b2)) rfl ?_
    refine OptK.mk _ (own_apps (l := [165, B] ++ sev i.toNat ++ pr t0 t1 tu ++ sev o.toNat) (l' := pr r0 r1 ru) (f := nb) nb_len rfl (bV_one _) (by simp; omega)) ?_
    refine CallK.mk _ (pair7Arc d0 d1 du (fun _ => b3)) rfl ?_
    refine OptK.mk _ (own_apps (l := [165, B] ++ sev i.toNat ++ pr t0 t1 tu ++ sev o.toNat ++ pr r0 r1 ru) (l' := pr d0 d1 du) (f := nb) nb_len rfl (bV_one _) (by simp; omega)) ?_
    refine CallK.mk _ (pair7Quanta q0 q1 qu (fun _ => b4)) rfl ?_
    refine OptK.mk _ (own_apps (l := [165, B] ++ sev i.toNat ++ pr t0 t1 tu ++ sev o.toNat ++ pr r0 r1 ru ++ pr d0 d1 du) (l' := pr q0 q1 qu) (f := nb) nb_len rfl (bV_one _) (by simp; omega)) ?_
    refine CallK.mk _ ((crcRefL (l := [165, B] ++ sev i.toNat ++ pr t0 t1 tu ++ sev o.toNat ++ pr r0 r1 ru ++ pr d0 d1 du ++ pr q0 q1 qu) false (by rw [← hH]; exact h256) (by rw [← hH]; omega)).args (congrArg (fun v => [v]) (snapRow' nb_len rfl))) rfl ?_
    refine CallK.mk _ (four_ok _ (crcL_lt _)) rfl ?_
    refine OptK.mk _ (own_apps (l := [165, B] ++ sev i.toNat ++ pr t0 t1 tu ++ sev o.toNat ++ pr r0 r1 ru ++ pr d0 d1 du ++ pr q0 q1 qu) (l' := four (crcL ([165, B] ++ sev i.toNat ++ pr t0 t1 tu ++ sev o.toNat ++ pr r0 r1 ru ++ pr d0 d1 du ++ pr q0 q1 qu))) (t := true) (f := nb) nb_len rfl (bV_one _) (by rw [← hH]; simp [four]; omega)) ?_
  all_goals
    refine endV rfl ?_
    rw [hA, hH]
    exact snapRow' nb_len rfl
theorem crcSum_big (l : List UInt8) (t : Bool) (hl : l.length ≤ 9000000000000000000) : Pure Tryd.prog 7 [.sl l.length (bytesV l) t] (.n .u32 ((4294967295 ^^^ crcN l 4294967295 : Nat) : Int)) := by
  refine pure_of_wp of7 (Nat.le_of_ble_eq_true rfl) ?_
  refine loop_ind2 (fun (c : Nat) (i : Nat) => ⟨[(3, .v (.n .u32 c)), (6, .v (.sl l.length (bytesV l) t)), (7, .v (.n .i64 l.length)), (8, .v (.n .i64 i))], []⟩) (fun c i => l.length - i)
    (fun c i => c < 4294967296 ∧ i ≤ l.length ∧ crcN (l.drop i) c = crcN l 4294967295) 4294967295 0 (by simp) ?_
  intro c i ⟨h1, h2, h3⟩ ih
  refine DecK.dec (fun h => ?_) (fun h => ?_)
  · have hi : i < l.length := by omega
    have hx : l[i]? = some l[i] := List.getElem?_eq_getElem hi
    rw [List.drop_eq_getElem_cons hi, crcN] at h3
    generalize l[i] = x at h3 hx
    have hxb : x.toNat < 256 := x.toNat_lt
    refine OptK.mk _ (ria i rfl (by omega)) ?_
    refine OptK.mk _ (rldB hx) ?_
    have w1 : IntKind.u32.wrap ((x.toNat : Nat) : Int) = ((x.toNat : Nat) : Int) := by simp (discharger := omega) only [w64, wu64, wu8, w32, wu32, tdivC, tmodC]
    have w2 := u32_xor (a := c) (b := x.toNat) h1 (by omega)
    have w3 := Nat.xor_lt_two_pow (n := 32) (x := c) (y := x.toNat) h1 (by omega)
    have wi : IntKind.i64.wrap ((i : Int) + 1) = ((i + 1 : Nat) : Int) := by simp (discharger := omega) only [w64, wu64, wu8, w32, wu32, tdivC, tmodC]; omega
    refine loop_eq (st' := ⟨[(3, .v (.n .u32 ((c ^^^ x.toNat : Nat) : Int))), (6, .v (.sl l.length (bytesV l) t)), (7, .v (.n .i64 l.length)), (8, .v (.n .i64 i)), (16, .v (.n .i64 ((0 : Nat) : Int)))], []⟩) (by rw [w1, w2]; rfl) ?_
    refine loop_ind2 (fun (c' : Nat) (k : Nat) => ⟨[(3, .v (.n .u32 c')), (6, .v (.sl l.length (bytesV l) t)), (7, .v (.n .i64 l.length)), (8, .v (.n .i64 i)), (16, .v (.n .i64 k))], []⟩) (fun c' k => 8 - k)
      (fun c' k => c' < 4294967296 ∧ k ≤ 8 ∧ bitsN (8 - k) c' = bitsN 8 (c ^^^ x.toNat)) (c ^^^ x.toNat) 0 ⟨w3, by omega, rfl⟩ ?_
    intro d k ⟨g1, g2, g3⟩ ih'
    refine DecK.dec (fun g => ?_) (fun g => ?_)
    · obtain ⟨m, hm⟩ : ∃ m, 8 - k = m + 1 := ⟨7 - k, by omega⟩
      rw [hm, bitsN] at g3
      have wk : IntKind.i64.wrap ((k : Int) + 1) = ((k + 1 : Nat) : Int) := by simp (discharger := omega) only [w64, wu64, wu8, w32, wu32, tdivC, tmodC]; omega
      have a1 := u32_and1 g1
      refine DecK.beq (fun e => ?_) (fun e => ?_)
      · rw [a1] at e
        have e : d % 2 = 1 := by omega
        have hs : (d : Int).fdiv (2 ^ min (Int.toNat 1) IntKind.u32.bits) = ((d / 2 : Nat) : Int) := by
          show (d : Int).fdiv 2 = _
          rw [Int.fdiv_eq_ediv_of_nonneg _ (by decide)]
          omega
        have a2 := u32_xor (a := d / 2) (b := 3988292384) (by omega) (by decide)
        refine loop_eq (st' := ⟨[(3, .v (.n .u32 ((bitN d : Nat) : Int))), (6, .v (.sl l.length (bytesV l) t)), (7, .v (.n .i64 l.length)), (8, .v (.n .i64 i)), (16, .v (.n .i64 ((k + 1 : Nat) : Int)))], []⟩) ?_ (ih' (bitN d) (k + 1) ⟨bitN_lt g1, by omega, ?_⟩ (by omega))
        · rw [hs, wk, bitN, if_pos e]
          rw [← a2]
          rfl
        · rw [show 8 - (k + 1) = m by omega]; exact g3
      · rw [a1] at e
        have e : ¬ d % 2 = 1 := by omega
        have hs : (d : Int).fdiv (2 ^ min (Int.toNat 1) IntKind.u32.bits) = ((d / 2 : Nat) : Int) := by
          show (d : Int).fdiv 2 = _
          rw [Int.fdiv_eq_ediv_of_nonneg _ (by decide)]
          omega
        refine loop_eq (st' := ⟨[(3, .v (.n .u32 ((bitN d : Nat) : Int))), (6, .v (.sl l.length (bytesV l) t)), (7, .v (.n .i64 l.length)), (8, .v (.n .i64 i)), (16, .v (.n .i64 ((k + 1 : Nat) : Int)))], []⟩) ?_ (ih' (bitN d) (k + 1) ⟨bitN_lt g1, by omega, ?_⟩ (by omega))
        · rw [hs, wk, bitN, if_neg e]
        · rw [show 8 - (k + 1) = m by omega]; exact g3
    · have hk : 8 - k = 0 := by omega
      rw [hk, bitsN] at g3
      refine loop_eq (st' := ⟨[(3, .v (.n .u32 d)), (6, .v (.sl l.length (bytesV l) t)), (7, .v (.n .i64 l.length)), (8, .v (.n .i64 ((i + 1 : Nat) : Int)))], []⟩) (by rw [wi]) (ih d (i + 1) ⟨g1, by omega, by rw [g3]; exact h3⟩ (by omega))
  · refine endV rfl ?_
    have := u32_xor (a := 4294967295) (b := c) (by decide) h1
    rw [List.drop_eq_nil_of_le (by omega), crcN] at h3
    rw [← h3]
    exact congrArg (V.n IntKind.u32) this
theorem packA_len (i k o t0 t1 : Int) (tu : Bool) (r0 r1 : Int) (ru : Bool) (d0 d1 : Int) (du : Bool) (q0 q1 : Int) (qu : Bool) (f : Int) (h : alErr i k o t0 t1 tu r0 r1 ru d0 d1 du q0 q1 qu f = 0) : (packA i k o t0 t1 tu r0 r1 ru d0 d1 du q0 q1 qu f).length ≤ 300 := by
  obtain ⟨⟨h1, h2, h3, h4, h5, h6⟩, hk, e1, e2, e3, e4⟩ := alErr_0 h
  have l1 := sev_10 (n := i.toNat) (by omega)
  have l2 := pr_len (fun _ => bErr_0 e1) (u := tu)
  have l3 := pr_len (fun _ => bErr_0 e2) (u := ru)
  have l4 := pr_len (fun _ => bErr_0 e3) (u := du)
  have l5 := pr_len (fun _ => bErr_0 e4) (u := qu)
  have l6 := sev_10 (n := o.toNat) (by omega)
  have l7 := sev_10 (n := f.toNat) (by omega)
  unfold packA packB
  split <;> simp [four] <;> omega
/-- spyglass/spylaw1.AlertPacks -/
def F3 : Fn1 := ⟨42, .seq (.reg [⟨some 2, none, .box, [.tm 0]⟩, ⟨some 4, none, .mv, [.cn (.b false)]⟩] [1, 2]) (.seq (.reg [⟨some 9, none, .ld true 16 false, [.tm 2]⟩, ⟨some 10, none, .call 5, [.tm 9]⟩, ⟨some 8, none, .mv, [.tm 10]⟩, ⟨some 11, none, .po (.ext 0), [.tm 8]⟩, ⟨some 12, none, .po (.ext 1), [.tm 8]⟩, ⟨some 5, none, .mv, [.tm 11]⟩, ⟨some 6, none, .mv, [.tm 12]⟩] [1, 2, 5, 6]) (.seq (.seq (.reg [⟨some 13, none, .call 6, []⟩, ⟨some 14, none, .po (.un .not), [.tm 13]⟩, ⟨some 15, none, .mv, [.tm 14]⟩, ⟨some 16, some (15, false), .mv, [.tm 1]⟩, ⟨some 17, some (15, false), .call 7, [.tm 16]⟩, ⟨some 18, some (15, false), .mv, [.tm 1]⟩, ⟨some 19, some (15, false), .call 8, [.tm 18]⟩, ⟨some 20, some (15, false), .po (.bin .neq), [.tm 17, .tm 19]⟩, ⟨some 21, none, .pick, [.tm 15, .cn (.b true), .tm 20]⟩] [2, 5, 6, 21]) (.cond (.tm 21) (.seq (.reg [⟨some 4, none, .mv, [.cn (.b false)]⟩] [4]) .ret) .skip)) (.seq (.seq (.reg [⟨some 22, none, .ld true 16 false, [.tm 2]⟩, ⟨some 23, none, .call 9, [.tm 22]⟩, ⟨some 7, none, .mv, [.tm 23]⟩] [2, 5, 6, 7]) (.seq (.reg [⟨some 24, none, .mv, [.tm 7]⟩, ⟨some 25, none, .po (.bin .neq), [.tm 24, .cn (.n .i64 0)]⟩] [2, 5, 6, 7, 25]) (.cond (.tm 25) (.seq (.reg [⟨some 26, none, .mv, [.tm 6]⟩, ⟨some 27, none, .mv, [.tm 7]⟩, ⟨some 28, none, .po (.bin .eql), [.tm 26, .tm 27]⟩, ⟨some 29, none, .mv, [.tm 28]⟩, ⟨some 30, some (29, true), .mv, [.tm 5]⟩, ⟨some 31, some (29, true), .len false, [.tm 30]⟩, ⟨some 32, some (29, true), .po (.bin .eql), [.tm 31, .cn (.n .i64 0)]⟩, ⟨some 33, none, .pick, [.tm 29, .tm 32, .cn (.b false)]⟩, ⟨some 4, none, .mv, [.tm 33]⟩] [4]) .ret) .skip))) (.seq (.reg [⟨some 34, none, .mv, [.tm 6]⟩, ⟨some 35, none, .po (.bin .eql), [.tm 34, .cn (.n .i64 0)]⟩, ⟨some 36, none, .mv, [.tm 35]⟩, ⟨some 37, some (36, true), .mv, [.tm 5]⟩, ⟨some 38, some (36, true), .ld true 16 false, [.tm 2]⟩, ⟨some 39, some (36, true), .call 11, [.tm 38]⟩, ⟨some 40, some (36, true), .call 10, [.tm 37, .tm 39]⟩, ⟨some 41, none, .pick, [.tm 36, .tm 40, .cn (.b false)]⟩, ⟨some 4, none, .mv, [.tm 41]⟩] [4]) .ret)))), [.tm 4]⟩
theorem of3 : Fn1.of Tryd.prog 3 ⟨false, [], false⟩ [[1, 2], [1, 2, 5, 6], [2, 5, 6, 21], [4], [2, 5, 6, 7], [2, 5, 6, 7, 25], [4], [4]] = some F3 := by kernel_rfl
theorem alertPacks_pure (i k o t0 t1 : Int) (tu : Bool) (r0 r1 : Int) (ru : Bool) (d0 d1 : Int) (du : Bool) (q0 q1 : Int) (qu : Bool) (f : Int) (b : List Nat) (hb : ∀ x ∈ b, x < 256) (hl : b.length ≤ 9000000000000000000) :
    Pure Tryd.prog 3 [.agg (alC i k o t0 t1 tu r0 r1 ru d0 d1 du q0 q1 qu f), .sl b.length (bV b) false] (.b true) := by
  have hp := pack_ok i k o t0 t1 tu r0 r1 ru d0 d1 du q0 q1 qu f
  have s1 := crcSum_big (u8s b) false (by rw [u8s_len]; exact hl)
  have s2 := crcRef_ok (u8s b) false (by rw [u8s_len]; exact hl)
  rw [bytesV_u8s hb, u8s_len] at s1 s2
  refine pure_of_wp of3 (Nat.le_of_ble_eq_true rfl) ?_
  by_cases h : alErr i k o t0 t1 tu r0 r1 ru d0 d1 du q0 q1 qu f = 0
  case' pos => rw [if_pos h] at hp
  case' neg => rw [if_neg h] at hp
  all_goals
    refine CallK.mk _ hp rfl ?_
    refine CallK.mk _ alerts_ok rfl ?_
    refine DecK.ff ?_
    refine CallK.mk _ s1 rfl ?_
    refine CallK.mk _ s2 rfl ?_
    refine DecK.no (bne_self_eq_false _) ?_
    refine CallK.mk _ (alertErr_ok i k o t0 t1 tu r0 r1 ru d0 d1 du q0 q1 qu f) rfl ?_
  case pos =>
    refine DecK.no (bne_eq_false_iff_eq.2 h) ?_
    refine DecK.yes (beq_self_eq_true _) ?_
    refine CallK.mk _ (packed_ok i k o t0 t1 tu r0 r1 ru d0 d1 du q0 q1 qu f h) rfl ?_
    refine CallK.mk _ (eqB_ok (packA i k o t0 t1 tu r0 r1 ru d0 d1 du q0 q1 qu f) (packA i k o t0 t1 tu r0 r1 ru d0 d1 du q0 q1 qu f) false false (Nat.le_trans (packA_len i k o t0 t1 tu r0 r1 ru d0 d1 du q0 q1 qu f h) (by decide))) rfl ?_
    refine endV rfl ?_
    rw [decide_eq_true rfl]
  case neg =>
    refine DecK.yes (bne_iff_ne.2 h) ?_
    refine DecK.yes (beq_self_eq_true _) ?_
    exact endV rfl rfl
theorem bV_int : ∀ {l : List Int}, (∀ x ∈ l, 0 ≤ x) → bV (l.map Int.toNat) = l.flatMap fun x => [V.n .u8 x]
  | [], _ => rfl
  | x :: l, h => by
    have := bV_int (l := l) fun y hy => h y (List.mem_cons_of_mem _ hy)
    show V.n .u8 ((x.toNat : Nat) : Int) :: bV (l.map Int.toNat) = V.n .u8 x :: _
    rw [this, Int.toNat_of_nonneg (h x List.mem_cons_self)]
    rfl
theorem alertPacks_int (i k o t0 t1 : Int) (tu : Bool) (r0 r1 : Int) (ru : Bool) (d0 d1 : Int) (du : Bool) (q0 q1 : Int) (qu : Bool) (f : Int) (b : List Int) (hb : ∀ x ∈ b, 0 ≤ x ∧ x ≤ 255) (hl : b.length ≤ 9000000000000000000) :
    Pure Tryd.prog 3 [.agg (alC i k o t0 t1 tu r0 r1 ru d0 d1 du q0 q1 qu f), .sl b.length (b.flatMap fun x => [V.n .u8 x]) false] (.b true) := by
  have := alertPacks_pure i k o t0 t1 tu r0 r1 ru d0 d1 du q0 q1 qu f (b.map Int.toNat) (fun x hx => by
    obtain ⟨y, hy, rfl⟩ := List.mem_map.1 hx
    have := hb y hy
    omega) (by rw [List.length_map]; exact hl)
  rwa [bV_int (fun x hx => (hb x hx).1), List.length_map] at this
end Go.Proofs.YtljcbmnkjiogmaaDoor.Sv
