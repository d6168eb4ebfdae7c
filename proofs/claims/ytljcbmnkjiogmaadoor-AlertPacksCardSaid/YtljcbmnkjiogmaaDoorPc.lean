/- Alerts in packed form: bounds in the reference; rows of bytes are compared; flags. No condition. -/
import Derived.Test.YtljcbmnkjiogmaaDoorPb
namespace Go.Proofs.YtljcbmnkjiogmaaDoor.Sv
open Go Go.RowKit
set_option linter.unusedVariables false
set_option linter.unusedSimpArgs false
set_option maxRecDepth 100000

theorem New.args {P : Program} {f : FuncId} {vs vs' cs : List V} {z n : Nat} (h : New P f vs z n cs) (e : vs' = vs) : New P f vs' z n cs := e ▸ h
theorem MovK.cast {P : Program} {f : FuncId} {pre cs cs' post post' : List V} {z n : Nat} {K : Nat → List V → Prop} (e : cs = cs') (e' : post = post') (h : MovK P f pre z n cs' post' K) : MovK P f pre z n cs post K := e ▸ e' ▸ h
theorem u64_of {x : Int} (h : 0 ≤ x) (h2 : x < 9223372036854775808) : IntKind.u64.wrap x = (x.toNat : Int) := by
  rw [wmu64]
  omega
theorem pair7Tick (lo hi : Int) (u : Bool) (hb : u = false → -1152921504606846976 ≤ lo ∧ lo ≤ hi ∧ hi ≤ 1152921504606846976) : Pure Tryd.prog 29 [bdV lo hi u] (.sl (pr lo hi u).length (bV (pr lo hi u)) false) := by
  refine pure_of_wp of29 (Nat.le_of_ble_eq_true rfl) ?_
  cases u
  case true =>
    refine DecK.tt ?_
    exact endV rfl rfl
  have hb := hb rfl
  refine DecK.ff ?_
  have n1 := seven_new (zz lo) (zz_lt (by omega))
  have n2 := seven_new (hi - lo).toNat (by omega)
  have z1 := sev_10 (zz_lt (lo := lo) (by omega))
  have z2 := sev_10 (n := (hi - lo).toNat) (by omega)
  have w1 : IntKind.i64.wrap (2 * lo) = 2 * lo := by simp (discharger := omega) only [w64, wu64, wu8, w32, wu32, tdivC, tmodC]
  refine DecK.dec (fun h => ?_) (fun h => ?_)
  case' refine_1 =>
    have e : IntKind.u64.wrap (IntKind.i64.wrap (IntKind.i64.wrap (0 - IntKind.i64.wrap (2 * lo)) - 1)) = (zz lo : Int) := by
      rw [w1, w64 (n := 0 - 2 * lo) (by omega), w64 (by omega), wmu64]
      unfold zz
      rw [if_pos h]
      omega
  case' refine_2 =>
    have e : IntKind.u64.wrap (IntKind.i64.wrap (2 * lo)) = (zz lo : Int) := by
      rw [w1, wmu64]
      unfold zz
      rw [if_neg h]
      omega
  all_goals
    refine NewK.mk _ _ _ (n1.args (by rw [e])) rfl ?_
    refine NewK.mk _ _ _ (n2.args (by rw [hl_eq hb])) rfl ?_
    refine OptK.mk _ (own_appo (l := sev (zz lo)) (l' := sev (hi - lo).toNat) (f := nb) nb_len rfl rfl (by rw [bV_one]) (by omega)) ?_
    refine endV rfl ?_
    exact snapRow' nb_len rfl
theorem pair7Arc (lo hi : Int) (u : Bool) (hb : u = false → -1152921504606846976 ≤ lo ∧ lo ≤ hi ∧ hi ≤ 1152921504606846976) : Pure Tryd.prog 30 [bdV lo hi u] (.sl (pr lo hi u).length (bV (pr lo hi u)) false) := by
  refine pure_of_wp of30 (Nat.le_of_ble_eq_true rfl) ?_
  cases u
  case true =>
    refine DecK.tt ?_
    exact endV rfl rfl
  have hb := hb rfl
  refine DecK.ff ?_
  have n1 := seven_new (zz lo) (zz_lt (by omega))
  have n2 := seven_new (hi - lo).toNat (by omega)
  have z1 := sev_10 (zz_lt (lo := lo) (by omega))
  have z2 := sev_10 (n := (hi - lo).toNat) (by omega)
  have w1 : IntKind.i64.wrap (2 * lo) = 2 * lo := by simp (discharger := omega) only [w64, wu64, wu8, w32, wu32, tdivC, tmodC]
  refine DecK.dec (fun h => ?_) (fun h => ?_)
  case' refine_1 =>
    have e : IntKind.u64.wrap (IntKind.i64.wrap (IntKind.i64.wrap (0 - IntKind.i64.wrap (2 * lo)) - 1)) = (zz lo : Int) := by
      rw [w1, w64 (n := 0 - 2 * lo) (by omega), w64 (by omega), wmu64]
      unfold zz
      rw [if_pos h]
      omega
  case' refine_2 =>
    have e : IntKind.u64.wrap (IntKind.i64.wrap (2 * lo)) = (zz lo : Int) := by
      rw [w1, wmu64]
      unfold zz
      rw [if_neg h]
      omega
  all_goals
    refine NewK.mk _ _ _ (n1.args (by rw [e])) rfl ?_
    refine NewK.mk _ _ _ (n2.args (by rw [hl_eq hb])) rfl ?_
    refine OptK.mk _ (own_appo (l := sev (zz lo)) (l' := sev (hi - lo).toNat) (f := nb) nb_len rfl rfl (by rw [bV_one]) (by omega)) ?_
    refine endV rfl ?_
    exact snapRow' nb_len rfl
theorem pair7Quanta (lo hi : Int) (u : Bool) (hb : u = false → -1152921504606846976 ≤ lo ∧ lo ≤ hi ∧ hi ≤ 1152921504606846976) : Pure Tryd.prog 31 [bdV lo hi u] (.sl (pr lo hi u).length (bV (pr lo hi u)) false) := by
  refine pure_of_wp of31 (Nat.le_of_ble_eq_true rfl) ?_
  cases u
  case true =>
    refine DecK.tt ?_
    exact endV rfl rfl
  have hb := hb rfl
  refine DecK.ff ?_
  have n1 := seven_new (zz lo) (zz_lt (by omega))
  have n2 := seven_new (hi - lo).toNat (by omega)
  have z1 := sev_10 (zz_lt (lo := lo) (by omega))
  have z2 := sev_10 (n := (hi - lo).toNat) (by omega)
  have w1 : IntKind.i64.wrap (2 * lo) = 2 * lo := by simp (discharger := omega) only [w64, wu64, wu8, w32, wu32, tdivC, tmodC]
  refine DecK.dec (fun h => ?_) (fun h => ?_)
  case' refine_1 =>
    have e : IntKind.u64.wrap (IntKind.i64.wrap (IntKind.i64.wrap (0 - IntKind.i64.wrap (2 * lo)) - 1)) = (zz lo : Int) := by
      rw [w1, w64 (n := 0 - 2 * lo) (by omega), w64 (by omega), wmu64]
      unfold zz
      rw [if_pos h]
      omega
  case' refine_2 =>
    have e : IntKind.u64.wrap (IntKind.i64.wrap (2 * lo)) = (zz lo : Int) := by
      rw [w1, wmu64]
      unfold zz
      rw [if_neg h]
      omega
  all_goals
    refine NewK.mk _ _ _ (n1.args (by rw [e])) rfl ?_
    refine NewK.mk _ _ _ (n2.args (by rw [hl_eq hb])) rfl ?_
    refine OptK.mk _ (own_appo (l := sev (zz lo)) (l' := sev (hi - lo).toNat) (f := nb) nb_len rfl rfl (by rw [bV_one]) (by omega)) ?_
    refine endV rfl ?_
    exact snapRow' nb_len rfl
theorem eqB_ok (a b : List Nat) (s t : Bool) (ha : a.length ≤ 9000000000000000000) : Pure Tryd.prog 10 [.sl a.length (bV a) s, .sl b.length (bV b) t] (.b (decide (a = b))) := by
  refine pure_of_wp of10 (Nat.le_of_ble_eq_true rfl) ?_
  refine DecK.bne (fun h => ?_) (fun h => ?_)
  · refine endV rfl ?_
    rw [decide_eq_false fun e => h (by rw [e])]
  have hl : a.length = b.length := by omega
  refine loop_ind (fun (i : Nat) => ⟨[(0, .v (.sl a.length (bV a) s)), (1, .v (.sl b.length (bV b) t)), (12, .v (.n .i64 a.length)), (13, .v (.n .i64 i))], []⟩) (fun i => a.length - i) (fun i => i ≤ a.length ∧ a.take i = b.take i) 0 ⟨by omega, rfl⟩ ?_
  intro i ⟨h1, h2⟩ ih
  refine DecK.dec (fun g => ?_) (fun g => ?_)
  · have hi : i < a.length := by omega
    have hx : a[i]? = some a[i] := List.getElem?_eq_getElem hi
    have hy : b[i]? = some (b[i]'(by omega)) := List.getElem?_eq_getElem (by omega)
    have e1 : a.take (i + 1) = a.take i ++ [a[i]] := by rw [List.take_add_one, hx]; rfl
    have e2 : b.take (i + 1) = b.take i ++ [b[i]'(by omega)] := by rw [List.take_add_one, hy]; rfl
    generalize a[i] = x at hx e1
    generalize (b[i]'(by omega)) = y at hy e2
    refine OptK.mk _ (ria i rfl (by omega)) ?_
    refine OptK.mk _ (rld1 (g := fun x : Nat => .n .u8 (x : Int)) hx) ?_
    refine OptK.mk _ (ria i rfl (by omega)) ?_
    refine OptK.mk _ (rld1 (g := fun x : Nat => .n .u8 (x : Int)) hy) ?_
    refine DecK.bne (fun e => ?_) (fun e => ?_)
    · refine endV rfl ?_
      rw [decide_eq_false fun h => ?_]
      subst h
      rw [hx] at hy
      cases hy
      exact e rfl
    · have wi : IntKind.i64.wrap ((i : Int) + 1) = ((i + 1 : Nat) : Int) := by simp (discharger := omega) only [w64, wu64, wu8, w32, wu32, tdivC, tmodC]; omega
      refine loop_eq (st' := ⟨[(0, .v (.sl a.length (bV a) s)), (1, .v (.sl b.length (bV b) t)), (12, .v (.n .i64 a.length)), (13, .v (.n .i64 ((i + 1 : Nat) : Int)))], []⟩) (by rw [wi]) (ih (i + 1) ⟨by omega, ?_⟩ (by omega))
      rw [e1, e2, h2, show x = y by omega]
  · refine endV rfl ?_
    rw [List.take_of_length_le (by omega), List.take_of_length_le (by omega)] at h2
    rw [decide_eq_true h2]
/-- The flags of the first bounds. -/
def fN (a b c d : Bool) : Nat → Nat
  | 0 => 0
  | 1 => b2n a
  | 2 => b2n a + 2 * b2n b
  | 3 => b2n a + 2 * b2n b + 4 * b2n c
  | _ => b2n a + 2 * b2n b + 4 * b2n c + 8 * b2n d
theorem flag_byte {k : Int} (hk : 1 ≤ k ∧ k ≤ 6) (a b c d : Bool) : IntKind.u8.wrap (IntKind.i64.wrap ((BitVec.ofInt IntKind.i64.bits k ||| BitVec.ofInt IntKind.i64.bits (IntKind.i64.wrap ((fN a b c d 4 : Int) * 2 ^ min (Int.toNat 4) IntKind.i64.bits))).toNat : Nat)) = ((k.toNat + 16 * fN a b c d 4 : Nat) : Int) := by
  have h : k = 1 ∨ k = 2 ∨ k = 3 ∨ k = 4 ∨ k = 5 ∨ k = 6 := by omega
  rcases h with rfl | rfl | rfl | rfl | rfl | rfl <;> cases a <;> cases b <;> cases c <;> cases d <;> decide +kernel
theorem flag_byte2 {k : Int} (hk : 1 ≤ k ∧ k ≤ 6) (a b c d : Bool) : IntKind.u8.wrap (k + 16 * (fN a b c d 4 : Int)) = ((k.toNat + 16 * fN a b c d 4 : Nat) : Int) := by
  have : fN a b c d 4 ≤ 15 := by cases a <;> cases b <;> cases c <;> cases d <;> decide
  rw [wu8 (by omega)]
  omega
theorem crcSumL {l : List Nat} (t : Bool) (h : ∀ x ∈ l, x < 256) (hl : l.length ≤ 1000000) : Pure Tryd.prog 7 [.sl l.length (bV l) t] (.n .u32 (crcL l : Int)) := by
  have := crcSum_ok (u8s l) t (by rw [u8s_len]; exact hl)
  rw [bytesV_u8s h, u8s_len] at this
  exact this
theorem crcRefL {l : List Nat} (t : Bool) (h : ∀ x ∈ l, x < 256) (hl : l.length ≤ 1000000) : Pure Tryd.prog 8 [.sl l.length (bV l) t] (.n .u32 (crcL l : Int)) := by
  have := crcRef_ok (u8s l) t (by rw [u8s_len]; omega)
  rw [bytesV_u8s h, u8s_len] at this
  exact this
theorem pr_256 (lo hi : Int) (u : Bool) : ∀ x ∈ pr lo hi u, x < 256 := by
  intro x hx
  cases u
  · rcases List.mem_append.1 hx with h | h
    · exact sev_256 _ x h
    · exact sev_256 _ x h
  · cases hx
theorem pr_len {lo hi : Int} {u : Bool} (hb : u = false → -1152921504606846976 ≤ lo ∧ lo ≤ hi ∧ hi ≤ 1152921504606846976) : (pr lo hi u).length ≤ 20 := by
  cases u
  · have hb := hb rfl
    have z1 := sev_10 (zz_lt (lo := lo) (by omega))
    have z2 := sev_10 (n := (hi - lo).toNat) (by omega)
    rw [pr_kn, List.length_append]
    omega
  · simp [pr_un]
theorem four_256 {c : Nat} (hc : c < 4294967296) : ∀ x ∈ four c, x < 256 := by
  intro x hx
  simp only [four, List.mem_cons, List.not_mem_nil, or_false] at hx
  omega
end Go.Proofs.YtljcbmnkjiogmaaDoor.Sv
