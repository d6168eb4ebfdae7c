/- Tables of refraction: the reference's bound; the law HorizonBends. No condition. -/
import Derived.Test.YtpggblmopgfloaaHe
import Derived.Test.YtpggblmopgfloaaBx
namespace Go.Proofs.Ytpggblmopgfloaa.Sv
open Go Go.RowKit
set_option linter.unusedVariables false
set_option linter.unusedSimpArgs false
set_option maxRecDepth 100000

theorem icmp_gt0' {a b : Int} : icmp a b > 0 ↔ b < a := by unfold icmp; split <;> (try split) <;> omega
theorem zk {a : Int} (h : -1152921504606846976 ≤ a ∧ a ≤ 1152921504606846976) : zok a := (show fits a by unfold fits; omega).zb.mono (by decide)
abbrev zz : List V := [.b false, .sl 0 [] true]
set_option maxHeartbeats 2000000 in
theorem refractOf_ok (l : List BendT) (hl : l.length ≤ 9000000000000000000) (lo hi : Int) (u : Bool) : Pure Try.prog 85 [rowV bendC l, bdV lo hi u] (encB (refB l (normB lo hi u))) := by
  obtain ⟨r, hr⟩ : ∃ r, r = refB l (normB lo hi u) := ⟨_, rfl⟩
  rw [← hr]
  refine pure_of_wp of85 (Nat.le_of_ble_eq_true rfl) ?_
  refine OptK.mk _ rfl ?_
  refine CallK.mk _ (sidesArc lo hi u) rfl ?_
  refine OptK.mk _ rfl ?_
  refine OptK.mk _ rfl ?_
  rcases bd_cases lo hi u with ⟨g1, g2⟩ | ⟨g1, rfl, g3, g2⟩
  · rw [g1] at hr ⊢
    obtain rfl : r = none := hr
    refine DecK.yes rfl ?_
    repeat' (refine DecK.tt ?_)
    refine OptK.mk _ rfl ?_
    ((repeat' first | refine DecK.tt ?_ | refine DecK.ff ?_ | refine DecK.beq (fun _ => ?_) (fun _ => ?_) | refine DecK.bne (fun _ => ?_) (fun _ => ?_) | refine DecK.dec (fun _ => ?_) (fun _ => ?_) | refine OptK.mk _ rfl ?_ | refine endV (by rfl) ?_) <;> (try with_reducible rfl))
    rfl
  rw [g1] at hr ⊢
  have hx := g3
  unfold bval at hx
  refine DecK.no rfl ?_
  refine CallK.mk _ (bends2 l hl) rfl ?_
  simp only [refB] at hr
  by_cases hb : bendsErr l ≠ 0
  · rw [if_pos hb] at hr
    subst hr
    refine DecK.yes (bne_iff_ne.2 hb) ?_
    refine OptK.mk _ rfl ?_
    ((repeat' first | refine DecK.tt ?_ | refine DecK.ff ?_ | refine DecK.beq (fun _ => ?_) (fun _ => ?_) | refine DecK.bne (fun _ => ?_) (fun _ => ?_) | refine DecK.dec (fun _ => ?_) (fun _ => ?_) | refine OptK.mk _ rfl ?_ | refine endV (by rfl) ?_) <;> (try with_reducible rfl))
    rfl
  rw [if_neg hb] at hr
  have hb0 : bendsErr l = 0 := by simpa using hb
  refine DecK.no (by rw [hb0]; rfl) ?_
  have hl64 : l.length ≤ 64 := by
    unfold bendsErr at hb0
    exact Classical.byContradiction fun k => by rw [if_pos (by omega)] at hb0; omega
  have fi := findI_in (lo := lo) (l := l) (k := 0) (c := -1)
  have fk := findK_in (hi := hi) (l := l) (k := 0) (c := -1)
  obtain ⟨I, hI⟩ : ∃ I, I = findI lo 0 l (-1) := ⟨_, rfl⟩
  obtain ⟨K, hK⟩ : ∃ K, K = findK hi 0 l (-1) := ⟨_, rfl⟩
  rw [← hI] at hr fi
  rw [← hK] at hr fk
  refine loop_left 0 (fun (e : Int × Bool) tail => ⟨[(0, .v (rowV bendC l)), (3, .ref 3 0), (4, .ref 4 0), (5, .ref 5 0), (6, .ref 6 0), (7, .ref 7 0), (9, .v (.n .i64 I)), (10, .v (.n .i64 K)), (34, .v (rowV bendC l)), (35, .v (.n .i64 l.length)), (36, .v (.n .i64 e.1)), (37, .v (.b e.2))], [(7, zC hi), (6, zC lo), (5, encC none), (4, zero3), (3, bdC lo hi false)]⟩) (fun _ => True) ?_ ?_
  · refine loop_ind3 (fun (i k n : Int) => ⟨[(0, .v (rowV bendC l)), (3, .ref 3 0), (4, .ref 4 0), (5, .ref 5 0), (6, .ref 6 0), (7, .ref 7 0), (9, .v (.n .i64 i)), (10, .v (.n .i64 k)), (34, .v (rowV bendC l)), (35, .v (.n .i64 l.length)), (36, .v (.n .i64 n))], [(7, zC hi), (6, zC lo), (5, encC none), (4, zero3), (3, bdC lo hi false)]⟩) (fun i k n => l.length - n.toNat)
      (fun i k n => 0 ≤ n ∧ n ≤ l.length ∧ findI lo n (l.drop n.toNat) i = I ∧ findK hi n (l.drop n.toNat) k = K) (-1) (-1) 0 ⟨by decide, by omega, hI.symm, hK.symm⟩ ?_
    intro i k nz ⟨k1, k2, k3, k4⟩ ih
    obtain ⟨n, rfl⟩ : ∃ n : Nat, nz = n := ⟨nz.toNat, by omega⟩
    simp only [Int.toNat_natCast] at k3 k4
    refine DecK.dec (fun g => ?_) (fun g => ?_)
    · obtain ⟨z, hz, ez, mz, _⟩ := at_ex' (l := l) (k := n) (by omega)
      have wn : IntKind.i64.wrap ((n : Int) + 1) = ((n + 1 : Nat) : Int) := w64 (by omega)
      rw [ez] at k3 k4
      rw [findI] at k3
      rw [findK] at k4
      refine OptK.mk _ (ria n rfl (by omega)) ?_
      refine OptK.mk _ (rld bendz hz) ?_
      refine OptK.mk _ rfl ?_
      have next : ∀ i' k', findI lo ((n : Int) + 1) (l.drop (n + 1)) i' = I → findK hi ((n : Int) + 1) (l.drop (n + 1)) k' = K → _ := fun i' k' a1 a2 => ih i' k' ((n + 1 : Nat) : Int) ⟨by omega, by omega, by simpa using a1, by simpa using a2⟩ (by simp only [Int.toNat_natCast]; omega)
      refine DecK.dec (fun q => ?_) (fun q => ?_)
      · rw [if_pos (show z.1 ≤ lo from q)] at k3
        refine DecK.dec (fun q2 => ?_) (fun q2 => ?_)
        · refine DecK.dec (fun q3 => ?_) (fun q3 => ?_)
          · rw [if_pos ⟨q2, q3⟩] at k4
            exact loop_eq (by rw [wn] <;> rfl) (next _ _ k3 k4)
          · rw [if_neg (fun j => q3 j.2)] at k4
            exact loop_eq (by rw [wn] <;> rfl) (next _ _ k3 k4)
        · refine DecK.ff ?_
          rw [if_neg (fun j => q2 j.1)] at k4
          exact loop_eq (by rw [wn] <;> rfl) (next _ _ k3 k4)
      · rw [if_neg (show ¬ z.1 ≤ lo from q)] at k3
        refine DecK.dec (fun q2 => ?_) (fun q2 => ?_)
        · refine DecK.dec (fun q3 => ?_) (fun q3 => ?_)
          · rw [if_pos ⟨q2, q3⟩] at k4
            exact loop_eq (by rw [wn] <;> rfl) (next _ _ k3 k4)
          · rw [if_neg (fun j => q3 j.2)] at k4
            exact loop_eq (by rw [wn] <;> rfl) (next _ _ k3 k4)
        · refine DecK.ff ?_
          rw [if_neg (fun j => q2 j.1)] at k4
          exact loop_eq (by rw [wn] <;> rfl) (next _ _ k3 k4)
    · rw [List.drop_eq_nil_of_le (by omega)] at k3 k4
      obtain rfl : i = I := k3
      obtain rfl : k = K := k4
      exact .mk ((n : Int), decide ((n : Int) < l.length)) [] rfl rfl trivial
  · intro ⟨n, c⟩ tail _
    refine inBlk ?_
    by_cases hn : I < 0 ∨ K < 0
    · rw [if_pos hn] at hr
      subst hr
      refine DecK.dec (fun q => ?_) (fun q => ?_)
      · repeat' (refine DecK.tt ?_)
        refine OptK.mk _ rfl ?_
        ((repeat' first | refine DecK.tt ?_ | refine DecK.ff ?_ | refine DecK.beq (fun _ => ?_) (fun _ => ?_) | refine DecK.bne (fun _ => ?_) (fun _ => ?_) | refine DecK.dec (fun _ => ?_) (fun _ => ?_) | refine OptK.mk _ rfl ?_ | refine endV (by rfl) ?_) <;> (try with_reducible rfl))
        rfl
      · refine DecK.yes (decide_eq_true (by omega)) ?_
        refine OptK.mk _ rfl ?_
        ((repeat' first | refine DecK.tt ?_ | refine DecK.ff ?_ | refine DecK.beq (fun _ => ?_) (fun _ => ?_) | refine DecK.bne (fun _ => ?_) (fun _ => ?_) | refine DecK.dec (fun _ => ?_) (fun _ => ?_) | refine OptK.mk _ rfl ?_ | refine endV (by rfl) ?_) <;> (try with_reducible rfl))
        rfl
    rw [if_neg hn] at hr
    refine DecK.no (decide_eq_false (by omega)) ?_
    refine DecK.no (decide_eq_false (by omega)) ?_
    have hbn : bnd none l = 0 := by
      unfold bendsErr at hb0
      rw [if_neg (by omega)] at hb0
      exact hb0
    obtain ⟨he, hs⟩ := bnd_ok hbn
    obtain ⟨i, xi, ei, hi1, hi2⟩ : ∃ (j : Nat) (x : BendT), I = j ∧ l[j]? = some x ∧ x.1 ≤ lo := by
      rcases findI_val (lo := lo) (l := l) (k := 0) (c := -1) with h | ⟨j, x, h1, h2, h3⟩
      · omega
      · exact ⟨j, x, by omega, h2, h3⟩
    obtain ⟨k, xk, ek, hk1, hk2⟩ : ∃ (j : Nat) (x : BendT), K = j ∧ l[j]? = some x ∧ hi ≤ x.1 := by
      rcases findK_val (hi := hi) (l := l) (k := 0) (c := -1) with h | ⟨j, x, h1, h2, h3⟩
      · omega
      · exact ⟨j, x, by omega, h2, h3⟩
    have hik : i ≤ k := Classical.byContradiction fun j => by have := sorted_at hs (by omega : k < i) hk1 hi1; omega
    have hkl := (List.getElem?_eq_some_iff.1 hk1).1
    clear fi fk hI hK
    subst ei ek
    rw [show ((i : Nat) : Int).toNat = i from rfl, show ((k : Nat) : Int).toNat = k from rfl] at hr
    simp only [hullS, hi1] at hr
    obtain ⟨T, hT⟩ : ∃ T, T = segF (liftB xi) ((l.take (k + 1)).drop i) := ⟨_, rfl⟩
    rw [← hT] at hr
    refine loop_ind3 (fun (A B : List V) (n : Int) => ⟨[(0, .v (rowV bendC l)), (4, .ref 4 0), (5, .ref 5 0), (6, .ref 6 0), (7, .ref 7 0), (9, .v (.n .i64 i)), (10, .v (.n .i64 k)), (13, .ref 13 0), (14, .ref 14 0), (15, .v (.n .i64 n))], [(14, B), (13, A), (7, zC hi), (6, zC lo), (5, encC none), (4, zero3)]⟩) (fun A B n => k + 1 - n.toNat)
      (fun A B n => i ≤ n ∧ n ≤ k + 1 ∧ ((n = i ∧ A = zz ∧ B = zz ∧ segF (liftB xi) ((l.take (k + 1)).drop n.toNat) = T) ∨ (i < n ∧ ∃ a z, A = zC a ∧ B = zC z ∧ bval a z ∧ segF (some (a, z)) ((l.take (k + 1)).drop n.toNat) = T))) zz zz i ⟨by omega, by omega, .inl ⟨rfl, rfl, rfl, hT.symm⟩⟩ ?_
    intro A B nz ⟨k1, k2, k3⟩ ih
    obtain ⟨n, rfl⟩ : ∃ n : Nat, nz = n := ⟨nz.toNat, by omega⟩
    simp only [Int.toNat_natCast] at k3
    refine DecK.dec (fun g => ?_) (fun g => ?_)
    · obtain ⟨z, hz, ez⟩ := take_at (l := l) (n := n) (k := k) hkl (by omega)
      have wn : IntKind.i64.wrap ((n : Int) + 1) = ((n + 1 : Nat) : Int) := w64 (by omega)
      rw [ez] at k3
      simp only [seg_cons] at k3
      have tz := sidesArc z.2.1.1 z.2.1.2.1 z.2.1.2.2.1
      have hzz := norm_ok z.2.1.1 z.2.1.2.1 z.2.1.2.2.1
      rw [show normB z.2.1.1 z.2.1.2.1 z.2.1.2.2.1 = liftB z from rfl] at tz hzz
      refine OptK.mk _ (ria n rfl (by omega)) ?_
      refine OptK.mk _ (rflds bendz hz (off := 1) (w := 3) (by decide)) ?_
      refine CallK.mk _ tz rfl ?_
      refine OptK.mk _ rfl ?_
      refine OptK.mk _ rfl ?_
      have hxz : (n : Int) = i → z = xi := fun e => by
        have : n = i := by omega
        subst this
        rw [hi1] at hz
        cases hz
        rfl
      generalize hlz : liftB z = y at *
      rcases y with _ | ⟨p, q⟩
      · have hT0 : T = none := by
          rcases k3 with ⟨e, _, _, k4⟩ | ⟨_, a, c, _, _, _, k4⟩
          · rw [← hxz e, hlz] at k4
            rw [← k4]; exact seg_none _
          · rw [← k4]; exact seg_none _
        rw [hT0] at hr
        obtain rfl : r = none := hr
        refine DecK.yes rfl ?_
        refine OptK.mk _ rfl ?_
        ((repeat' first | refine DecK.tt ?_ | refine DecK.ff ?_ | refine DecK.beq (fun _ => ?_) (fun _ => ?_) | refine DecK.bne (fun _ => ?_) (fun _ => ?_) | refine DecK.dec (fun _ => ?_) (fun _ => ?_) | refine OptK.mk _ rfl ?_ | refine endV (by rfl) ?_) <;> (try with_reducible rfl))
        rfl
      unfold bdOk bval at hzz
      simp only at hzz
      refine DecK.no rfl ?_
      rcases k3 with ⟨e, rfl, rfl, k4⟩ | ⟨e, a, c, rfl, rfl, hac, k4⟩
      · rw [← hxz e, hlz, hull_self] at k4
        refine DecK.yes (decide_eq_true e) ?_
        repeat' (refine DecK.tt ?_)
        refine OptK.mk _ rfl ?_
        refine DecK.yes (decide_eq_true e) ?_
        repeat' (refine DecK.tt ?_)
        refine OptK.mk _ rfl ?_
        exact loop_eq (by rw [wn] <;> rfl) (ih (zC p) (zC q) ((n + 1 : Nat) : Int) ⟨by omega, by omega, .inr ⟨by omega, p, q, rfl, rfl, by unfold bval; omega, by simpa using k4⟩⟩ (by simp only [Int.toNat_natCast]; omega))
      · unfold bval at hac
        refine DecK.no (decide_eq_false (by omega)) ?_
        refine CallK.mk _ (Cmp_ok p a (zk (by omega)) (zk (by omega))) rfl ?_
        simp only [hullB] at k4
        have go : ∀ a' c', a' = min a p → c' = max c q → _ := fun a' c' e1 e2 => ih (zC a') (zC c') ((n + 1 : Nat) : Int) ⟨by omega, by omega, .inr ⟨by omega, a', c', rfl, rfl, by unfold bval; omega, by rw [e1, e2]; simpa using k4⟩⟩ (by simp only [Int.toNat_natCast]; omega)
        refine DecK.dec (fun q1 => ?_) (fun q1 => ?_)
        · have q1' := icmp_lt0.1 q1
          refine OptK.mk _ rfl ?_
          refine DecK.no (decide_eq_false (by omega)) ?_
          refine CallK.mk _ (Cmp_ok q c (zk (by omega)) (zk (by omega))) rfl ?_
          refine DecK.dec (fun q2 => ?_) (fun q2 => ?_)
          · have q2' := icmp_gt0'.1 q2
            refine OptK.mk _ rfl ?_
            exact loop_eq (by rw [wn] <;> rfl) (go p q (by omega) (by omega))
          · have q2' : ¬ c < q := fun j => q2 (icmp_gt0'.2 j)
            exact loop_eq (by rw [wn] <;> rfl) (go p c (by omega) (by omega))
        · have q1' : ¬ p < a := fun j => q1 (icmp_lt0.2 j)
          refine DecK.no (decide_eq_false (by omega)) ?_
          refine CallK.mk _ (Cmp_ok q c (zk (by omega)) (zk (by omega))) rfl ?_
          refine DecK.dec (fun q2 => ?_) (fun q2 => ?_)
          · have q2' := icmp_gt0'.1 q2
            refine OptK.mk _ rfl ?_
            exact loop_eq (by rw [wn] <;> rfl) (go a q (by omega) (by omega))
          · have q2' : ¬ c < q := fun j => q2 (icmp_gt0'.2 j)
            exact loop_eq (by rw [wn] <;> rfl) (go a c (by omega) (by omega))
    · rcases k3 with ⟨e, _⟩ | ⟨e, a, c, rfl, rfl, hac, k4⟩
      · omega
      unfold bval at hac
      rw [List.drop_eq_nil_of_le (by simp; omega)] at k4
      obtain rfl : some (a, c) = T := k4
      obtain rfl : r = mkB (lo + a) (hi + c) := hr
      refine CallK.mk _ (Plus_ok lo a (by first | exact (zb_64 (by omega)).mono (by decide) | exact ((zb_64 (by omega)).mul (zb_64 (by omega))).mono (by decide)) (by first | exact (zb_64 (by omega)).mono (by decide) | exact ((zb_64 (by omega)).mul (zb_64 (by omega))).mono (by decide))) rfl ?_
      refine CallK.mk _ (Plus_ok hi c (by first | exact (zb_64 (by omega)).mono (by decide) | exact ((zb_64 (by omega)).mul (zb_64 (by omega))).mono (by decide)) (by first | exact (zb_64 (by omega)).mono (by decide) | exact ((zb_64 (by omega)).mul (zb_64 (by omega))).mono (by decide))) rfl ?_
      refine CallK.mk _ (boundedArc (lo + a) (hi + c) (by first | exact (zb_64 (by omega)).mono (by decide) | exact ((zb_64 (by omega)).mul (zb_64 (by omega))).mono (by decide)) (by first | exact (zb_64 (by omega)).mono (by decide) | exact ((zb_64 (by omega)).mul (zb_64 (by omega))).mono (by decide))) rfl ?_
      refine OptK.mk _ rfl ?_
      ((repeat' first | refine DecK.tt ?_ | refine DecK.ff ?_ | refine DecK.beq (fun _ => ?_) (fun _ => ?_) | refine DecK.bne (fun _ => ?_) (fun _ => ?_) | refine DecK.dec (fun _ => ?_) (fun _ => ?_) | refine OptK.mk _ rfl ?_ | refine endV (by rfl) ?_) <;> (try with_reducible rfl))
      rfl
theorem eqBa {objs : List (Nat × List V)} (x : Bd) : (SO.po (.veq false [(0, .n), (1, .n), (2, .b)])).rdx objs [.v (encB x), .v (encB x)] = some (.v (.b true)) := by
  simp [SO.rdx, SO.rd, allV, PO.run, veqV, eqLv, eqk]
theorem horizonBends_pure (l : List BendT) (hl : l.length ≤ 9000000000000000000) (lo hi : Int) (u : Bool) : Pure Try.prog 12 [rowV bendC l, bdV lo hi u] (.b true) := by
  refine pure_of_wp of12 (Nat.le_of_ble_eq_true rfl) ?_
  refine CallK.mk _ horizons_ok rfl ?_
  refine DecK.tt ?_
  refine CallK.mk _ (bends1 l hl) rfl ?_
  refine CallK.mk _ (bends2 l hl) rfl ?_
  refine DecK.yes (beq_self_eq_true _) ?_
  refine CallK.mk _ (refract_ok l hl lo hi u) rfl ?_
  refine CallK.mk _ (refractOf_ok l hl lo hi u) rfl ?_
  refine OptK.mk _ (eqBa _) ?_
  ((repeat' first | refine DecK.tt ?_ | refine DecK.ff ?_ | refine DecK.beq (fun _ => ?_) (fun _ => ?_) | refine DecK.bne (fun _ => ?_) (fun _ => ?_) | refine DecK.dec (fun _ => ?_) (fun _ => ?_) | refine OptK.mk _ rfl ?_ | refine endV (by rfl) ?_) <;> (try with_reducible rfl))
end Go.Proofs.Ytpggblmopgfloaa.Sv
