/- Bounds of numbers of a type that are fused: the result. No condition. -/
import Derived.Test.YtpggblmopgfloaaBgFix
namespace Go.Proofs.Ytpggblmopgfloaa.Sv
open Go Go.RowKit
set_option linter.unusedVariables false
set_option linter.unusedSimpArgs false
set_option maxRecDepth 100000

theorem fuseFix (l : List BdT) (f : Int) (hl : l.length ≤ 1000000) (hf : fits f) : Pure Try.prog 90 [rowV bdT l, .n .i64 f] (encB (fuseF (l.map nrm) f)) := by
  refine pure_of_wp of90 (Nat.le_of_ble_eq_true rfl) ?_
  unfold fits at hf
  have hend := ends_len (l.map nrm)
  simp only [List.length_map] at hend
  refine loop_left 0 (fun (e : List Int × Int × Bool) tail => ⟨[(1, .v (.n .i64 f)), (2, .ref 2 0), (4, .ref 4 0), (5, .own 5 1 0 e.1.length), (10, .v (rowV bdT l)), (11, .v (.n .i64 l.length)), (12, .v (.n .i64 e.2.1)), (13, .v (.b e.2.2))], [(5, e.1.flatMap ni), (4, [.n .i64 0, .n .i64 0, .b false]), (2, [rowV bdT l])]⟩) (fun e => e.1 = endsF (l.map nrm)) ?_ ?_
  · refine loop_ind2 (fun (e : List Int) (i : Int) => ⟨[(1, .v (.n .i64 f)), (2, .ref 2 0), (4, .ref 4 0), (5, .own 5 1 0 e.length), (10, .v (rowV bdT l)), (11, .v (.n .i64 l.length)), (12, .v (.n .i64 i))], [(5, e.flatMap ni), (4, [.n .i64 0, .n .i64 0, .b false]), (2, [rowV bdT l])]⟩) (fun e i => l.length - i.toNat)
      (fun e i => 0 ≤ i ∧ i ≤ l.length ∧ e.length ≤ 2 * i ∧ e ++ endsF ((l.drop i.toNat).map nrm) = endsF (l.map nrm)) [] 0 (by simp) ?_
    intro e iz ⟨h1, h2, h3, h5⟩ ih
    obtain ⟨i, rfl⟩ : ∃ i : Nat, iz = i := ⟨iz.toNat, by omega⟩
    simp only [Int.toNat_natCast] at h5
    refine DecK.dec (fun h => ?_) (fun h => ?_)
    · obtain ⟨x, hx, ex, mx, _⟩ := at_ex' (l := l) (k := i) (by omega)
      have wi : IntKind.i64.wrap ((i : Int) + 1) = ((i + 1 : Nat) : Int) := by simp (discharger := omega) only [w64, wu64, wu8, w32, wu32, tdivC, tmodC]; omega
      have ec : endsF ((x :: l.drop (i + 1)).map nrm) = endsB (nrm x) ++ endsF ((l.drop (i + 1)).map nrm) := by simp [endsF]
      rw [ex, ec] at h5
      refine OptK.mk _ (ria i rfl (by omega)) ?_
      refine OptK.mk _ (rld bdz hx) ?_
      refine OptK.mk _ rfl ?_
      refine CallK.mk _ (vagueFix _ _ _ _ _ _) rfl ?_
      have hc := bd_cases x.1 x.2.1 x.2.2.1
      rw [show normB x.1 x.2.1 x.2.2.1 = nrm x from rfl] at hc ⊢
      rcases hc with ⟨g1, _⟩ | ⟨g1, _⟩
      · rw [g1] at h5 ⊢
        refine DecK.no rfl ?_
        refine ih e _ ⟨?_, ?_, ?_, ?_⟩ ?_
        all_goals try simp only [wi, Int.toNat_natCast]
        · omega
        · omega
        · omega
        · simpa [endsB] using h5
        · omega
      · rw [g1] at h5 ⊢
        refine DecK.yes rfl ?_
        refine OptK.mk _ (own_apps (f := ni) (l' := [x.1, x.2.1]) hz_ni rfl rfl (by simp only [List.length_cons, List.length_nil]; omega)) ?_
        refine ih (e ++ [x.1, x.2.1]) _ ⟨?_, ?_, ?_, ?_⟩ ?_
        all_goals try simp only [wi, Int.toNat_natCast]
        · omega
        · omega
        · simp only [List.length_append, List.length_cons, List.length_nil]; omega
        · simpa [endsB] using h5
        · omega
    · refine .mk (e, (i : Int), _) [] rfl rfl ?_
      rw [List.drop_eq_nil_of_le (by omega)] at h5
      simpa [endsF] using h5
  intro ⟨e, i0, b0⟩ tail he
  simp only at he
  subst he
  have hdiv : IntKind.i64.wrap (Int.tdiv ((endsF (l.map nrm)).length : Int) 2) = cntB (l.map nrm) := by rw [Int.tdiv_eq_ediv_of_nonneg (by omega), w64 (by omega)]; omega
  refine inBlk ?_
  have hin := ends_in (l := l.map nrm) (fun x hx => by
    obtain ⟨y, _, rfl⟩ := List.mem_map.1 hx
    exact norm_ok _ _ _)
  refine OptK.mk _ rfl ?_
  refine DecK.dec (fun h => ?_) (fun h => ?_)
  · have e : fuseF (l.map nrm) f = none := if_pos (.inl h)
    repeat' first | (refine DecK.yes rfl ?_) | (refine CallK.mk _ noneFix rfl ?_) | refine DecK.tt ?_ | refine DecK.ff ?_ | refine DecK.beq (fun _ => ?_) (fun _ => ?_) | refine DecK.bne (fun _ => ?_) (fun _ => ?_) | refine DecK.dec (fun _ => ?_) (fun _ => ?_) | refine OptK.mk _ rfl ?_ | refine endV (by rfl) ?_
    rw [e]; rfl
  have hw : IntKind.i64.wrap (IntKind.i64.wrap (Int.tdiv ((endsF (l.map nrm)).length : Int) 2) - f) = cntB (l.map nrm) - f := by rw [hdiv, w64 (by omega)]
  refine DecK.dec (fun h' => ?_) (fun h' => ?_)
  · rw [hw] at h'
    have e : fuseF (l.map nrm) f = none := if_pos (.inr (by omega))
    repeat' first | (refine CallK.mk _ noneFix rfl ?_) | refine DecK.tt ?_ | refine DecK.ff ?_ | refine DecK.beq (fun _ => ?_) (fun _ => ?_) | refine DecK.bne (fun _ => ?_) (fun _ => ?_) | refine DecK.dec (fun _ => ?_) (fun _ => ?_) | refine OptK.mk _ rfl ?_ | refine endV (by rfl) ?_
    rw [e]; rfl
  rw [hw] at h'
  have eF : fuseF (l.map nrm) f = wrapB (keptF (l.map nrm) (cntB (l.map nrm) - f)) := if_neg (by omega)
  rw [eF]
  obtain ⟨need, hneed⟩ : ∃ need : Int, need = cntB (l.map nrm) - f := ⟨_, rfl⟩
  rw [← hneed] at hw h' ⊢
  have hfew : ∀ x ∈ endsF (l.map nrm), Pure Try.prog 138 ([] ++ [.n .i64 x] ++ [.ip [rowV bdT l], .ip [.n .i64 (IntKind.i64.wrap (IntKind.i64.wrap (Int.tdiv ((endsF (l.map nrm)).length : Int) 2) - f))]]) (.b (decide (votesF (l.map nrm) x < need))) := fun x hx => by
    rw [hw]; exact fewFix l need x hl
  have hd := delFix (endsF (l.map nrm)) _ _ (fun v => decide (votesF (l.map nrm) v < need)) (by omega) (by omega) hfew
  have hk : (endsF (l.map nrm)).filter (fun x => !decide (votesF (l.map nrm) x < need)) = keptF (l.map nrm) need := by
    unfold keptF
    refine List.filter_congr fun v _ => ?_
    by_cases hv : votesF (l.map nrm) v < need
    · rw [decide_eq_true hv, decide_eq_false (by omega)]; rfl
    · rw [decide_eq_false hv, decide_eq_true (by omega)]; rfl
  rw [hk] at hd
  have hkin : ∀ v ∈ keptF (l.map nrm) need, -1152921504606846976 ≤ v ∧ v ≤ 1152921504606846976 := fun v hv => hin v (List.mem_filter.1 hv).1
  have hkl : (keptF (l.map nrm) need).length ≤ (endsF (l.map nrm)).length := List.length_filter_le _ _
  refine MutK.mk _ _ hd ?_
  generalize keptF (l.map nrm) need = q at *
  rcases q with _ | ⟨x, q⟩
  · refine DecK.yes rfl ?_
    refine CallK.mk _ noneFix rfl ?_
    ((repeat' first | refine DecK.tt ?_ | refine DecK.ff ?_ | refine DecK.beq (fun _ => ?_) (fun _ => ?_) | refine DecK.bne (fun _ => ?_) (fun _ => ?_) | refine DecK.dec (fun _ => ?_) (fun _ => ?_) | refine OptK.mk _ rfl ?_ | refine endV (by rfl) ?_) <;> (try with_reducible rfl))
    rfl
  refine DecK.no (by simp; omega) ?_
  have hsn : ∀ r : List Int, V.sl (x :: q).length ((((x :: q) ++ r).flatMap ni).drop 0 |>.take ((x :: q).length * 1)) false = .sl (x :: q).length ((x :: q).flatMap ni) false := fun r => by
    rw [List.drop_zero, List.flatMap_append, List.take_append_of_le_length (by rw [flatMap_length hz_ni]; exact Nat.le_refl _), List.take_of_length_le (by rw [flatMap_length hz_ni]; exact Nat.le_refl _)]
  simp only [List.length_cons] at hkl
  refine CallK.mk _ ((minSFix x q false (by omega)).args (by rw [← hsn])) rfl ?_
  refine CallK.mk _ ((maxSFix x q false (by omega)).args (by rw [← hsn])) rfl ?_
  have ho := ofFix (q.foldl min x) (q.foldl max x)
  rw [mkB_some (wrap_val (hkin x (by simp)) fun y hy => hkin y (by simp [hy]))] at ho
  refine CallK.mk _ ho rfl ?_
  ((repeat' first | refine DecK.tt ?_ | refine DecK.ff ?_ | refine DecK.beq (fun _ => ?_) (fun _ => ?_) | refine DecK.bne (fun _ => ?_) (fun _ => ?_) | refine DecK.dec (fun _ => ?_) (fun _ => ?_) | refine OptK.mk _ rfl ?_ | refine endV (by rfl) ?_) <;> (try with_reducible rfl))
  rw [wrap_cons]
  rfl
end Go.Proofs.Ytpggblmopgfloaa.Sv
