/- Bounds of numbers of a type that are fused: what is left out, the result. No condition. -/
import Derived.Test.YtpggblmopgfloaaBfFix
namespace Go.Proofs.Ytpggblmopgfloaa.Sv
open Go Go.RowKit
set_option linter.unusedVariables false
set_option linter.unusedSimpArgs false
set_option maxRecDepth 100000

theorem filter_idxFix {p : Int → Bool} : ∀ {l : List Int} {i : Int}, 0 ≤ i → (idxF p l i = -1 ∧ l.filter (fun x => !p x) = l) ∨ ∃ k : Nat, k < l.length ∧ idxF p l i = i + k ∧ (l.take (k + 1)).filter (fun x => !p x) = l.take k
  | [], i, h => .inl ⟨rfl, rfl⟩
  | x :: l, i, h => by
    unfold idxF
    by_cases hx : p x = true
    · rw [if_pos hx]
      exact .inr ⟨0, by simp, by omega, by simp [hx]⟩
    · rw [if_neg hx]
      rcases filter_idxFix (p := p) (l := l) (i := i + 1) (by omega) with ⟨h1, h2⟩ | ⟨k, h1, h2, h3⟩
      · exact .inl ⟨h1, by simp [hx, h2]⟩
      · exact .inr ⟨k + 1, by simpa using h1, by omega, by simp [hx]; simpa using h3⟩
theorem delFix (l : List Int) (g : Nat) (cap : List V) (p : Int → Bool) (h0 : 0 < l.length) (hl : l.length ≤ 4000000) (hp : ∀ x ∈ l, Pure Try.prog g ([] ++ [.n .i64 x] ++ cap) (.b (p x))) :
    Mut Try.prog 140 [] (.own 0 1 0 l.length) (l.flatMap ni) [.clo (.func g) [] cap] (.own 0 1 0 (l.filter (fun x => !p x)).length)
      ((l.filter (fun x => !p x) ++ List.replicate (l.length - (l.filter (fun x => !p x)).length) 0).flatMap ni) := by
  refine mut_of_wp of140 (by kernel_rfl) (Nat.le_of_ble_eq_true rfl) rfl rfl ⟨h0, flatMap_length hz_ni l⟩ ?_
  have hi := idxFix l false g cap p hl hp
  refine CallK.mk _ (hi.args (by show [V.sl l.length (((l.flatMap ni).drop 0).take (l.length * 1)) false, V.clo (.func g) [] cap] = _; rw [snapRow hz_ni])) rfl ?_
  rcases filter_idxFix (p := p) (l := l) (i := 0) (by decide) with ⟨e1, e2⟩ | ⟨k, hk, e1, e2⟩
  · rw [e1, e2]
    refine DecK.yes rfl ?_
    refine endM rfl rfl rfl rfl ?_ rfl
    simp
  rw [e1]
  refine DecK.no (by simp) ?_
  have w0 : IntKind.i64.wrap (0 + (k : Int) + 1) = ((k + 1 : Nat) : Int) := by rw [w64 (by omega)]; omega
  refine loop_left 0 (fun (x : List Int × Int) tail => ⟨(0, .own 0 1 0 l.length) :: (1, .v (.clo (.func g) [] cap)) :: (5, .v (.n .i64 x.2)) :: (6, .v (.n .i64 l.length)) :: tail, [(0, x.1.flatMap ni)]⟩)
    (fun x => x.1.length = l.length ∧ x.2 = (l.filter (fun x => !p x)).length ∧ x.1.take (l.filter (fun x => !p x)).length = l.filter (fun x => !p x)) ?_ ?_
  · refine loop_ind3 (fun (m : List Int) (i j : Int) => ⟨[(0, .own 0 1 0 l.length), (1, .v (.clo (.func g) [] cap)), (5, .v (.n .i64 i)), (6, .v (.n .i64 j))], [(0, m.flatMap ni)]⟩) (fun m i j => l.length - j.toNat)
      (fun m i j => m.length = l.length ∧ 0 ≤ i ∧ i < j ∧ j ≤ l.length ∧ m.drop j.toNat = l.drop j.toNat ∧ i = ((l.take j.toNat).filter (fun x => !p x)).length ∧ m.take i.toNat = (l.take j.toNat).filter (fun x => !p x)) l (0 + k) _ (by
        rw [w0]
        simp only [Int.toNat_natCast]
        refine ⟨by first | rfl | trivial, by omega, by omega, by omega, by first | rfl | trivial, ?_, ?_⟩
        · rw [e2]; simp; omega
        · rw [e2]; congr 1; omega) ?_
    intro m iz jz ⟨h1, h2, h3, h4, h5, h6, h7⟩ ih
    obtain ⟨j, rfl⟩ : ∃ j : Nat, jz = j := ⟨jz.toNat, by omega⟩
    obtain ⟨i, rfl⟩ : ∃ i : Nat, iz = i := ⟨iz.toNat, by omega⟩
    simp only [Int.toNat_natCast] at h5 h6 h7
    refine DecK.dec (fun h => ?_) (fun h => ?_)
    · obtain ⟨x, hx, ex, mx, tx⟩ := at_ex' (l := l) (k := j) (by omega)
      have hxm : m[j]? = some x := by
        have : (m.drop j)[0]? = (l.drop j)[0]? := by rw [h5]
        simpa [hx] using this
      have wj : IntKind.i64.wrap ((j : Int) + 1) = ((j + 1 : Nat) : Int) := by simp (discharger := omega) only [w64, wu64, wu8, w32, wu32, tdivC, tmodC]; omega
      have wi : IntKind.i64.wrap ((i : Int) + 1) = ((i + 1 : Nat) : Int) := by simp (discharger := omega) only [w64, wu64, wu8, w32, wu32, tdivC, tmodC]; omega
      have hd5 : m.drop (j + 1) = l.drop (j + 1) := by rw [← List.drop_drop, ← List.drop_drop, h5]
      refine OptK.mk _ (oia j rfl (by omega)) ?_
      refine OptK.mk _ (old1 (g := fun x => .n .i64 x) rfl hxm) ?_
      refine CallK.mk _ (hp x mx) rfl ?_
      refine DecK.both (fun e => ?_) (fun e => ?_)
      · have e : p x = false := by simpa using e
        have ef : (l.take (j + 1)).filter (fun x => !p x) = (l.take j).filter (fun x => !p x) ++ [x] := by rw [tx, List.filter_append]; simp [e]
        refine OptK.mk _ (oia i rfl (by omega)) ?_
        refine OptK.mk _ (ost (f := ni) (x := x) hz_ni rfl rfl rfl (by omega)) ?_
        refine ih (m.set i x) _ _ ⟨?_, ?_, ?_, ?_, ?_, ?_, ?_⟩ ?_
        all_goals try simp only [wi, wj, Int.toNat_natCast]
        · simp [h1]
        · omega
        · omega
        · omega
        · rw [List.drop_set_of_lt (by omega), hd5]
        · rw [ef]; simp; omega
        · rw [ef, ← h7, List.take_add_one, List.take_set_of_le (by omega)]
          simp [List.getElem?_set_self (show i < m.length by omega)]
        · omega
      · have e : p x = true := by simpa using e
        have ef : (l.take (j + 1)).filter (fun x => !p x) = (l.take j).filter (fun x => !p x) := by rw [tx, List.filter_append]; simp [e]
        refine ih m _ _ ⟨?_, ?_, ?_, ?_, ?_, ?_, ?_⟩ ?_
        all_goals try simp only [wj, Int.toNat_natCast]
        · exact h1
        · omega
        · omega
        · omega
        · exact hd5
        · rw [ef]; exact h6
        · rw [ef]; exact h7
        · omega
    · obtain rfl : j = l.length := by omega
      rw [List.take_length] at h6 h7
      refine .mk (m, (i : Int)) _ rfl rfl ⟨h1, h6, ?_⟩
      show m.take (l.filter (fun x => !p x)).length = l.filter (fun x => !p x)
      rw [show (l.filter (fun x => !p x)).length = i by omega]
      exact h7
  · intro ⟨m, i⟩ tail ⟨h1, h2, h3⟩
    simp only at h1 h2 h3
    have hle := List.length_filter_le (fun x => !p x) l
    generalize l.filter (fun x => !p x) = q at *
    subst h2
    refine OptK.mk _ (own_from (by omega) (by omega)) ?_
    refine OptK.mk _ (own_clr (f := ni) (x := 0) (m := m) (q := q) hz_ni rfl rfl h1 h3) ?_
    refine OptK.mk _ (own_upto (by omega) (by omega)) ?_
    exact endM rfl rfl rfl rfl rfl rfl
end Go.Proofs.Ytpggblmopgfloaa.Sv
