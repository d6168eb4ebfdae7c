/- Tables of refraction: the program's bound of the altitude. No condition. -/
import Derived.Test.YtpggblmopgfloaaHd
namespace Go.Proofs.Ytpggblmopgfloaa.Sv
open Go Go.RowKit
set_option linter.unusedVariables false
set_option linter.unusedSimpArgs false
set_option maxRecDepth 100000

abbrev zero3 : List V := [.n .i64 0, .n .i64 0, .b false]
theorem rflds {α : Type} {f : α → List V} {z : Nat} {objs : List (Nat × List V)} {hd : Bool} (hz : ∀ x, (f x).length = z) {l : List α} {m : Nat} {x : α} (hx : l[m]? = some x) {off w : Nat} (hw : off + w ≤ z) :
    (SO.ld true w hd).rdx objs [.v (.ip (((l.flatMap f).drop (m * z)).drop off))] = some (.v (.agg (((f x).drop off).take w))) := by
  obtain ⟨hk, rfl⟩ := List.getElem?_eq_some_iff.1 hx
  simp only [flatMap_drop hz, SO.rdx, SO.rd, deref, Option.bind_some, ldD, if_true]
  rw [List.drop_eq_getElem_cons hk, List.flatMap_cons, List.drop_append_of_le_length (by rw [hz]; omega), if_pos (by rw [List.length_append, List.length_drop, hz]; omega), List.take_append_of_le_length (by rw [List.length_drop, hz]; omega)]
set_option maxHeartbeats 2000000 in
theorem refract_ok (l : List BendT) (hl : l.length ≤ 9000000000000000000) (lo hi : Int) (u : Bool) : Pure Try.prog 84 [rowV bendC l, bdV lo hi u] (encB (refB l (normB lo hi u))) := by
  obtain ⟨r, hr⟩ : ∃ r, r = refB l (normB lo hi u) := ⟨_, rfl⟩
  rw [← hr]
  have tn := normArc lo hi u
  have hx := norm_ok lo hi u
  generalize normB lo hi u = x at *
  refine pure_of_wp of84 (Nat.le_of_ble_eq_true rfl) ?_
  refine CallK.mk _ tn rfl ?_
  refine OptK.mk _ rfl ?_
  refine CallK.mk _ (bends1 l hl) rfl ?_
  by_cases hb : bendsErr l ≠ 0
  · have hn : r = none := by
      rw [hr]
      rcases x with _ | p
      · rfl
      · simp only [refB]; rw [if_pos hb]
    subst hn
    refine DecK.yes (bne_iff_ne.2 hb) ?_
    repeat' (refine DecK.tt ?_)
    ((refine CallK.mk _ noneArc rfl ?_); (refine OptK.mk _ rfl ?_); ((repeat' first | refine DecK.tt ?_ | refine DecK.ff ?_ | refine DecK.beq (fun _ => ?_) (fun _ => ?_) | refine DecK.bne (fun _ => ?_) (fun _ => ?_) | refine DecK.dec (fun _ => ?_) (fun _ => ?_) | refine OptK.mk _ rfl ?_ | refine endV (by rfl) ?_) <;> (try with_reducible rfl)))
    rfl
  have hb0 : bendsErr l = 0 := by simpa using hb
  refine DecK.no (by rw [hb0]; rfl) ?_
  rcases x with _ | ⟨lo, hi⟩
  · obtain rfl : r = none := hr
    refine DecK.yes rfl ?_
    repeat' (refine DecK.tt ?_)
    ((refine CallK.mk _ noneArc rfl ?_); (refine OptK.mk _ rfl ?_); ((repeat' first | refine DecK.tt ?_ | refine DecK.ff ?_ | refine DecK.beq (fun _ => ?_) (fun _ => ?_) | refine DecK.bne (fun _ => ?_) (fun _ => ?_) | refine DecK.dec (fun _ => ?_) (fun _ => ?_) | refine OptK.mk _ rfl ?_ | refine endV (by rfl) ?_) <;> (try with_reducible rfl)))
    rfl
  refine DecK.no rfl ?_
  simp only [refB] at hr
  rw [if_neg hb] at hr
  unfold bdOk bval at hx
  simp only at hx
  have hl64 : l.length ≤ 64 := by
    unfold bendsErr at hb0
    exact Classical.byContradiction fun k => by rw [if_pos (by omega)] at hb0; omega
  have hbn : bnd none l = 0 := by
    unfold bendsErr at hb0
    rw [if_neg (by omega)] at hb0
    exact hb0
  obtain ⟨he, hs⟩ := bnd_ok hbn
  cases hl0 : l with
  | nil =>
    subst hl0
    obtain rfl : r = none := hr
    refine DecK.yes rfl ?_
    repeat' (refine DecK.tt ?_)
    ((refine CallK.mk _ noneArc rfl ?_); (refine OptK.mk _ rfl ?_); ((repeat' first | refine DecK.tt ?_ | refine DecK.ff ?_ | refine DecK.beq (fun _ => ?_) (fun _ => ?_) | refine DecK.bne (fun _ => ?_) (fun _ => ?_) | refine DecK.dec (fun _ => ?_) (fun _ => ?_) | refine OptK.mk _ rfl ?_ | refine endV (by rfl) ?_) <;> (try with_reducible rfl)))
    rfl
  | cons x0 l' =>
  rw [← hl0]
  have hx0 : l[0]? = some x0 := by rw [hl0]; rfl
  have hpos : 0 < l.length := by rw [hl0]; simp
  refine DecK.no (decide_eq_false (by omega)) ?_
  refine OptK.mk _ (ria 0 rfl hpos) ?_
  refine OptK.mk _ (rfld bendz hx0 (off := 0) rfl) ?_
  by_cases c1 : lo < x0.1
  · have hneg : ∀ y ∈ l, lo < y.1 := fun y hy => by
        obtain ⟨j, hj⟩ := List.getElem?_of_mem hy
        cases j with
        | zero => rw [hx0] at hj; cases hj; exact c1
        | succ j => have := sorted_at hs (by omega : 0 < j + 1) hx0 hj; omega
    have hn : r = none := by rw [hr, if_pos (.inl (by rw [findI_none hneg]; decide))]
    subst hn
    refine DecK.yes (decide_eq_true c1) ?_
    repeat' (refine DecK.tt ?_)
    ((refine CallK.mk _ noneArc rfl ?_); (refine OptK.mk _ rfl ?_); ((repeat' first | refine DecK.tt ?_ | refine DecK.ff ?_ | refine DecK.beq (fun _ => ?_) (fun _ => ?_) | refine DecK.bne (fun _ => ?_) (fun _ => ?_) | refine DecK.dec (fun _ => ?_) (fun _ => ?_) | refine OptK.mk _ rfl ?_ | refine endV (by rfl) ?_) <;> (try with_reducible rfl)))
    rfl
  refine DecK.no (decide_eq_false c1) ?_
  obtain ⟨m, hm⟩ : ∃ m : Nat, l.length = m + 1 := ⟨l.length - 1, by omega⟩
  obtain ⟨xm, hxm, _, _, _⟩ := at_ex' (l := l) (k := m) (by omega)
  have wm : IntKind.i64.wrap ((l.length : Int) - 1) = (m : Int) := by rw [w64 (by omega)]; omega
  refine OptK.mk _ (ria m wm (by omega)) ?_
  refine OptK.mk _ (rfld bendz hxm (off := 0) rfl) ?_
  by_cases c2 : hi > xm.1
  · have hneg : ∀ y ∈ l, y.1 < hi := fun y hy => by
        obtain ⟨j, hj⟩ := List.getElem?_of_mem hy
        have hjl := (List.getElem?_eq_some_iff.1 hj).1
        by_cases hjm : j = m
        · subst hjm; rw [hxm] at hj; cases hj; omega
        · have := sorted_at hs (by omega : j < m) hj hxm; omega
    have hn : r = none := by rw [hr, if_pos (.inr (by rw [findK_none hneg]; decide))]
    subst hn
    refine DecK.yes (decide_eq_true c2) ?_
    ((refine CallK.mk _ noneArc rfl ?_); (refine OptK.mk _ rfl ?_); ((repeat' first | refine DecK.tt ?_ | refine DecK.ff ?_ | refine DecK.beq (fun _ => ?_) (fun _ => ?_) | refine DecK.bne (fun _ => ?_) (fun _ => ?_) | refine DecK.dec (fun _ => ?_) (fun _ => ?_) | refine OptK.mk _ rfl ?_ | refine endV (by rfl) ?_) <;> (try with_reducible rfl)))
    rfl
  refine DecK.no (decide_eq_false c2) ?_
  have later : ∀ {k : Nat} {y : BendT}, l[k]? = some y → lo < y.1 → ∀ z ∈ l.drop k, lo < z.1 := fun {k y} hy hlt z hz => by
    obtain ⟨j, hj⟩ := List.getElem?_of_mem hz
    rw [List.getElem?_drop] at hj
    cases j with
    | zero => rw [Nat.add_zero, hy] at hj; cases hj; exact hlt
    | succ j => have := sorted_at hs (by omega : k < k + (j + 1)) hy hj; omega
  have before : ∀ {k : Nat} {y : BendT}, l[k]? = some y → y.1 < hi → ∀ z ∈ l.take (k + 1), z.1 < hi := fun {k y} hy hlt z hz => by
    obtain ⟨j, hj⟩ := List.getElem?_of_mem hz
    rw [List.getElem?_take] at hj
    split at hj
    · by_cases e : j = k
      · subst e; rw [hy] at hj; cases hj; exact hlt
      · have := sorted_at hs (by omega : j < k) hj hy; omega
    · cases hj
  refine loop_eq (st' := ⟨[(0, .v (rowV bendC l)), (3, .ref 3 0), (4, .ref 4 0), (5, .v (.n .i64 ((0 : Nat) : Int))), (6, .v (.n .i64 m))], [(4, zero3), (3, encC (some (lo, hi)))]⟩) (by rw [wm] <;> rfl) ?_
  refine loop_left 0 (fun (i : Nat) tail => ⟨(0, .v (rowV bendC l)) :: (3, .ref 3 0) :: (4, .ref 4 0) :: (5, .v (.n .i64 i)) :: (6, .v (.n .i64 m)) :: tail, [(4, zero3), (3, encC (some (lo, hi)))]⟩)
    (fun i => ∃ x, l[i]? = some x ∧ x.1 ≤ lo ∧ ∀ y ∈ l.drop (i + 1), lo < y.1) ?_ ?_
  · refine loop_ind (fun (i : Nat) => ⟨[(0, .v (rowV bendC l)), (3, .ref 3 0), (4, .ref 4 0), (5, .v (.n .i64 i)), (6, .v (.n .i64 m))], [(4, zero3), (3, encC (some (lo, hi)))]⟩) (fun i => m - i) (fun i => i ≤ m ∧ ∃ x, l[i]? = some x ∧ x.1 ≤ lo) 0 ⟨by omega, x0, hx0, by omega⟩ ?_
    intro i ⟨h1, x, hx1, hx2⟩ ih
    refine DecK.dec (fun g => ?_) (fun g => ?_)
    · obtain ⟨y, hy, _, _, _⟩ := at_ex' (l := l) (k := i + 1) (by omega)
      have wi : IntKind.i64.wrap ((i : Int) + 1) = ((i + 1 : Nat) : Int) := w64 (by omega)
      refine OptK.mk _ (ria (i + 1) wi (by omega)) ?_
      refine OptK.mk _ (rfld bendz hy (off := 0) rfl) ?_
      refine DecK.dec (fun q => ?_) (fun q => ?_)
      · exact loop_eq (by rw [wi] <;> rfl) (ih (i + 1) ⟨by omega, y, hy, q⟩ (by omega))
      · have q' : ¬ y.1 ≤ lo := q
        exact .mk i _ rfl rfl ⟨x, hx1, hx2, later hy (by omega)⟩
    · refine DecK.ff ?_
      refine .mk i _ rfl rfl ⟨x, hx1, hx2, fun y hy => ?_⟩
      rw [List.drop_eq_nil_of_le (by omega)] at hy
      cases hy
  · intro f tail ⟨x, hx1, hx2, hx3⟩
    have hfl := (List.getElem?_eq_some_iff.1 hx1).1
    refine inBlk ?_
    refine loop_left 2 (fun (e : Nat × Bool) tail => ⟨[(0, .v (rowV bendC l)), (3, .ref 3 0), (4, .ref 4 0), (5, .v (.n .i64 f)), (6, .v (.n .i64 e.1)), (78, .v (.b e.2))], [(4, zero3), (3, encC (some (lo, hi)))]⟩)
      (fun e => f ≤ e.1 ∧ ∃ y, l[e.1]? = some y ∧ hi ≤ y.1 ∧ ∀ z ∈ l.take e.1, z.1 < hi) ?_ ?_
    · refine loop_ind (fun (k : Nat) => ⟨[(0, .v (rowV bendC l)), (3, .ref 3 0), (4, .ref 4 0), (5, .v (.n .i64 f)), (6, .v (.n .i64 k))], [(4, zero3), (3, encC (some (lo, hi)))]⟩) (fun k => k) (fun k => f ≤ k ∧ k ≤ m ∧ ∃ y, l[k]? = some y ∧ hi ≤ y.1) m ⟨by omega, by omega, xm, hxm, by omega⟩ ?_
      intro k ⟨h1, h2, y, hy1, hy2⟩ ih
      refine DecK.dec (fun g => ?_) (fun g => ?_)
      · obtain ⟨k, rfl⟩ : ∃ j, k = j + 1 := ⟨k - 1, by omega⟩
        obtain ⟨z, hz, _, _, _⟩ := at_ex' (l := l) (k := k) (by omega)
        have wk : IntKind.i64.wrap (((k + 1 : Nat) : Int) - 1) = (k : Int) := by rw [w64 (by omega)]; omega
        refine OptK.mk _ (ria k wk (by omega)) ?_
        refine OptK.mk _ (rfld bendz hz (off := 0) rfl) ?_
        refine DecK.dec (fun q => ?_) (fun q => ?_)
        · exact loop_eq (by rw [wk] <;> rfl) (ih k ⟨by omega, by omega, z, hz, q⟩ (by omega))
        · have q' : ¬ z.1 ≥ hi := q
          exact .mk (k + 1, _) [] rfl rfl ⟨h1, y, hy1, hy2, before hz (by omega)⟩
      · refine DecK.ff ?_
        obtain rfl : k = f := by omega
        refine .mk (k, _) [] rfl rfl ⟨by simp only; omega, y, hy1, hy2, fun z hz => ?_⟩
        obtain ⟨j, hj⟩ := List.getElem?_of_mem hz
        rw [List.getElem?_take] at hj
        split at hj
        · have := sorted_at hs (by omega : j < k) hj hx1; omega
        · cases hj
    · intro ⟨k, c⟩ tail ⟨hfk, y, hy1, hy2, hy3⟩
      simp only at hfk hy1 hy3
      have hkl := (List.getElem?_eq_some_iff.1 hy1).1
      refine inBlk ?_
      rw [findI_at hx1 hx2 hx3, findK_at (by decide) (by decide) hy1 hy2 hy3, if_neg (by omega), show ((0 : Int) + (f : Int)).toNat = f by omega, show ((0 : Int) + (k : Int)).toNat = k by omega] at hr
      simp only [hullS, hx1] at hr
      have wk : IntKind.i64.wrap ((k : Int) + 1) = ((k + 1 : Nat) : Int) := w64 (by omega)
      refine OptK.mk _ (ria f rfl hfl) ?_
      refine OptK.mk _ (rflds bendz hx1 (off := 1) (w := 3) (by decide)) ?_
      refine OptK.mk _ rfl ?_
      refine OptK.mk _ ((row_sl bendz (l := l) (i := (f : Int)) (j := IntKind.i64.wrap ((k : Int) + 1)) (by omega) (by omega) (by omega))) ?_
      rw [show ((f : Nat) : Int).toNat = f from rfl, show (IntKind.i64.wrap ((k : Int) + 1)).toNat = k + 1 by rw [wk]; rfl]
      have hsl0 : ((l.take (k + 1)).drop f).length ≤ 64 := by simp; omega
      have hse0 : ∀ z ∈ (l.take (k + 1)).drop f, bendE z = 0 := fun z hz => (he z (List.mem_of_mem_take (List.mem_of_mem_drop hz))).1
      generalize (l.take (k + 1)).drop f = s at *
      have hsl : s.length ≤ 64 := hsl0
      have hse : ∀ z ∈ s, bendE z = 0 := hse0
      refine loop_eq (st' := ⟨[(3, .ref 3 0), (4, .ref 4 0), (7, .ref 7 0), (90, .v (rowV bendC s)), (91, .v (.n .i64 s.length)), (92, .v (.n .i64 0))], [(7, encC (liftB x)), (4, zero3), (3, encC (some (lo, hi)))]⟩) (by rw [← show bdC x.2.1.1 x.2.1.2.1 x.2.1.2.2.1 = encC (liftB x) from bd_enc (he x (List.mem_of_getElem? hx1)).1] <;> rfl) ?_
      refine loop_left 4 (fun (e : Int × Bool) tail => ⟨[(3, .ref 3 0), (4, .ref 4 0), (7, .ref 7 0), (90, .v (rowV bendC s)), (91, .v (.n .i64 s.length)), (92, .v (.n .i64 e.1)), (93, .v (.b e.2))], [(7, encC (segF (liftB x) s)), (4, zero3), (3, encC (some (lo, hi)))]⟩) (fun _ => bdOk (segF (liftB x) s)) ?_ ?_
      · refine loop_ind2 (fun (H : Bd) (n : Int) => ⟨[(3, .ref 3 0), (4, .ref 4 0), (7, .ref 7 0), (90, .v (rowV bendC s)), (91, .v (.n .i64 s.length)), (92, .v (.n .i64 n))], [(7, encC H), (4, zero3), (3, encC (some (lo, hi)))]⟩) (fun H n => s.length - n.toNat) (fun H n => 0 ≤ n ∧ n ≤ s.length ∧ bdOk H ∧ segF H (s.drop n.toNat) = segF (liftB x) s) (liftB x) 0 ⟨by decide, by omega, norm_ok _ _ _, rfl⟩ ?_
        intro H nz ⟨k1, k2, k3, k4⟩ ih
        obtain ⟨n, rfl⟩ : ∃ n : Nat, nz = n := ⟨nz.toNat, by omega⟩
        simp only [Int.toNat_natCast] at k4
        refine DecK.dec (fun g => ?_) (fun g => ?_)
        · obtain ⟨z, hz, ez, mz, _⟩ := at_ex' (l := s) (k := n) (by omega)
          have wn : IntKind.i64.wrap ((n : Int) + 1) = ((n + 1 : Nat) : Int) := w64 (by omega)
          have th := hullArc (bLo H) (bHi H) (bUn H) z.2.1.1 z.2.1.2.1 z.2.1.2.2.1
          rw [norm_enc k3, show normB z.2.1.1 z.2.1.2.1 z.2.1.2.2.1 = liftB z from rfl] at th
          rw [ez, seg_cons] at k4
          refine OptK.mk _ (ria n rfl (by omega)) ?_
          refine OptK.mk _ (rld bendz hz) ?_
          refine OptK.mk _ rfl ?_
          refine CallK.mk _ th rfl ?_
          refine OptK.mk _ rfl ?_
          exact loop_eq (by rw [wn] <;> rfl) (ih (hullB H (liftB z)) ((n + 1 : Nat) : Int) ⟨by omega, by omega, hull_ok k3 (norm_ok _ _ _), by simpa using k4⟩ (by simp only [Int.toNat_natCast]; omega))
        · rw [List.drop_eq_nil_of_le (by omega)] at k4
          obtain rfl : H = segF (liftB x) s := k4
          exact .mk ((n : Int), decide ((n : Int) < s.length)) [] rfl rfl k3
      · intro ⟨n, c⟩ tail k3
        refine inBlk ?_
        have ta := addArc lo hi false (bLo (segF (liftB x) s)) (bHi (segF (liftB x) s)) (bUn (segF (liftB x) s))
        rw [norm_enc k3, show normB lo hi false = some (lo, hi) from mkB_some (by unfold bval; omega), ← hr] at ta
        refine CallK.mk _ ta rfl ?_
        refine OptK.mk _ rfl ?_
        ((repeat' first | refine DecK.tt ?_ | refine DecK.ff ?_ | refine DecK.beq (fun _ => ?_) (fun _ => ?_) | refine DecK.bne (fun _ => ?_) (fun _ => ?_) | refine DecK.dec (fun _ => ?_) (fun _ => ?_) | refine OptK.mk _ rfl ?_ | refine endV (by rfl) ?_) <;> (try with_reducible rfl))
        rfl
end Go.Proofs.Ytpggblmopgfloaa.Sv
