/- Products, quotients and multiples of bounds of numbers of a type. No condition. -/
import Derived.Test.YtdceakejbnolpaaBmFix
namespace Go.Proofs.Ytdceakejbnolpaa.Sv
open Go Go.RowKit
set_option linter.unusedVariables false
set_option linter.unusedSimpArgs false
set_option maxRecDepth 100000

theorem mulC1Fix (x y u : Int) (hx : fits x) (hy : fits y) (hu : fits u) : Pure Try.prog 124 ([] ++ [.n .i64 x, .n .i64 y] ++ [.ip [.n .i64 u]]) (.tup (quoT u (x * y / u))) := by
  refine pure_of_wp of124 (Nat.le_of_ble_eq_true rfl) ?_
  have t := mulDiv_ok x y u hx hy hu
  obtain ⟨a, b, e⟩ := quoT_two u (x * y / u)
  rw [e] at t ⊢
  refine OptK.mk _ rfl ?_
  refine CallK.mk _ t rfl ?_
  ((repeat' first | refine DecK.tt ?_ | refine DecK.ff ?_ | refine DecK.beq (fun _ => ?_) (fun _ => ?_) | refine DecK.bne (fun _ => ?_) (fun _ => ?_) | refine DecK.dec (fun _ => ?_) (fun _ => ?_) | refine OptK.mk _ rfl ?_ | refine endV (by rfl) ?_) <;> (try with_reducible rfl))
theorem mulC2Fix (x y u : Int) (hx : fits x) (hy : fits y) (hu : fits u) : Pure Try.prog 126 ([] ++ [.n .i64 x, .n .i64 y] ++ [.ip [.n .i64 u]]) (.tup (upT u (x * y))) := by
  refine pure_of_wp of126 (Nat.le_of_ble_eq_true rfl) ?_
  have t := mulDivUp_ok x y u hx hy hu
  obtain ⟨a, b, e⟩ := upT_two u (x * y)
  rw [e] at t ⊢
  refine OptK.mk _ rfl ?_
  refine CallK.mk _ t rfl ?_
  ((repeat' first | refine DecK.tt ?_ | refine DecK.ff ?_ | refine DecK.beq (fun _ => ?_) (fun _ => ?_) | refine DecK.bne (fun _ => ?_) (fun _ => ?_) | refine DecK.dec (fun _ => ?_) (fun _ => ?_) | refine OptK.mk _ rfl ?_ | refine endV (by rfl) ?_) <;> (try with_reducible rfl))
theorem divC1Fix (x y u : Int) (hx : fits x) (hy : fits y) (hu : fits u) : Pure Try.prog 128 ([] ++ [.n .i64 x, .n .i64 y] ++ [.ip [.n .i64 u]]) (.tup (quoT y (x * u / y))) := by
  refine pure_of_wp of128 (Nat.le_of_ble_eq_true rfl) ?_
  have t := mulDiv_ok x u y hx hu hy
  obtain ⟨a, b, e⟩ := quoT_two y (x * u / y)
  rw [e] at t ⊢
  refine OptK.mk _ rfl ?_
  refine CallK.mk _ t rfl ?_
  ((repeat' first | refine DecK.tt ?_ | refine DecK.ff ?_ | refine DecK.beq (fun _ => ?_) (fun _ => ?_) | refine DecK.bne (fun _ => ?_) (fun _ => ?_) | refine DecK.dec (fun _ => ?_) (fun _ => ?_) | refine OptK.mk _ rfl ?_ | refine endV (by rfl) ?_) <;> (try with_reducible rfl))
theorem divC2Fix (x y u : Int) (hx : fits x) (hy : fits y) (hu : fits u) : Pure Try.prog 129 ([] ++ [.n .i64 x, .n .i64 y] ++ [.ip [.n .i64 u]]) (.tup (upT y (x * u))) := by
  refine pure_of_wp of129 (Nat.le_of_ble_eq_true rfl) ?_
  have t := mulDivUp_ok x u y hx hu hy
  obtain ⟨a, b, e⟩ := upT_two y (x * u)
  rw [e] at t ⊢
  refine OptK.mk _ rfl ?_
  refine CallK.mk _ t rfl ?_
  ((repeat' first | refine DecK.tt ?_ | refine DecK.ff ?_ | refine DecK.beq (fun _ => ?_) (fun _ => ?_) | refine DecK.bne (fun _ => ?_) (fun _ => ?_) | refine DecK.dec (fun _ => ?_) (fun _ => ?_) | refine OptK.mk _ rfl ?_ | refine endV (by rfl) ?_) <;> (try with_reducible rfl))
theorem mulFix (lo hi : Int) (u : Bool) (lo' hi' : Int) (u' : Bool) (unit : Int) (hu : fits unit) : Pure Try.prog 57 [bdV lo hi u, bdV lo' hi' u', .n .i64 unit] (encB (mulB unit (normB lo hi u) (normB lo' hi' u'))) := by
  refine pure_of_wp of57 (Nat.le_of_ble_eq_true rfl) ?_
  refine CallK.mk _ (vagueFix lo hi u lo' hi' u') rfl ?_
  rcases bd_cases lo hi u with ⟨h1, h2⟩ | ⟨h1, rfl, h3, h2⟩
  · rw [h1]
    repeat' first | (refine DecK.tt ?_) | (refine DecK.yes rfl ?_) | (refine CallK.mk _ noneFix rfl ?_) | refine DecK.tt ?_ | refine DecK.ff ?_ | refine DecK.beq (fun _ => ?_) (fun _ => ?_) | refine DecK.bne (fun _ => ?_) (fun _ => ?_) | refine DecK.dec (fun _ => ?_) (fun _ => ?_) | refine OptK.mk _ rfl ?_ | refine endV (by rfl) ?_
    rfl
  rcases bd_cases lo' hi' u' with ⟨g1, g2⟩ | ⟨g1, rfl, g3, g2⟩
  · rw [h1, g1]
    repeat' first | (refine DecK.tt ?_) | (refine DecK.yes rfl ?_) | (refine CallK.mk _ noneFix rfl ?_) | refine DecK.tt ?_ | refine DecK.ff ?_ | refine DecK.beq (fun _ => ?_) (fun _ => ?_) | refine DecK.bne (fun _ => ?_) (fun _ => ?_) | refine DecK.dec (fun _ => ?_) (fun _ => ?_) | refine OptK.mk _ rfl ?_ | refine endV (by rfl) ?_
    rfl
  rw [h1, g1]
  refine DecK.ff ?_
  refine DecK.dec (fun h => ?_) (fun h => ?_)
  · refine CallK.mk _ noneFix rfl ?_
    ((repeat' first | refine DecK.tt ?_ | refine DecK.ff ?_ | refine DecK.beq (fun _ => ?_) (fun _ => ?_) | refine DecK.bne (fun _ => ?_) (fun _ => ?_) | refine DecK.dec (fun _ => ?_) (fun _ => ?_) | refine OptK.mk _ rfl ?_ | refine endV (by rfl) ?_) <;> (try with_reducible rfl))
    rw [mulB, if_pos h]; rfl
  have e : mulB unit (some (lo, hi)) (some (lo', hi')) = cornF (fun a b => a * b) (fun _ _ => unit) lo hi lo' hi' := if_neg h
  rw [e]
  have fx : ∀ x, x = lo ∨ x = hi → fits x := fun x hx => by rcases hx with rfl | rfl; exact h3.f1.1; exact h3.f1.2
  have fy : ∀ x, x = lo' ∨ x = hi' → fits x := fun x hx => by rcases hx with rfl | rfl; exact g3.f1.1; exact g3.f1.2
  refine CallK.mk _ (cornersFix (fun a b => a * b) (fun _ _ => unit) lo hi false lo' hi' false _ _ _ _ (fun x y hx hy => by omega) (fun x y hx hy => mulC1Fix x y unit (fx x hx) (fy y hy) hu) (fun x y hx hy => mulC2Fix x y unit (fx x hx) (fy y hy) hu)) rfl ?_
  ((repeat' first | refine DecK.tt ?_ | refine DecK.ff ?_ | refine DecK.beq (fun _ => ?_) (fun _ => ?_) | refine DecK.bne (fun _ => ?_) (fun _ => ?_) | refine DecK.dec (fun _ => ?_) (fun _ => ?_) | refine OptK.mk _ rfl ?_ | refine endV (by rfl) ?_) <;> (try with_reducible rfl))
  rfl
theorem divFix (lo hi : Int) (u : Bool) (lo' hi' : Int) (u' : Bool) (unit : Int) (hu : fits unit) : Pure Try.prog 58 [bdV lo hi u, bdV lo' hi' u', .n .i64 unit] (encB (divB unit (normB lo hi u) (normB lo' hi' u'))) := by
  refine pure_of_wp of58 (Nat.le_of_ble_eq_true rfl) ?_
  refine CallK.mk _ (vagueFix lo hi u lo' hi' u') rfl ?_
  rcases bd_cases lo hi u with ⟨h1, h2⟩ | ⟨h1, rfl, h3, h2⟩
  · rw [h1]
    repeat' first | (refine DecK.tt ?_) | (refine DecK.yes rfl ?_) | (refine CallK.mk _ noneFix rfl ?_) | refine DecK.tt ?_ | refine DecK.ff ?_ | refine DecK.beq (fun _ => ?_) (fun _ => ?_) | refine DecK.bne (fun _ => ?_) (fun _ => ?_) | refine DecK.dec (fun _ => ?_) (fun _ => ?_) | refine OptK.mk _ rfl ?_ | refine endV (by rfl) ?_
    rfl
  rcases bd_cases lo' hi' u' with ⟨g1, g2⟩ | ⟨g1, rfl, g3, g2⟩
  · rw [h1, g1]
    repeat' first | (refine DecK.tt ?_) | (refine DecK.yes rfl ?_) | (refine CallK.mk _ noneFix rfl ?_) | refine DecK.tt ?_ | refine DecK.ff ?_ | refine DecK.beq (fun _ => ?_) (fun _ => ?_) | refine DecK.bne (fun _ => ?_) (fun _ => ?_) | refine DecK.dec (fun _ => ?_) (fun _ => ?_) | refine OptK.mk _ rfl ?_ | refine endV (by rfl) ?_
    rfl
  have hna := negFix lo hi false
  have hnb := negFix lo' hi' false
  rw [h1] at hna
  rw [g1] at hnb
  rw [h1, g1]
  have h3' := h3
  have g3' := g3
  unfold bval at h3' g3'
  refine DecK.ff ?_
  have stop : unit < 1 ∨ (lo' ≤ 0 ∧ 0 ≤ hi') → divB unit (some (lo, hi)) (some (lo', hi')) = none := fun h => if_pos h
  refine DecK.dec (fun h => ?_) (fun h => ?_)
  · rw [stop (.inl h)]
    repeat' first | (refine DecK.tt ?_) | (refine DecK.yes rfl ?_) | (refine CallK.mk _ noneFix rfl ?_) | refine DecK.tt ?_ | refine DecK.ff ?_ | refine DecK.beq (fun _ => ?_) (fun _ => ?_) | refine DecK.bne (fun _ => ?_) (fun _ => ?_) | refine DecK.dec (fun _ => ?_) (fun _ => ?_) | refine OptK.mk _ rfl ?_ | refine endV (by rfl) ?_
    rfl
  have go : ∀ R, R = divB unit (some (lo, hi)) (some (lo', hi')) → encB R = encB (divB unit (some (lo, hi)) (some (lo', hi'))) := fun R h => by rw [h]
  refine DecK.dec (fun hl => ?_) (fun hl => ?_)
  · refine DecK.dec (fun hh => ?_) (fun hh => ?_)
    · rw [stop (.inr ⟨hl, hh⟩)]
      refine CallK.mk _ noneFix rfl ?_
      ((repeat' first | refine DecK.tt ?_ | refine DecK.ff ?_ | refine DecK.beq (fun _ => ?_) (fun _ => ?_) | refine DecK.bne (fun _ => ?_) (fun _ => ?_) | refine DecK.dec (fun _ => ?_) (fun _ => ?_) | refine OptK.mk _ rfl ?_ | refine endV (by rfl) ?_) <;> (try with_reducible rfl))
      rfl
    · have e : divB unit (some (lo, hi)) (some (lo', hi')) = cornF (fun a _ => a * unit) (fun _ b => b) (-hi) (-lo) (-hi') (-lo') := by
        rw [divB, if_neg (by simp only; omega), if_pos (by simp only; omega)]
      rw [e]
      refine DecK.yes (decide_eq_true (by omega)) ?_
      refine CallK.mk _ hna rfl ?_
      refine CallK.mk _ hnb rfl ?_
      refine OptK.mk _ rfl ?_
      refine OptK.mk _ rfl ?_
      have fx : ∀ x, x = -hi ∨ x = -lo → fits x := fun x hx => by unfold fits; omega
      refine CallK.mk _ (cornersFix (fun a _ => a * unit) (fun _ b => b) (-hi) (-lo) false (-hi') (-lo') false _ _ _ _ (fun x y hx hy => by omega) (fun x y hx hy => divC1Fix x y unit (fx x hx) (by unfold fits; omega) hu) (fun x y hx hy => divC2Fix x y unit (fx x hx) (by unfold fits; omega) hu)) rfl ?_
      ((repeat' first | refine DecK.tt ?_ | refine DecK.ff ?_ | refine DecK.beq (fun _ => ?_) (fun _ => ?_) | refine DecK.bne (fun _ => ?_) (fun _ => ?_) | refine DecK.dec (fun _ => ?_) (fun _ => ?_) | refine OptK.mk _ rfl ?_ | refine endV (by rfl) ?_) <;> (try with_reducible rfl))
      rfl
  · have e : divB unit (some (lo, hi)) (some (lo', hi')) = cornF (fun a _ => a * unit) (fun _ b => b) lo hi lo' hi' := by
      rw [divB, if_neg (by simp only; omega), if_neg (by simp only; omega)]
    rw [e]
    refine DecK.ff ?_
    refine DecK.no (decide_eq_false (by omega)) ?_
    have fx : ∀ x, x = lo ∨ x = hi → fits x := fun x hx => by unfold fits; omega
    refine CallK.mk _ (cornersFix (fun a _ => a * unit) (fun _ b => b) lo hi false lo' hi' false _ _ _ _ (fun x y hx hy => by omega) (fun x y hx hy => divC1Fix x y unit (fx x hx) (by unfold fits; omega) hu) (fun x y hx hy => divC2Fix x y unit (fx x hx) (by unfold fits; omega) hu)) rfl ?_
    ((repeat' first | refine DecK.tt ?_ | refine DecK.ff ?_ | refine DecK.beq (fun _ => ?_) (fun _ => ?_) | refine DecK.bne (fun _ => ?_) (fun _ => ?_) | refine DecK.dec (fun _ => ?_) (fun _ => ?_) | refine OptK.mk _ rfl ?_ | refine endV (by rfl) ?_) <;> (try with_reducible rfl))
    rfl
theorem scaleFix (lo hi : Int) (u : Bool) (n d : Int) (hd : fits d) : Pure Try.prog 59 [bdV lo hi u, .n .i64 n, .n .i64 d] (encB (mulB d (normB lo hi u) (mkB n n))) := by
  refine pure_of_wp of59 (Nat.le_of_ble_eq_true rfl) ?_
  have hm := mulFix lo hi u (bLo (mkB n n)) (bHi (mkB n n)) (bUn (mkB n n)) d hd
  rw [norm_enc (mk_ok n n)] at hm
  refine CallK.mk _ (exactFix n) rfl ?_
  refine CallK.mk _ hm rfl ?_
  ((repeat' first | refine DecK.tt ?_ | refine DecK.ff ?_ | refine DecK.beq (fun _ => ?_) (fun _ => ?_) | refine DecK.bne (fun _ => ?_) (fun _ => ?_) | refine DecK.dec (fun _ => ?_) (fun _ => ?_) | refine OptK.mk _ rfl ?_ | refine endV (by rfl) ?_) <;> (try with_reducible rfl))
  rfl
theorem ratiosFix (ps : List (Int × Int)) (t1 t2 : Bool) (hl : ps.length ≤ 1000) (hp : ∀ p ∈ ps, zb 100 p.1 ∧ zb 100 p.2 ∧ p.2 ≠ 0) :
    Pure Try.prog 56 [.sl ps.length ((ps.map (·.1)).flatMap zC) t1, .sl ps.length ((ps.map (·.2)).flatMap zC) t2] (encB (ratB (ps.map fun p => quF p.1 p.2))) := by
  refine pure_of_wp of56 (Nat.le_of_ble_eq_true rfl) ?_
  refine loop_eq (st' := ⟨[(1, .v (.sl ps.length ((ps.map (·.2)).flatMap zC) t2)), (4, .ref 4 0), (5, .ref 5 0), (6, .ref 6 0), (12, .v (.sl ps.length ((ps.map (·.1)).flatMap zC) t1)), (13, .v (.n .i64 ps.length)), (14, .v (.n .i64 0))],
    [(6, zCt 0 true), (5, zCt 0 true), (4, [.n .i64 0, .n .i64 0, .b false])]⟩) (by rw [zCt_zero]) ?_
  refine loop_ind3 (fun (o : Option (Int × Int)) (i : Int) (tt : Bool) => ⟨[(1, .v (.sl ps.length ((ps.map (·.2)).flatMap zC) t2)), (4, .ref 4 0), (5, .ref 5 0), (6, .ref 6 0), (12, .v (.sl ps.length ((ps.map (·.1)).flatMap zC) t1)), (13, .v (.n .i64 ps.length)), (14, .v (.n .i64 i))],
    [(6, zCt (optP o).2 tt), (5, zCt (optP o).1 tt), (4, [.n .i64 0, .n .i64 0, .b false])]⟩) (fun o i tt => ps.length - i.toNat)
    (fun o i tt => 0 ≤ i ∧ i ≤ ps.length ∧ (i = 0 ↔ o = none) ∧ (o ≠ none → tt = false) ∧ zb 101 (optP o).1 ∧ zb 101 (optP o).2 ∧ ((ps.drop i.toNat).map fun p => quF p.1 p.2).foldl stepR o = (ps.map fun p => quF p.1 p.2).foldl stepR none) none 0 true ⟨by decide, by omega, by simp, by simp, zb_lit (by decide), zb_lit (by decide), rfl⟩ ?_
  intro o iz tt ⟨h1, h2, h3, htt, h4, h5, h6⟩ ih
  obtain ⟨i, rfl⟩ : ∃ i : Nat, iz = i := ⟨iz.toNat, by omega⟩
  simp only [Int.toNat_natCast] at h6
  refine DecK.dec (fun h => ?_) (fun h => ?_)
  · obtain ⟨p, hx, ex, mx⟩ := at_ex (l := ps) (k := i) (by omega)
    have wi : IntKind.i64.wrap ((i : Int) + 1) = ((i + 1 : Nat) : Int) := w64 (by omega)
    obtain ⟨z1, z2, z0⟩ := hp p mx
    rw [ex, List.map_cons, List.foldl_cons] at h6
    have hx1 : (ps.map (·.1))[i]? = some p.1 := by rw [List.getElem?_map, hx]; rfl
    have hx2 : (ps.map (·.2))[i]? = some p.2 := by rw [List.getElem?_map, hx]; rfl
    refine OptK.mk _ (ria i rfl (by omega)) ?_
    refine OptK.mk _ (rld zz2 hx1) ?_
    refine OptK.mk _ rfl ?_
    refine OptK.mk _ (ria i rfl (by omega)) ?_
    refine OptK.mk _ (rld zz2 hx2) ?_
    refine OptK.mk _ rfl ?_
    -- from here on with the quotient
    have fin : ∀ d u : Int, (d, u) = quF p.1 p.2 → zb 101 d ∧ zb 101 u := fun d u hq => by
      unfold quF at hq
      split at hq
      · cases hq
        exact ⟨(z1.neg.div (by omega)).mono (by decide), (z1.neg.cdiv (by omega)).mono (by decide)⟩
      · cases hq
        exact ⟨(z1.div (by omega)).mono (by decide), (z1.cdiv (by omega)).mono (by decide)⟩
    refine DecK.dec (fun hb => ?a) (fun hb => ?b)
    case' a =>
      refine CallK.mk _ (Minus_ok p.1 (z1.mono (by decide))) rfl ?_
      refine CallK.mk _ (Minus_ok p.2 (z2.mono (by decide))) rfl ?_
      refine OptK.mk _ rfl ?_
      refine OptK.mk _ rfl ?_
      refine CallK.mk _ (Floor_ok (-p.1) (-p.2) (z1.neg.mono (by decide)) (z2.neg.mono (by decide)) (by omega)) rfl ?_
      refine CallK.mk _ (Ceil_ok (-p.1) (-p.2) (z1.neg.mono (by decide)) (z2.neg.mono (by decide)) (by omega)) rfl ?_
      have hq : (-p.1 / -p.2, cdiv (-p.1) (-p.2)) = quF p.1 p.2 := by rw [quF, if_pos hb]
      generalize -p.1 / -p.2 = d at *
      generalize cdiv (-p.1) (-p.2) = u at *
    case' b =>
      refine CallK.mk _ (Floor_ok p.1 p.2 (z1.mono (by decide)) (z2.mono (by decide)) z0) rfl ?_
      refine CallK.mk _ (Ceil_ok p.1 p.2 (z1.mono (by decide)) (z2.mono (by decide)) (by omega)) rfl ?_
      have hq : (p.1 / p.2, cdiv p.1 p.2) = quF p.1 p.2 := by rw [quF, if_neg hb]
      generalize p.1 / p.2 = d at *
      generalize cdiv p.1 p.2 = u at *
    all_goals
      obtain ⟨zd, zu⟩ := fin d u hq
      rw [← hq] at h6
      refine OptK.mk _ rfl ?_
      refine OptK.mk _ rfl ?_
      refine DecK.beq (fun h0 => ?_) (fun h0 => ?_)
      · have ho := h3.1 h0
        subst ho
        refine DecK.tt ?_
        refine OptK.mk _ rfl ?_
        refine DecK.yes (by simpa using h0) ?_
        refine DecK.tt ?_
        refine OptK.mk _ rfl ?_
        refine loop_eq (by rw [wi]; rfl) (ih (some (d, u)) ((i + 1 : Nat) : Int) false ⟨by omega, by omega, (by constructor <;> intro h <;> first | omega | (cases h)), fun _ => rfl, zd, zu, h6⟩ (by simp only [Int.toNat_natCast]; omega))
      · rcases o with _ | ⟨l, m⟩
        · exact absurd (h3.2 rfl) h0
        obtain rfl := htt (by simp)
        refine CallK.mk _ (Cmp_ok d l (zd.mono (by decide)) (h4.mono (by decide))) rfl ?_
        have hi1 : ((i + 1 : Nat) : Int) = 0 ↔ some (min l d, max m u) = none := by constructor <;> intro h <;> first | omega | cases h
        have zmin : zb 101 (min l d) := by rcases min_or l d with e | e <;> rw [e]; exact h4; exact zd
        have zmax : zb 101 (max m u) := by rcases max_or m u with e | e <;> rw [e]; exact h5; exact zu
        refine DecK.dec (fun g => ?_) (fun g => ?_)
        · have g : d < l := by unfold icmp at g; split at g <;> (try split at g) <;> omega
          refine OptK.mk _ rfl ?_
          refine DecK.no (by simpa using h0) ?_
          refine CallK.mk _ (Cmp_ok u m (zu.mono (by decide)) (h5.mono (by decide))) rfl ?_
          refine DecK.dec (fun g' => ?_) (fun g' => ?_)
          · have g' : m < u := by unfold icmp at g'; split at g' <;> (try split at g') <;> omega
            refine OptK.mk _ rfl ?_
            refine loop_eq ?_ (ih (some (min l d, max m u)) ((i + 1 : Nat) : Int) false ⟨by omega, by omega, hi1, fun _ => rfl, zmin, zmax, h6⟩ (by simp only [Int.toNat_natCast]; omega))
            rw [wi, show min l d = d by omega, show max m u = u by omega]; rfl
          · have g' : u ≤ m := by unfold icmp at g'; split at g' <;> (try split at g') <;> omega
            refine loop_eq ?_ (ih (some (min l d, max m u)) ((i + 1 : Nat) : Int) false ⟨by omega, by omega, hi1, fun _ => rfl, zmin, zmax, h6⟩ (by simp only [Int.toNat_natCast]; omega))
            rw [wi, show min l d = d by omega, show max m u = m by omega]; rfl
        · have g : l ≤ d := by unfold icmp at g; split at g <;> (try split at g) <;> omega
          refine DecK.no (by simpa using h0) ?_
          refine CallK.mk _ (Cmp_ok u m (zu.mono (by decide)) (h5.mono (by decide))) rfl ?_
          refine DecK.dec (fun g' => ?_) (fun g' => ?_)
          · have g' : m < u := by unfold icmp at g'; split at g' <;> (try split at g') <;> omega
            refine OptK.mk _ rfl ?_
            refine loop_eq ?_ (ih (some (min l d, max m u)) ((i + 1 : Nat) : Int) false ⟨by omega, by omega, hi1, fun _ => rfl, zmin, zmax, h6⟩ (by simp only [Int.toNat_natCast]; omega))
            rw [wi, show min l d = l by omega, show max m u = u by omega]; rfl
          · have g' : u ≤ m := by unfold icmp at g'; split at g' <;> (try split at g') <;> omega
            refine loop_eq ?_ (ih (some (min l d, max m u)) ((i + 1 : Nat) : Int) false ⟨by omega, by omega, hi1, fun _ => rfl, zmin, zmax, h6⟩ (by simp only [Int.toNat_natCast]; omega))
            rw [wi, show min l d = l by omega, show max m u = m by omega]
  · rw [List.drop_eq_nil_of_le (by omega)] at h6
    simp only [List.map_nil, List.foldl_nil] at h6
    refine CallK.mk _ (.of (.cons zT (.cons zT .nil)) (boundedFix (optP o).1 (optP o).2 (h4.mono (by decide)) (h5.mono (by decide)))) rfl ?_
    ((repeat' first | refine DecK.tt ?_ | refine DecK.ff ?_ | refine DecK.beq (fun _ => ?_) (fun _ => ?_) | refine DecK.bne (fun _ => ?_) (fun _ => ?_) | refine DecK.dec (fun _ => ?_) (fun _ => ?_) | refine OptK.mk _ rfl ?_ | refine endV (by rfl) ?_) <;> (try with_reducible rfl))
    rw [ratB, ← h6]
    rfl
end Go.Proofs.Ytdceakejbnolpaa.Sv
