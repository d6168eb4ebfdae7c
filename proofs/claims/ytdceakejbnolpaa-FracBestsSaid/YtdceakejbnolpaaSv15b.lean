/- An object that nobody writes any more turns into values by themselves. No condition. -/
import Derived.Test.YtdceakejbnolpaaSv15
namespace Go.Proofs.Ytdceakejbnolpaa.Sv
open Go Go.RowKit
set_option linter.unusedVariables false
set_option linter.unusedSimpArgs false

def freezeD (objs : List (Nat × List V)) (k : Nat) (d : D) : D := match d.ment k with
  | true => match snapV objs d with
    | some v => .v v
    | none => .dead
  | false => d
def St.freeze (k : Nat) (st : St) : St := ⟨st.ρ.map fun x => (x.1, freezeD st.objs k x.2), rid st.objs k⟩
section
variable {P : Program} {w w0 w' : World} {U E : Nat → Prop} {nt : Nat} {st st' : St} {a : Act} {η : Eta} {ok : Nat → Prop}
theorem look_map {f : D → D} : ∀ (ρ : List (Nat × D)) (t : Nat), look (ρ.map fun x => (x.1, f x.2)) t = (look ρ t).map f
  | [], t => rfl
  | (k, d) :: ρ, t => by
    simp only [List.map_cons, look]
    split
    · rfl
    · exact look_map ρ t
theorem Rel.freeze (h : Rel w0 U E nt st a w η) (k : Nat) : Rel w0 U E nt (st.freeze k) a w η := by
  have hd := h.drop k
  refine ⟨hd.size, hd.defers, hd.keeps, hd.uold, fun t d ht => ?_, hd.objs, hd.lies, hd.inj⟩
  simp only [St.freeze] at ht ⊢
  rw [look_map, Option.map_eq_some_iff] at ht
  obtain ⟨e, he, rfl⟩ := ht
  have hs := h.slots t e he
  refine ⟨hs.1, ?_⟩
  unfold freezeD
  cases hm : e.ment k with
  | false =>
    have := (hd.slots t (killD k e) (by simp only; rw [look_killR, he]; rfl)).2
    unfold killD at this
    rw [hm] at this
    simpa using this
  | true =>
    simp only
    cases hv : snapV st.objs e with
    | none => exact .dead _
    | some v =>
      have hok : ∀ b, Ok U st.objs η w b → Ok U (rid st.objs k) η w b := fun b hb => ⟨hb.1, hb.2.1, fun s' cs' o' h1 h2 => by
        rw [look_rid] at h1
        split at h1
        · cases h1
        · exact hb.2.2 _ _ _ h1 h2⟩
      refine .v _ _ (snap_rep' h hok (fun s cs b o hms h1 h2 => ?_) hs.2 hv)
      have hsk : s = k := by
        cases e with
        | v => cases hm
        | dead => cases hm
        | ref s' off => simp [D.ment] at hm hms; omega
        | own s' z off l => simp [D.ment] at hm hms; omega
      subst hsk
      obtain ⟨h3, h4⟩ := h.lies s cs b o h1 h2
      refine ⟨h4, fun hu => ?_, fun s' cs' o' g1 g2 => ?_⟩
      · have hU := h.uold b hu
        rcases h3 with h3 | h3
        · have := hU.1; omega
        · exact hU.2 h3
      · rw [look_rid] at g1
        split at g1
        · cases g1
        · rename_i hne
          exact hne (h.inj _ _ _ _ _ _ _ g1 h1 g2 h2)
theorem RelX.freeze (k : Nat) (h : RelX w0 U E nt st a w) : RelX w0 U E nt (st.freeze k) a w := let ⟨η, h⟩ := h; ⟨η, h.freeze k⟩
def St.freezeL (ks : List Nat) (st : St) : St := ks.foldl (fun st k => st.freeze k) st
theorem RelX.freezeL : ∀ (ks : List Nat) {st : St}, RelX w0 U E nt st a w → RelX w0 U E nt (st.freezeL ks) a w
  | [], _, h => h
  | k :: ks, _, h => RelX.freezeL ks (h.freeze k)
end
end Go.Proofs.Ytdceakejbnolpaa.Sv
