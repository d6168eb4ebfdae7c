/- Polynomials with rational coefficients: bounds, steps, places seen from another place. No condition. -/
import Derived.Test.YtciigfeecmnghaaRRRRGreatRRWc
namespace Go.Proofs.YtciigfeecmnghaaRRRRGreatRR.Sv
set_option linter.unusedVariables false
set_option linter.unusedSimpArgs false
set_option maxRecDepth 100000

/-- The absolute value. -/
def ab (c : Rat) : Rat := if 0 ≤ c then c else -c
theorem ab_le (c : Rat) : -ab c ≤ c ∧ c ≤ ab c ∧ 0 ≤ ab c := by unfold ab; split <;> grind
/-- Products of what lies around 0. -/
theorem mul_ab {x e R B : Rat} (hx : -R ≤ x ∧ x ≤ R) (he : -B ≤ e ∧ e ≤ B) : -(R * B) ≤ x * e ∧ x * e ≤ R * B := by
  have h1 := Rat.mul_nonneg (show 0 ≤ R - x by grind) (show 0 ≤ B + e by grind)
  have h2 := Rat.mul_nonneg (show 0 ≤ R + x by grind) (show 0 ≤ B - e by grind)
  have h3 := Rat.mul_nonneg (show 0 ≤ R - x by grind) (show 0 ≤ B - e by grind)
  have h4 := Rat.mul_nonneg (show 0 ≤ R + x by grind) (show 0 ≤ B + e by grind)
  constructor <;> grind
/-- A polynomial's value. -/
def ev : List Rat → Rat → Rat
  | [], _ => 0
  | c :: p, x => c + x * ev p x
def bnd : List Rat → Rat → Rat
  | [], _ => 0
  | c :: p, R => ab c + R * bnd p R
def lip : List Rat → Rat → Rat
  | [], _ => 0
  | c :: p, R => bnd p R + R * lip p R
theorem ev_bnd {x R : Rat} (hx : -R ≤ x ∧ x ≤ R) : ∀ p : List Rat, -bnd p R ≤ ev p x ∧ ev p x ≤ bnd p R
  | [] => by simp [ev, bnd]
  | c :: p => by
    have h := mul_ab hx (ev_bnd hx p)
    have := ab_le c
    simp only [ev, bnd]
    constructor <;> grind
theorem ev_lip {a b d R : Rat} (ha : -R ≤ a ∧ a ≤ R) (hb : -R ≤ b ∧ b ≤ R) (hd : -d ≤ a - b ∧ a - b ≤ d) : ∀ p : List Rat, -(d * lip p R) ≤ ev p a - ev p b ∧ ev p a - ev p b ≤ d * lip p R
  | [] => by simp only [ev, lip]; constructor <;> grind
  | c :: p => by
    have h1 := mul_ab hd (ev_bnd ha p)
    have h2 := mul_ab hb (ev_lip ha hb hd p)
    simp only [ev, lip]
    constructor <;> grind
def addP : List Rat → List Rat → List Rat
  | [], q => q
  | p, [] => p
  | a :: p, b :: q => (a + b) :: addP p q
def scaP (s : Rat) (p : List Rat) : List Rat := p.map (s * ·)
def subP (p q : List Rat) : List Rat := addP p (scaP (-1) q)
theorem ev_add (x : Rat) : ∀ p q : List Rat, ev (addP p q) x = ev p x + ev q x
  | [], q => by simp only [addP, ev]; grind
  | a :: p, [] => by simp only [addP, ev]; grind
  | a :: p, b :: q => by simp only [addP, ev, ev_add x p q]; grind
theorem ev_sca (s x : Rat) : ∀ p : List Rat, ev (scaP s p) x = s * ev p x
  | [] => by simp only [scaP, List.map_nil, ev]; grind
  | a :: p => by
    have := ev_sca s x p
    unfold scaP at this
    simp only [scaP, List.map_cons, ev, this]; grind
theorem ev_sub (x : Rat) (p q : List Rat) : ev (subP p q) x = ev p x - ev q x := by rw [subP, ev_add, ev_sca]; grind
/-- The polynomial of P - y. -/
def compP (P : Rat) : List Rat → List Rat
  | [] => []
  | c :: p => addP [c] (subP (scaP P (compP P p)) (0 :: compP P p))
theorem ev_comp (P y : Rat) : ∀ p : List Rat, ev (compP P p) y = ev p (P - y)
  | [] => rfl
  | c :: p => by simp only [compP, ev_add, ev_sub, ev_sca, ev, ev_comp P y p]; grind
theorem ev_near {x R E : Rat} {p q : List Rat} (hx : -R ≤ x ∧ x ≤ R) (h : bnd (subP p q) R ≤ E) : -E ≤ ev p x - ev q x ∧ ev p x - ev q x ≤ E := by
  have := ev_bnd hx (subP p q)
  rw [ev_sub] at this
  constructor <;> grind
/-- The sine's series up to the power 23, the cosine's up to 14, the sine's up to 13. -/
def fac : Nat → Nat
  | 0 => 1
  | n + 1 => (n + 1) * fac n
def sinL : Nat → Nat → List Rat
  | 0, _ => []
  | n + 1, k => 0 :: (if k % 4 = 1 then 1 else -1 : Rat) / (fac k : Rat) :: sinL n (k + 2)
def cosL : Nat → Nat → List Rat
  | 0, _ => []
  | n + 1, k => (if k % 4 = 0 then 1 else -1 : Rat) / (fac k : Rat) :: 0 :: cosL n (k + 2)
end Go.Proofs.YtciigfeecmnghaaRRRRGreatRR.Sv
