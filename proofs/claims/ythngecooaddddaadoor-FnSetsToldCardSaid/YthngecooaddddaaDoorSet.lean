/- Sets of numbers as lists of pairs: what is right, what they have, how many. -/
import Derived.Test.YthngecooaddddaaDoorGen
namespace Go.Proofs.YthngecooaddddaaDoor.Gen
open Go.RowKit

/-- right, behind a bound that the next one's low end must pass -/
def okL : Int → List (Int × Int) → Bool
  | _, [] => true
  | b, p :: l => decide (b < p.1 ∧ 1 ≤ p.1 ∧ p.1 ≤ p.2 ∧ p.2 ≤ 9999) && okL (p.2 + 1) l
def setOkB (l : List (Int × Int)) : Bool := okL 0 l && decide ((l.length : Int) ≤ 40)
def hasL (l : List (Int × Int)) (n : Int) : Bool := l.any fun p => decide (p.1 ≤ n ∧ n ≤ p.2)
def sizeL (l : List (Int × Int)) : Int := (l.map fun p => p.2 - p.1 + 1).sum
theorem okL_cons {b : Int} {p : Int × Int} {l : List (Int × Int)} (h : okL b (p :: l) = true) : (b < p.1 ∧ 1 ≤ p.1 ∧ p.1 ≤ p.2 ∧ p.2 ≤ 9999) ∧ okL (p.2 + 1) l = true := by
  simp only [okL, Bool.and_eq_true, decide_eq_true_eq] at h
  exact h
theorem okL_mem : ∀ {l : List (Int × Int)} {b : Int}, okL b l = true → ∀ p ∈ l, 1 ≤ p.1 ∧ p.1 ≤ p.2 ∧ p.2 ≤ 9999
  | [], _, _, p, hp => by cases hp
  | q :: l, b, h, p, hp => by
    obtain ⟨h1, h2⟩ := okL_cons h
    rcases List.mem_cons.1 hp with rfl | hp
    · exact h1.2
    · exact okL_mem h2 p hp
theorem sizeL_range : ∀ {l : List (Int × Int)}, (∀ p ∈ l, 1 ≤ p.1 ∧ p.1 ≤ p.2 ∧ p.2 ≤ 9999) → 0 ≤ sizeL l ∧ sizeL l ≤ 9999 * l.length
  | [], _ => by simp [sizeL]
  | q :: l, h => by
    have h1 := h q (by simp)
    have h2 := sizeL_range (l := l) (fun p hp => h p (by simp [hp]))
    simp only [sizeL, List.map_cons, List.sum_cons, List.length_cons] at h2 ⊢
    omega
end Go.Proofs.YthngecooaddddaaDoor.Gen
