/- FlagsAfter returns what the reference returns, for every three ints. No condition. -/
import Derived.Test.YtflmjokjheddiaaGen
import Derived.Test.YtflmjokjheddiaaPFnExactFlagsAfterx1
namespace Go.Proofs.Ytflmjokjheddiaa.Pure
open Go.RowKit Go.Proofs.Ytflmjokjheddiaa.PFnExactFlagsAfter Go.Proofs.YtflmjokjheddiaaW.PrintWords Go.Proofs.YtflmjokjheddiaaW.PrintLast Go.Proofs.Ytflmjokjheddiaa.Gen
set_option linter.unusedVariables false

theorem spec_l01In_ev (a b c : Int) : spec_l01In.f a b c = some (decide (b ≤ a ∧ a ≤ c)) := by
  unfold spec_l01In.f
  by_cases h : a ≥ b
  · rw [if_pos h]; congr 1; simp; omega
  · rw [if_neg h]; congr 1; simp; omega

theorem impl_within_ev (a b c : Int) : impl_within.f a b c = some (decide (b ≤ a ∧ a ≤ c)) := by
  unfold impl_within.f
  by_cases h : a ≥ b
  · rw [if_pos h]; congr 1; simp; omega
  · rw [if_neg h]; congr 1; simp; omega

theorem spec_FlagsOk_ev (a : Int) : spec_FlagsOk.f a = some (decide (0 ≤ a ∧ a ≤ 31)) := by unfold spec_FlagsOk.f; rw [spec_l01In_ev]; rfl
theorem impl_FlagsOk_ev (a : Int) : impl_FlagsOk.f a = some (decide (0 ≤ a ∧ a ≤ 31)) := by unfold impl_FlagsOk.f; rw [impl_within_ev]; rfl

theorem and_fin : ∀ a b : Fin 32, spec_l06And.f 7 ((a.val : Nat) : Int) ((b.val : Nat) : Int) = some ((a.val &&& b.val : Nat) : Int) := by decide +kernel
theorem or_fin : ∀ a b : Fin 32, Go.bits .or .i64 ((a.val : Nat) : Int) ((b.val : Nat) : Int) = ((a.val ||| b.val : Nat) : Int) ∧ Go.bits .andNot .i64 ((a.val : Nat) : Int) ((b.val : Nat) : Int) = ((a.val - (a.val &&& b.val) : Nat) : Int)
    ∧ a.val + b.val = (a.val ||| b.val) + (a.val &&& b.val) ∧ (a.val &&& b.val) ≤ a.val ∧ (a.val ||| b.val) < 32 := by decide +kernel
/-- what FlagsAfter tells -/
def flagsOut (a how b : Int) : Int :=
  if (0 ≤ a ∧ a ≤ 31) ∧ (0 ≤ b ∧ b ≤ 31) then
    if how = 1 then b else if how = 2 then ((a.toNat ||| b.toNat : Nat) : Int) else if how = 3 then ((a.toNat - (a.toNat &&& b.toNat) : Nat) : Int) else a
  else a
theorem spec_l06And_ev (a b : Nat) (ha : a < 32) (hb : b < 32) : Ev (fun k => spec_l06And.f k (a : Int) (b : Int)) ((a &&& b : Nat) : Int) :=
  Ev.of (fun k => spec_l06And.mono _ _ k) (and_fin ⟨a, ha⟩ ⟨b, hb⟩)
theorem spec_FlagsAfter_ev (a how b : Int) : Ev (fun k => spec_FlagsAfter.f k a how b) (flagsOut a how b) := by
  unfold spec_FlagsAfter.f flagsOut
  rw [spec_FlagsOk_ev a, spec_FlagsOk_ev b]
  simp only [Option.bind_some, decide_eq_true_eq]
  refine Ev.ite (fun h => ?_) (fun h => ?_)
  · refine Ev.step (spec_FlagsAfter.j0.eq_2 a how b _) ?_
    refine Ev.ite (fun h2 => ?_) (fun h2 => ?_)
    · rw [if_neg (show ¬ ((0 ≤ a ∧ a ≤ 31) ∧ (0 ≤ b ∧ b ≤ 31)) from fun hh => by simp [hh.2] at h2)]; exact Ev.now _
    · have hb : 0 ≤ b ∧ b ≤ 31 := by simpa using h2
      rw [if_pos (show ((0 ≤ a ∧ a ≤ 31) ∧ (0 ≤ b ∧ b ≤ 31)) from ⟨h, hb⟩)]
      obtain ⟨n, rfl⟩ := Int.eq_ofNat_of_zero_le h.1
      obtain ⟨m, rfl⟩ := Int.eq_ofNat_of_zero_le hb.1
      obtain ⟨-, -, e3, e4, e5⟩ := or_fin ⟨n, by omega⟩ ⟨m, by omega⟩
      simp only at e3 e4 e5
      have ea := spec_l06And_ev n m (by omega) (by omega)
      simp only [Int.toNat_natCast]
      refine Ev.ite (fun h3 => ?_) (fun h3 => ?_)
      · rw [if_pos h3]; exact Ev.now _
      rw [if_neg h3]
      refine Ev.ite (fun h4 => ?_) (fun h4 => ?_)
      · rw [if_pos h4]
        refine Ev.bind ea (Ev.const ?_)
        rw [w64 (x := (n : Int) + m) (by omega) (by omega), w64 (by omega) (by omega)]
        congr 1; omega
      rw [if_neg h4]
      refine Ev.ite (fun h5 => ?_) (fun h5 => ?_)
      · rw [if_pos h5]
        refine Ev.bind ea (Ev.const ?_)
        rw [w64 (by omega) (by omega)]
        congr 1; omega
      · rw [if_neg h5]; exact Ev.now _
  · refine Ev.step (spec_FlagsAfter.j0.eq_2 a how b _) ?_
    rw [if_neg (show ¬ ((0 ≤ a ∧ a ≤ 31) ∧ (0 ≤ b ∧ b ≤ 31)) from fun hh => h hh.1)]
    exact Ev.yes rfl (Ev.now _)
theorem impl_FlagsAfter_ev (a how b : Int) : Ev (fun k => impl_FlagsAfter.f k a how b) (flagsOut a how b) := by
  unfold impl_FlagsAfter.f flagsOut
  rw [impl_FlagsOk_ev a, impl_FlagsOk_ev b]
  simp only [Option.bind_some, decide_eq_true_eq]
  refine Ev.ite (fun h => ?_) (fun h => ?_)
  · refine Ev.step (impl_FlagsAfter.j0.eq_2 a how b _) ?_
    refine Ev.ite (fun h2 => ?_) (fun h2 => ?_)
    · rw [if_neg (show ¬ ((0 ≤ a ∧ a ≤ 31) ∧ (0 ≤ b ∧ b ≤ 31)) from fun hh => by simp [hh.2] at h2)]; exact Ev.now _
    · have hb : 0 ≤ b ∧ b ≤ 31 := by simpa using h2
      rw [if_pos (show ((0 ≤ a ∧ a ≤ 31) ∧ (0 ≤ b ∧ b ≤ 31)) from ⟨h, hb⟩)]
      obtain ⟨n, rfl⟩ := Int.eq_ofNat_of_zero_le h.1
      obtain ⟨m, rfl⟩ := Int.eq_ofNat_of_zero_le hb.1
      obtain ⟨e1, e2, -, -, -⟩ := or_fin ⟨n, by omega⟩ ⟨m, by omega⟩
      simp only at e1 e2
      simp only [Int.toNat_natCast]
      refine Ev.ite (fun h3 => ?_) (fun h3 => ?_)
      · rw [if_pos h3]; exact Ev.now _
      rw [if_neg h3]
      refine Ev.ite (fun h4 => ?_) (fun h4 => ?_)
      · rw [if_pos h4, e1]; exact Ev.now _
      rw [if_neg h4]
      refine Ev.ite (fun h5 => ?_) (fun h5 => ?_)
      · rw [if_pos h5, e2]; exact Ev.now _
      · rw [if_neg h5]; exact Ev.now _
  · refine Ev.step (impl_FlagsAfter.j0.eq_2 a how b _) ?_
    rw [if_neg (show ¬ ((0 ≤ a ∧ a ≤ 31) ∧ (0 ≤ b ∧ b ≤ 31)) from fun hh => h hh.1)]
    exact Ev.yes rfl (Ev.now _)

theorem FnExactFlagsAfter : laws_FnExactFlagsAfter.Pure := by
  intro a how b _ _ _
  apply Ev.rounds
  unfold laws_FnExactFlagsAfter.f
  refine Ev.bind (spec_FlagsAfter_ev a how b) ?_
  refine Ev.bind (impl_FlagsAfter_ev a how b) ?_
  exact Ev.yes rfl (Ev.now _)

end Go.Proofs.Ytflmjokjheddiaa.Pure
