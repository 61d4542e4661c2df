/- FlagsText returns what the reference returns, for every int. No condition. -/
import Derived.Test.YtpeifbiboghceaaGen
import Derived.Test.YtpeifbiboghceaaQFnExactFlagsTextx1
namespace Go.Proofs.Ytpeifbiboghceaa.Pure
open Go.RowKit Go.Proofs.Ytpeifbiboghceaa.PFnExactFlagsText Go.Proofs.YtpeifbiboghceaaW.PrintWords Go.Proofs.YtpeifbiboghceaaW.PrintLast Go.Proofs.YtpeifbiboghceaaW.PrintMore Go.Proofs.Ytpeifbiboghceaa.Gen
set_option linter.unusedVariables false

theorem spec_l01In_ev (a b c : Int) : spec_l01In.f a b c = some (decide (b ≤ a ∧ a ≤ c)) := by
  unfold spec_l01In.f
  by_cases h : a ≥ b
  · rw [if_pos h]; congr 1; simp; omega
  · rw [if_neg h]; congr 1; simp; omega

theorem impl_within_ev (a b c : Int) : impl_within.f a b c = some (decide (b ≤ a ∧ a ≤ c)) := by
  unfold impl_within.f
  by_cases h : a ≥ b
  · rw [if_pos h]; congr 1; simp; omega
  · rw [if_neg h]; congr 1; simp; omega

theorem all32 : ∀ n : Fin 32, laws_FnExactFlagsText.f 10 (n.val : Int) = some true := by decide +kernel
theorem FnExactFlagsText : laws_FnExactFlagsText.Pure := by
  intro a _
  by_cases h : 0 ≤ a ∧ a ≤ 31
  · obtain ⟨n, rfl⟩ : ∃ n : Fin 32, a = (n.val : Int) := ⟨⟨a.toNat, by omega⟩, by show a = ((a.toNat : Nat) : Int); omega⟩
    exact ⟨10, all32 n⟩
  · have e1 : spec_FlagsOk.f a = some false := by unfold spec_FlagsOk.f; rw [spec_l01In_ev, decide_eq_false h]; rfl
    have e2 : impl_FlagsOk.f a = some false := by unfold impl_FlagsOk.f; rw [impl_within_ev, decide_eq_false h]; rfl
    refine ⟨0, ?_⟩
    unfold laws_FnExactFlagsText.f spec_FlagsText.f impl_FlagsText.f
    rw [e1, e2]
    show (if (⟨#[]⟩ : ByteArray).toList = (⟨#[]⟩ : ByteArray).toList then some true else some false) = some true
    rw [if_pos rfl]
end Go.Proofs.Ytpeifbiboghceaa.Pure
