/- PartOf returns what the reference returns, for every text and every two ints. No condition. -/
import Derived.Test.YtflmjokjheddiaaGen
import Derived.Test.YtflmjokjheddiaaPFnExactPartOfx1
namespace Go.Proofs.Ytflmjokjheddiaa.Pure
open Go.RowKit Go.Proofs.Ytflmjokjheddiaa.PFnExactPartOf Go.Proofs.YtflmjokjheddiaaW.PrintWords Go.Proofs.YtflmjokjheddiaaW.PrintLast Go.Proofs.YtflmjokjheddiaaW.PrintMore Go.Proofs.Ytflmjokjheddiaa.Gen
set_option linter.unusedVariables false

theorem impl_within_ev (a b c : Int) : impl_within.f a b c = some (decide (b ≤ a ∧ a ≤ c)) := by
  unfold impl_within.f
  by_cases h : a ≥ b
  · rw [if_pos h]; congr 1; simp; omega
  · rw [if_neg h]; congr 1; simp; omega

/-- what PartOf tells -/
def partOut (s : ByteArray) (a b : Int) : ByteArray :=
  if (0 ≤ a ∧ a ≤ (s.size : Int)) ∧ 0 ≤ b then s.extract a.toNat (a + (if b > (s.size : Int) - a then (s.size : Int) - a else b)).toNat else ⟨#[]⟩
theorem impl_PartOf_ev (s : ByteArray) (a b : Int) (hs : s.size ≤ 140737488351232) : impl_PartOf.f s a b = some (partOut s a b) := by
  unfold impl_PartOf.f partOut
  rw [impl_within_ev]
  simp only [Option.bind_some, decide_eq_true_eq]
  by_cases h : 0 ≤ a ∧ a ≤ (s.size : Int)
  · rw [if_pos h]
    by_cases hb : b < 0
    · rw [if_pos hb, if_neg (show ¬ ((0 ≤ a ∧ a ≤ (s.size : Int)) ∧ 0 ≤ b) by omega)]
    · rw [if_neg hb, if_pos (show (0 ≤ a ∧ a ≤ (s.size : Int)) ∧ 0 ≤ b from ⟨h, by omega⟩), w64 (x := (s.size : Int) - a) (by omega) (by omega)]
      have e : mn b ((s.size : Int) - a) = (if b > (s.size : Int) - a then (s.size : Int) - a else b) := rfl
      rw [e]
      by_cases hc : b > (s.size : Int) - a
      · simp only [if_pos hc]
        rw [w64 (by omega) (by omega), if_pos h.1, if_pos (by omega), if_pos (by omega)]
      · simp only [if_neg hc]
        rw [w64 (by omega) (by omega), if_pos h.1, if_pos (by omega), if_pos (by omega)]
  · rw [if_neg h, if_neg (show ¬ ((0 ≤ a ∧ a ≤ (s.size : Int)) ∧ 0 ≤ b) by omega)]
theorem spec_PartOf_ev (s : ByteArray) (a b : Int) (hs : s.size ≤ 140737488351232) (hb0 : -9223372036854775808 ≤ b ∧ b ≤ 9223372036854775807) : spec_PartOf.f 1 s a b = some (partOut s a b) := by
  unfold spec_PartOf.f partOut
  simp only [spec_PartOf.j0]
  by_cases h1 : a < 0
  · rw [if_pos h1, if_pos True.intro, if_neg (show ¬ ((0 ≤ a ∧ a ≤ (s.size : Int)) ∧ 0 ≤ b) by omega)]
  rw [if_neg h1]
  by_cases h2 : b < 0
  · rw [if_pos h2, if_pos True.intro, if_neg (show ¬ ((0 ≤ a ∧ a ≤ (s.size : Int)) ∧ 0 ≤ b) by omega)]
  rw [if_neg h2]
  by_cases h3 : a > (s.size : Int)
  · rw [if_pos (by simpa using h3), if_neg (show ¬ ((0 ≤ a ∧ a ≤ (s.size : Int)) ∧ 0 ≤ b) by omega)]
  rw [if_neg (by simpa using h3), if_pos (show (0 ≤ a ∧ a ≤ (s.size : Int)) ∧ 0 ≤ b by omega), w64 (x := (s.size : Int) - a) (by omega) (by omega)]
  by_cases hc : b > (s.size : Int) - a
  · simp only [if_pos hc]
    rw [w64 (by omega) (by omega), if_pos (by omega), if_pos (by omega), if_pos (by omega)]
  · simp only [if_neg hc]
    rw [w64 (by omega) (by omega), if_pos (by omega), if_pos (by omega), if_pos (by omega)]
theorem FnExactPartOf : laws_FnExactPartOf.Pure := by
  intro s a b hs ha hb
  refine ⟨1, ?_⟩
  unfold laws_FnExactPartOf.f
  by_cases hbig : (s.size : Int) > 1048576
  · rw [if_pos hbig]
  rw [if_neg hbig, spec_PartOf_ev s a b hs (wf_i64 hb), impl_PartOf_ev s a b hs]
  simp

end Go.Proofs.Ytflmjokjheddiaa.Pure
