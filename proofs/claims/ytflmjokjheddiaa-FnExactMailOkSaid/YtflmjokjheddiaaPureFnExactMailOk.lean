/- MailOk returns what the reference returns, for every text. No condition. -/
import Derived.Test.YtflmjokjheddiaaHex
import Derived.Test.YtflmjokjheddiaaQFnExactMailOkx1
namespace Go.Proofs.Ytflmjokjheddiaa.Pure
open Go.RowKit Go.Proofs.Ytflmjokjheddiaa.PFnExactMailOk Go.Proofs.YtflmjokjheddiaaW.PrintWords Go.Proofs.YtflmjokjheddiaaW.PrintLast Go.Proofs.Ytflmjokjheddiaa.Gen
set_option linter.unusedVariables false

theorem spec_l01In_ev (a b c : Int) : spec_l01In.f a b c = some (decide (b ≤ a ∧ a ≤ c)) := by
  unfold spec_l01In.f
  by_cases h : a ≥ b
  · rw [if_pos h]; congr 1; simp; omega
  · rw [if_neg h]; congr 1; simp; omega

theorem impl_within_ev (a b c : Int) : impl_within.f a b c = some (decide (b ≤ a ∧ a ≤ c)) := by
  unfold impl_within.f
  by_cases h : a ≥ b
  · rw [if_pos h]; congr 1; simp; omega
  · rw [if_neg h]; congr 1; simp; omega

theorem spec_MailOk_l0 (s : ByteArray) (hs : s.size ≤ 140737488351232) : ∀ (d i : Nat), i + d = s.size →
    Ev (fun k => spec_MailOk.l0 k s (i : Int)) (decide (1 ≤ (s.size : Int) ∧ (s.size : Int) ≤ 200) && !((bs s).drop i).contains 0) := by
  intro d
  induction d with
  | zero =>
    intro i hi
    refine Ev.step (spec_MailOk.l0.eq_2 s (i : Int)) ?_
    refine Ev.no (by omega) (Ev.bindc (spec_l01In_ev _ _ _) (Ev.const ?_))
    rw [List.drop_eq_nil_of_le (by rw [bs_length]; omega)]; simp
  | succ d ih =>
    intro i hi
    refine Ev.step (spec_MailOk.l0.eq_2 s (i : Int)) ?_
    refine Ev.yes (by omega) (Ev.yes (by omega) ?_)
    have hlt : i < (bs s).length := by rw [bs_length]; omega
    have hd := List.drop_eq_getElem_cons hlt
    have eb := bt_eq hlt
    generalize (bs s)[i] = c at hd eb
    rw [eb, hd, w64 (by omega) (by omega)]
    refine Ev.ite (fun h => ?_) (fun h => ?_)
    · have : c = 0 := by omega
      subst this
      refine Ev.const ?_
      simp
    · have h1 : (0 == c) = false := by rw [beq_eq_false_iff_ne]; omega
      rw [List.contains_cons, h1, Bool.false_or]
      exact ih (i + 1) (by omega)
theorem FnExactMailOk : laws_FnExactMailOk.Pure := by
  intro s hs
  apply Ev.rounds
  unfold laws_FnExactMailOk.f
  refine Ev.ite (fun _ => Ev.now _) (fun h => ?_)
  have h1 : Ev (fun k => spec_MailOk.f k s) (decide (1 ≤ (s.size : Int) ∧ (s.size : Int) ≤ 200) && !(bs s).contains 0) := spec_MailOk_l0 s hs s.size 0 (by omega)
  refine Ev.bind h1 ?_
  have h2 : impl_MailOk.f s = some (decide (1 ≤ (s.size : Int) ∧ (s.size : Int) ≤ 200) && !(bs s).contains 0) := by
    unfold impl_MailOk.f
    rw [impl_within_ev]
    have e : strings_IndexByte.f s 0 = some (Lib.indexByte s.data.toList 0) := rfl
    have hi := indexByte_none s.data.toList 0
    rw [e]
    simp only [Option.bind_some]
    by_cases hc : 1 ≤ (s.size : Int) ∧ (s.size : Int) ≤ 200
    · rw [if_pos (decide_eq_true hc), decide_eq_true hc, Bool.true_and]
      congr 1
      have e0 : (bs s).contains 0 = (s.data.toList.map UInt8.toNat).contains (0 : UInt8).toNat := rfl
      rw [e0]
      cases hb : (s.data.toList.map UInt8.toNat).contains (0 : UInt8).toNat with
      | true => rw [hb] at hi; simp only [Bool.true_eq_false, iff_false] at hi; simp; omega
      | false => have := hi.2 hb; simp; exact this
    · rw [if_neg (by rw [decide_eq_true_eq]; exact hc), decide_eq_false hc, Bool.false_and]
  refine Ev.bindc h2 (Ev.const ?_)
  simp

end Go.Proofs.Ytflmjokjheddiaa.Pure
