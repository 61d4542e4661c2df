/- ShortText returns what the reference returns, for every text. No condition. -/
import Derived.Test.YtflmjokjheddiaaVar
import Derived.Test.YtflmjokjheddiaaPFnExactShortTextx1
namespace Go.Proofs.Ytflmjokjheddiaa.Pure
open Go.RowKit Go.Proofs.Ytflmjokjheddiaa.PFnExactShortText Go.Proofs.YtflmjokjheddiaaW.PrintWords Go.Proofs.YtflmjokjheddiaaW.PrintLast Go.Proofs.Ytflmjokjheddiaa.Gen
set_option linter.unusedVariables false

theorem impl_within_ev (a b c : Int) : impl_within.f a b c = some (decide (b ≤ a ∧ a ≤ c)) := by
  unfold impl_within.f
  by_cases h : a ≥ b
  · rw [if_pos h]; congr 1; simp; omega
  · rw [if_neg h]; congr 1; simp; omega

theorem spec_l01Var_l0 : ∀ (n : Nat), n < 9223372036854775808 → ∀ (xs : List Int), xs.length + (varN n).length ≤ 140737488355328 →
    Ev (fun k => spec_l01Var.l0 k (n : Int) xs) (strOfNums (xs ++ (varN n).map Int.ofNat)) := by
  intro n
  induction n using Nat.strongRecOn with
  | _ n ih =>
    intro hn xs hx
    refine Ev.step (spec_l01Var.l0.eq_2 (n : Int) xs) ?_
    have hp := varN_pos n
    refine Ev.ite (fun h => ?_) (fun h => ?_)
    · have h' : n > 127 := by omega
      have e := varN_big h'
      rw [e, List.length_cons] at hx
      refine Ev.yes (by omega) ?_
      have e1 : wrap64 (Int.tdiv (n : Int) 128) = ((n / 128 : Nat) : Int) := by rw [td128, w64] <;> omega
      have e2 : wrap64 (Int.tmod (n : Int) 128 + 128) % 256 = ((n % 128 + 128 : Nat) : Int) := by rw [tm128, w64] <;> omega
      rw [e1, e2, e]
      have := ih (n / 128) (by omega) (by omega) (xs ++ [((n % 128 + 128 : Nat) : Int)]) (by simp; omega)
      simpa using this
    · have h' : ¬ n > 127 := by omega
      have e := varN_small h'
      rw [e] at hx ⊢
      simp at hx
      refine Ev.yes (by omega) (Ev.const ?_)
      rw [show (n : Int) % 256 = n by omega]
      rfl

theorem spec_l01Var_ev (n : Nat) (hn : n < 9223372036854775808) : Ev (fun k => spec_l01Var.f k (n : Int)) (varT n) := by
  have := varN_len10 hn
  exact spec_l01Var_l0 n hn [] (by simp; omega)

theorem impl_VarText_l0 : ∀ (n : Nat), n < 9223372036854775808 → ∀ (xs : List Int), xs.length + (varN n).length ≤ 140737488355328 →
    Ev (fun k => impl_VarText.l0 k (n : Int) xs) (strOfNums (xs ++ (varN n).map Int.ofNat), true) := by
  intro n
  induction n using Nat.strongRecOn with
  | _ n ih =>
    intro hn xs hx
    refine Ev.step (impl_VarText.l0.eq_2 (n : Int) xs) ?_
    have hp := varN_pos n
    refine Ev.ite (fun h => ?_) (fun h => ?_)
    · have h' : n > 127 := by omega
      have e := varN_big h'
      rw [e, List.length_cons] at hx
      refine Ev.yes (by omega) ?_
      have e1 : wrap64 (Int.tdiv (n : Int) 128) = ((n / 128 : Nat) : Int) := by rw [td128, w64] <;> omega
      have e2 : wrap64 (Int.tmod (n : Int) 128 + 128) % 256 = ((n % 128 + 128 : Nat) : Int) := by rw [tm128, w64] <;> omega
      rw [e1, e2, e]
      have := ih (n / 128) (by omega) (by omega) (xs ++ [((n % 128 + 128 : Nat) : Int)]) (by simp; omega)
      simpa using this
    · have h' : ¬ n > 127 := by omega
      have e := varN_small h'
      rw [e] at hx ⊢
      simp at hx
      refine Ev.yes (by omega) (Ev.const ?_)
      rw [show (n : Int) % 256 = n by omega]
      rfl

/-- what VarText tells -/
def varOut (a : Int) : ByteArray × Bool := if 0 ≤ a ∧ a ≤ 1000000000 then (varT a.toNat, true) else (⟨#[]⟩, false)
theorem impl_VarText_ev (a : Int) : Ev (fun k => impl_VarText.f k a) (varOut a) := by
  unfold impl_VarText.f varOut
  rw [impl_within_ev]
  simp only [Option.bind_some, decide_eq_true_eq]
  refine Ev.ite (fun h => ?_) (fun h => ?_)
  · rw [if_pos h]
    obtain ⟨n, rfl⟩ := Int.eq_ofNat_of_zero_le h.1
    have := varN_len10 (n := n) (by omega)
    exact impl_VarText_l0 n (by omega) [] (by simp; omega)
  · rw [if_neg h]; exact Ev.now _

/-- what ShortText tells -/
def shortOut (s : ByteArray) : ByteArray × Bool := if (s.size : Int) > 20000 then (⟨#[]⟩, false) else (varT s.size ++ s, true)
theorem impl_ShortText_ev (s : ByteArray) : Ev (fun k => impl_ShortText.f k s) (shortOut s) := by
  unfold impl_ShortText.f shortOut
  refine Ev.ite (fun h => ?_) (fun h => ?_)
  · rw [if_pos h]; exact Ev.now _
  · rw [if_neg h]
    refine Ev.bind (impl_VarText_ev s.size) ?_
    have h5 := varN_len10 (n := s.size) (by omega)
    have e : varOut (s.size : Int) = (varT s.size, true) := by unfold varOut; rw [if_pos (by omega)]; rfl
    rw [e]
    exact Ev.yes (by simp only [varT_size]; omega) (Ev.now _)

theorem spec_ShortText_ev (s : ByteArray) : Ev (fun k => spec_ShortText.f k s) (shortOut s) := by
  unfold spec_ShortText.f shortOut
  refine Ev.ite (fun h => ?_) (fun h => ?_)
  · rw [if_pos h]; exact Ev.now _
  · rw [if_neg h]
    refine Ev.bind (spec_l01Var_ev s.size (by omega)) ?_
    have h5 := varN_len10 (n := s.size) (by omega)
    exact Ev.yes (by rw [varT_size]; omega) (Ev.now _)

theorem FnExactShortText : laws_FnExactShortText.Pure := by
  intro s hs
  apply Ev.rounds
  unfold laws_FnExactShortText.f
  refine Ev.ite (fun _ => Ev.now _) (fun h => ?_)
  refine Ev.bind (spec_ShortText_ev s) ?_
  refine Ev.bind (impl_ShortText_ev s) ?_
  refine Ev.const ?_
  simp

end Go.Proofs.Ytflmjokjheddiaa.Pure
