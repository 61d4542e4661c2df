/- SumOf returns what the reference returns, for every text. No condition. -/
import Derived.Test.YtflmjokjheddiaaSum
import Derived.Test.YtflmjokjheddiaaPFnExactSumOfx1
namespace Go.Proofs.Ytflmjokjheddiaa.Pure
open Go.RowKit Go.Proofs.Ytflmjokjheddiaa.PFnExactSumOf Go.Proofs.YtflmjokjheddiaaW.PrintWords Go.Proofs.YtflmjokjheddiaaW.PrintLast Go.Proofs.Ytflmjokjheddiaa.Gen
set_option linter.unusedVariables false

/-! spec_SumMore: what it computes -/
theorem spec_SumMore_l1 (a : ByteArray) (i : Int) (r : Int) : ∀ (m : Nat) (j : Int) (s : Nat), j + m = 8 → 0 ≤ j → s < 4294967296 → Ev (fun k => spec_SumMore.l0 k ((stepN m s : Nat) : Int) a (wrap64 (i + 1))) r →
    Ev (fun k => spec_SumMore.l1 k (s : Int) a i j) r := by
  intro m
  induction m with
  | zero =>
    intro j s hj h0 hs h
    refine Ev.step (spec_SumMore.l1.eq_2 (s : Int) a i j) ?_
    exact Ev.no (by omega) h
  | succ m ih =>
    intro j s hj h0 hs h
    refine Ev.step (spec_SumMore.l1.eq_2 (s : Int) a i j) ?_
    refine Ev.yes (by omega) ?_
    have ej : wrap64 (j + 1) = j + 1 := w64 (by omega) (by omega)
    have e1 := tm2 s
    have e2 : Int.tdiv (s : Int) 2 % 4294967296 = ((s / 2 : Nat) : Int) := by rw [td2]; omega
    rw [e1, e2, ej]
    refine Ev.ite (fun hc => ?_) (fun hc => ?_)
    · rw [show (3558460437 : Int) = ((3558460437 : Nat) : Int) from rfl, xor_u32 _ _ (by omega) (by omega)]
      refine ih (j + 1) _ (by omega) (by omega) (Nat.xor_lt_two_pow (n := 32) (by omega) (by omega)) ?_
      have e : step1 s = (s / 2) ^^^ 3558460437 := by unfold step1; rw [if_pos (by omega)]
      rw [stepN, e] at h; exact h
    · refine ih (j + 1) _ (by omega) (by omega) (by omega) ?_
      have e : step1 s = s / 2 := by unfold step1; rw [if_neg (by omega)]
      rw [stepN, e] at h; exact h
theorem spec_SumMore_l0 (a : ByteArray) (ha : a.size ≤ 140737488351232) : ∀ (d i : Nat) (s : Nat), i + d = a.size → s < 4294967296 →
    Ev (fun k => spec_SumMore.l0 k (s : Int) a (i : Int)) ((sumN s ((bs a).drop i) : Nat) : Int) := by
  intro d
  induction d with
  | zero =>
    intro i s hi hs
    refine Ev.step (spec_SumMore.l0.eq_2 (s : Int) a (i : Int)) ?_
    refine Ev.no (by omega) (Ev.const ?_)
    rw [List.drop_eq_nil_of_le (by rw [bs_length]; omega)]; rfl
  | succ d ih =>
    intro i s hi hs
    refine Ev.step (spec_SumMore.l0.eq_2 (s : Int) a (i : Int)) ?_
    refine Ev.yes (by omega) (Ev.yes (by omega) ?_)
    have hlt : i < (bs a).length := by rw [bs_length]; omega
    have eb : bt a i % 4294967296 = (((bs a)[i] : Nat) : Int) := by
      have h1 := bt_lo a i
      have h2 := bt_hi a i
      rw [bt_eq hlt] at *
      omega
    have hb := bs_lt a _ (List.getElem_mem hlt)
    rw [eb, xor_u32 _ _ hs (by omega), List.drop_eq_getElem_cons hlt, sumN_cons]
    have hx := xor_lt32 hs hb
    refine spec_SumMore_l1 a (i : Int) _ 8 0 _ (by omega) (by omega) hx ?_
    rw [w64 (by omega) (by omega)]
    exact ih (i + 1) _ (by omega) (stepN_lt 8 hx)
theorem spec_SumMore_f (s : Nat) (a : ByteArray) (hs : s < 4294967296) (ha : a.size ≤ 140737488351232) : Ev (fun k => spec_SumMore.f k (s : Int) a) ((sumN s (bs a) : Nat) : Int) := by
  have h := spec_SumMore_l0 a ha a.size 0 s (by omega) hs
  simpa [spec_SumMore.f] using h

theorem spec_SumOf_ev (a : ByteArray) (ha : a.size ≤ 140737488351232) : Ev (fun k => spec_SumOf.f k a) ((sumN 4294967295 (bs a) : Nat) : Int) := by
  unfold spec_SumOf.f
  exact Ev.bind (spec_SumMore_f 4294967295 a (by omega) ha) (Ev.now _)

/-! impl_SumMore: what it computes -/
theorem impl_SumMore_l1 (a : ByteArray) (i : Int) (r : Int) : ∀ (m : Nat) (j : Int) (s : Nat), j + m = 8 → 0 ≤ j → s < 4294967296 → Ev (fun k => impl_SumMore.l0 k ((stepN m s : Nat) : Int) a (wrap64 (i + 1))) r →
    Ev (fun k => impl_SumMore.l1 k (s : Int) a i j) r := by
  intro m
  induction m with
  | zero =>
    intro j s hj h0 hs h
    refine Ev.step (impl_SumMore.l1.eq_2 (s : Int) a i j) ?_
    exact Ev.no (by omega) h
  | succ m ih =>
    intro j s hj h0 hs h
    refine Ev.step (impl_SumMore.l1.eq_2 (s : Int) a i j) ?_
    refine Ev.yes (by omega) ?_
    have ej : wrap64 (j + 1) = j + 1 := w64 (by omega) (by omega)
    have e1 := tm2 s
    have e2 : Int.tdiv (s : Int) 2 % 4294967296 = ((s / 2 : Nat) : Int) := by rw [td2]; omega
    rw [e1, e2, ej]
    refine Ev.ite (fun hc => ?_) (fun hc => ?_)
    · rw [show (3558460437 : Int) = ((3558460437 : Nat) : Int) from rfl, xor_u32 _ _ (by omega) (by omega)]
      refine ih (j + 1) _ (by omega) (by omega) (Nat.xor_lt_two_pow (n := 32) (by omega) (by omega)) ?_
      have e : step1 s = (s / 2) ^^^ 3558460437 := by unfold step1; rw [if_pos (by omega)]
      rw [stepN, e] at h; exact h
    · refine ih (j + 1) _ (by omega) (by omega) (by omega) ?_
      have e : step1 s = s / 2 := by unfold step1; rw [if_neg (by omega)]
      rw [stepN, e] at h; exact h
theorem impl_SumMore_l0 (a : ByteArray) (ha : a.size ≤ 140737488351232) : ∀ (d i : Nat) (s : Nat), i + d = a.size → s < 4294967296 →
    Ev (fun k => impl_SumMore.l0 k (s : Int) a (i : Int)) ((sumN s ((bs a).drop i) : Nat) : Int) := by
  intro d
  induction d with
  | zero =>
    intro i s hi hs
    refine Ev.step (impl_SumMore.l0.eq_2 (s : Int) a (i : Int)) ?_
    refine Ev.no (by omega) (Ev.const ?_)
    rw [List.drop_eq_nil_of_le (by rw [bs_length]; omega)]; rfl
  | succ d ih =>
    intro i s hi hs
    refine Ev.step (impl_SumMore.l0.eq_2 (s : Int) a (i : Int)) ?_
    refine Ev.yes (by omega) (Ev.yes (by omega) ?_)
    have hlt : i < (bs a).length := by rw [bs_length]; omega
    have eb : bt a i % 4294967296 = (((bs a)[i] : Nat) : Int) := by
      have h1 := bt_lo a i
      have h2 := bt_hi a i
      rw [bt_eq hlt] at *
      omega
    have hb := bs_lt a _ (List.getElem_mem hlt)
    rw [eb, xor_u32 _ _ hs (by omega), List.drop_eq_getElem_cons hlt, sumN_cons]
    have hx := xor_lt32 hs hb
    refine impl_SumMore_l1 a (i : Int) _ 8 0 _ (by omega) (by omega) hx ?_
    rw [w64 (by omega) (by omega)]
    exact ih (i + 1) _ (by omega) (stepN_lt 8 hx)
theorem impl_SumMore_f (s : Nat) (a : ByteArray) (hs : s < 4294967296) (ha : a.size ≤ 140737488351232) : Ev (fun k => impl_SumMore.f k (s : Int) a) ((sumN s (bs a) : Nat) : Int) := by
  have h := impl_SumMore_l0 a ha a.size 0 s (by omega) hs
  simpa [impl_SumMore.f] using h

theorem impl_SumOf_ev (a : ByteArray) (ha : a.size ≤ 140737488351232) : Ev (fun k => impl_SumOf.f k a) ((sumN 4294967295 (bs a) : Nat) : Int) := by
  unfold impl_SumOf.f
  exact Ev.bind (impl_SumMore_f 4294967295 a (by omega) ha) (Ev.now _)

theorem FnExactSumOf : laws_FnExactSumOf.Pure := by
  intro a ha
  apply Ev.rounds
  unfold laws_FnExactSumOf.f
  refine Ev.ite (fun _ => Ev.now _) (fun h => ?_)
  refine Ev.bind (spec_SumOf_ev a ha) ?_
  refine Ev.bind (impl_SumOf_ev a ha) ?_
  exact Ev.yes rfl (Ev.now _)

end Go.Proofs.Ytflmjokjheddiaa.Pure
