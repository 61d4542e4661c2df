/- Unsealed returns what the reference returns, for every text. No condition. -/
import Derived.Test.YtikneakpbnihnaaSum
import Derived.Test.YtikneakpbnihnaaPFnExactUnsealedx2
namespace Go.Proofs.Ytikneakpbnihnaa.Pure
open Go.RowKit Go.Proofs.Ytikneakpbnihnaa.PFnExactUnsealed Go.Proofs.YtikneakpbnihnaaW.PrintWords Go.Proofs.YtikneakpbnihnaaW.PrintLast Go.Proofs.Ytikneakpbnihnaa.Gen
set_option linter.unusedVariables false

/-! spec_SumMore: what it computes -/
theorem spec_SumMore_l1 (a : ByteArray) (i : Int) (r : Int) : ∀ (m : Nat) (j : Int) (s : Nat), j + m = 8 → 0 ≤ j → s < 4294967296 → Ev (fun k => spec_SumMore.l0 k ((stepN m s : Nat) : Int) a (wrap64 (i + 1))) r →
    Ev (fun k => spec_SumMore.l1 k (s : Int) a i j) r := by
  intro m
  induction m with
  | zero =>
    intro j s hj h0 hs h
    refine Ev.step (spec_SumMore.l1.eq_2 (s : Int) a i j) ?_
    exact Ev.no (by omega) h
  | succ m ih =>
    intro j s hj h0 hs h
    refine Ev.step (spec_SumMore.l1.eq_2 (s : Int) a i j) ?_
    refine Ev.yes (by omega) ?_
    have ej : wrap64 (j + 1) = j + 1 := w64 (by omega) (by omega)
    have e1 := tm2 s
    have e2 : Int.tdiv (s : Int) 2 % 4294967296 = ((s / 2 : Nat) : Int) := by rw [td2]; omega
    rw [e1, e2, ej]
    refine Ev.ite (fun hc => ?_) (fun hc => ?_)
    · rw [show (3558460437 : Int) = ((3558460437 : Nat) : Int) from rfl, xor_u32 _ _ (by omega) (by omega)]
      refine ih (j + 1) _ (by omega) (by omega) (Nat.xor_lt_two_pow (n := 32) (by omega) (by omega)) ?_
      have e : step1 s = (s / 2) ^^^ 3558460437 := by unfold step1; rw [if_pos (by omega)]
      rw [stepN, e] at h; exact h
    · refine ih (j + 1) _ (by omega) (by omega) (by omega) ?_
      have e : step1 s = s / 2 := by unfold step1; rw [if_neg (by omega)]
      rw [stepN, e] at h; exact h
theorem spec_SumMore_l0 (a : ByteArray) (ha : a.size ≤ 140737488351232) : ∀ (d i : Nat) (s : Nat), i + d = a.size → s < 4294967296 →
    Ev (fun k => spec_SumMore.l0 k (s : Int) a (i : Int)) ((sumN s ((bs a).drop i) : Nat) : Int) := by
  intro d
  induction d with
  | zero =>
    intro i s hi hs
    refine Ev.step (spec_SumMore.l0.eq_2 (s : Int) a (i : Int)) ?_
    refine Ev.no (by omega) (Ev.const ?_)
    rw [List.drop_eq_nil_of_le (by rw [bs_length]; omega)]; rfl
  | succ d ih =>
    intro i s hi hs
    refine Ev.step (spec_SumMore.l0.eq_2 (s : Int) a (i : Int)) ?_
    refine Ev.yes (by omega) (Ev.yes (by omega) ?_)
    have hlt : i < (bs a).length := by rw [bs_length]; omega
    have eb : bt a i % 4294967296 = (((bs a)[i] : Nat) : Int) := by
      have h1 := bt_lo a i
      have h2 := bt_hi a i
      rw [bt_eq hlt] at *
      omega
    have hb := bs_lt a _ (List.getElem_mem hlt)
    rw [eb, xor_u32 _ _ hs (by omega), List.drop_eq_getElem_cons hlt, sumN_cons]
    have hx := xor_lt32 hs hb
    refine spec_SumMore_l1 a (i : Int) _ 8 0 _ (by omega) (by omega) hx ?_
    rw [w64 (by omega) (by omega)]
    exact ih (i + 1) _ (by omega) (stepN_lt 8 hx)
theorem spec_SumMore_f (s : Nat) (a : ByteArray) (hs : s < 4294967296) (ha : a.size ≤ 140737488351232) : Ev (fun k => spec_SumMore.f k (s : Int) a) ((sumN s (bs a) : Nat) : Int) := by
  have h := spec_SumMore_l0 a ha a.size 0 s (by omega) hs
  simpa [spec_SumMore.f] using h

theorem spec_SumOf_ev (a : ByteArray) (ha : a.size ≤ 140737488351232) : Ev (fun k => spec_SumOf.f k a) ((sumN 4294967295 (bs a) : Nat) : Int) := by
  unfold spec_SumOf.f
  exact Ev.bind (spec_SumMore_f 4294967295 a (by omega) ha) (Ev.now _)

theorem spec_SumOf_t (a : ByteArray) (ha : a.size ≤ 140737488351232) : Ev (fun k => spec_SumOf.f k a) ((sumT a : Nat) : Int) := spec_SumOf_ev a ha

/-! impl_SumMore: what it computes -/
theorem impl_SumMore_l1 (a : ByteArray) (i : Int) (r : Int) : ∀ (m : Nat) (j : Int) (s : Nat), j + m = 8 → 0 ≤ j → s < 4294967296 → Ev (fun k => impl_SumMore.l0 k ((stepN m s : Nat) : Int) a (wrap64 (i + 1))) r →
    Ev (fun k => impl_SumMore.l1 k (s : Int) a i j) r := by
  intro m
  induction m with
  | zero =>
    intro j s hj h0 hs h
    refine Ev.step (impl_SumMore.l1.eq_2 (s : Int) a i j) ?_
    exact Ev.no (by omega) h
  | succ m ih =>
    intro j s hj h0 hs h
    refine Ev.step (impl_SumMore.l1.eq_2 (s : Int) a i j) ?_
    refine Ev.yes (by omega) ?_
    have ej : wrap64 (j + 1) = j + 1 := w64 (by omega) (by omega)
    have e1 := tm2 s
    have e2 : Int.tdiv (s : Int) 2 % 4294967296 = ((s / 2 : Nat) : Int) := by rw [td2]; omega
    rw [e1, e2, ej]
    refine Ev.ite (fun hc => ?_) (fun hc => ?_)
    · rw [show (3558460437 : Int) = ((3558460437 : Nat) : Int) from rfl, xor_u32 _ _ (by omega) (by omega)]
      refine ih (j + 1) _ (by omega) (by omega) (Nat.xor_lt_two_pow (n := 32) (by omega) (by omega)) ?_
      have e : step1 s = (s / 2) ^^^ 3558460437 := by unfold step1; rw [if_pos (by omega)]
      rw [stepN, e] at h; exact h
    · refine ih (j + 1) _ (by omega) (by omega) (by omega) ?_
      have e : step1 s = s / 2 := by unfold step1; rw [if_neg (by omega)]
      rw [stepN, e] at h; exact h
theorem impl_SumMore_l0 (a : ByteArray) (ha : a.size ≤ 140737488351232) : ∀ (d i : Nat) (s : Nat), i + d = a.size → s < 4294967296 →
    Ev (fun k => impl_SumMore.l0 k (s : Int) a (i : Int)) ((sumN s ((bs a).drop i) : Nat) : Int) := by
  intro d
  induction d with
  | zero =>
    intro i s hi hs
    refine Ev.step (impl_SumMore.l0.eq_2 (s : Int) a (i : Int)) ?_
    refine Ev.no (by omega) (Ev.const ?_)
    rw [List.drop_eq_nil_of_le (by rw [bs_length]; omega)]; rfl
  | succ d ih =>
    intro i s hi hs
    refine Ev.step (impl_SumMore.l0.eq_2 (s : Int) a (i : Int)) ?_
    refine Ev.yes (by omega) (Ev.yes (by omega) ?_)
    have hlt : i < (bs a).length := by rw [bs_length]; omega
    have eb : bt a i % 4294967296 = (((bs a)[i] : Nat) : Int) := by
      have h1 := bt_lo a i
      have h2 := bt_hi a i
      rw [bt_eq hlt] at *
      omega
    have hb := bs_lt a _ (List.getElem_mem hlt)
    rw [eb, xor_u32 _ _ hs (by omega), List.drop_eq_getElem_cons hlt, sumN_cons]
    have hx := xor_lt32 hs hb
    refine impl_SumMore_l1 a (i : Int) _ 8 0 _ (by omega) (by omega) hx ?_
    rw [w64 (by omega) (by omega)]
    exact ih (i + 1) _ (by omega) (stepN_lt 8 hx)
theorem impl_SumMore_f (s : Nat) (a : ByteArray) (hs : s < 4294967296) (ha : a.size ≤ 140737488351232) : Ev (fun k => impl_SumMore.f k (s : Int) a) ((sumN s (bs a) : Nat) : Int) := by
  have h := impl_SumMore_l0 a ha a.size 0 s (by omega) hs
  simpa [impl_SumMore.f] using h

theorem impl_SumOf_ev (a : ByteArray) (ha : a.size ≤ 140737488351232) : Ev (fun k => impl_SumOf.f k a) ((sumN 4294967295 (bs a) : Nat) : Int) := by
  unfold impl_SumOf.f
  exact Ev.bind (impl_SumMore_f 4294967295 a (by omega) ha) (Ev.now _)

theorem impl_SumOf_t (a : ByteArray) (ha : a.size ≤ 140737488351232) : Ev (fun k => impl_SumOf.f k a) ((sumT a : Nat) : Int) := impl_SumOf_ev a ha

theorem spec_l02Four_ev (x : Nat) : spec_l02Four.f (x : Int) = some (fourT x) := rfl
theorem impl_highFirst_ev (x : Nat) (hx : x < 4294967296) : Ev (fun k => impl_highFirst.f k (x : Int) 4) (fourT x) := by
  unfold impl_highFirst.f
  refine Ev.yes (by omega) (Ev.yes (by decide) ?_)
  have e0 : List.replicate ((4 : Int)).toNat (0 : Int) = [0, 0, 0, 0] := rfl
  rw [e0, w64 (by omega) (by omega)]
  refine Ev.step (impl_highFirst.l0.eq_2 _ _ _) ?_
  refine Ev.yes (by omega) (Ev.yes (by omega) (Ev.yes (by simp) ?_))
  rw [w64 (by omega) (by omega), and_low (x : Int) (by omega) (by omega)]
  refine Ev.step (impl_highFirst.l0.eq_2 _ _ _) ?_
  refine Ev.yes (by omega) (Ev.yes (by omega) (Ev.yes (by simp) ?_))
  rw [w64 (by omega) (by omega), and_low ((x : Int) / 256) (by omega) (by omega)]
  refine Ev.step (impl_highFirst.l0.eq_2 _ _ _) ?_
  refine Ev.yes (by omega) (Ev.yes (by omega) (Ev.yes (by simp) ?_))
  rw [w64 (by omega) (by omega), and_low ((x : Int) / 256 / 256) (by omega) (by omega)]
  refine Ev.step (impl_highFirst.l0.eq_2 _ _ _) ?_
  refine Ev.yes (by omega) (Ev.yes (by omega) (Ev.yes (by simp) ?_))
  rw [w64 (by omega) (by omega), and_low ((x : Int) / 256 / 256 / 256) (by omega) (by omega)]
  refine Ev.step (impl_highFirst.l0.eq_2 _ _ _) ?_
  refine Ev.no (by omega) (Ev.const ?_)
  rw [← four_nums]
  congr 2
  simp
  omega
theorem impl_Sealed_ev (s : ByteArray) (hs : s.size ≤ 140737488351232) : Ev (fun k => impl_Sealed.f k s) (sealedOut s) := by
  unfold impl_Sealed.f sealedOut
  refine Ev.ite (fun h => ?_) (fun h => ?_)
  · rw [if_pos h]; exact Ev.now _
  · rw [if_neg h]
    refine Ev.bind (impl_SumOf_t s hs) ?_
    have hl := sumT_lt s
    rw [w64 (by omega) (by omega)]
    refine Ev.bind (impl_highFirst_ev _ hl) ?_
    exact Ev.yes (by rw [fourT_size]; omega) (Ev.now _)

theorem spec_Unsealed_ev (s : ByteArray) (hs : s.size ≤ 140737488351232) : Ev (fun k => spec_Unsealed.f k s) (unsealedOut s) := by
  unfold spec_Unsealed.f unsealedOut
  have e : wrap64 ((s.size : Int) - 4) = (s.size : Int) - 4 := w64 (by omega) (by omega)
  rw [e]
  refine Ev.ite (fun h => ?_) (fun h => ?_)
  · rw [if_neg (by omega)]; exact Ev.now _
  refine Ev.ite (fun h2 => ?_) (fun h2 => ?_)
  · rw [if_neg (by omega)]; exact Ev.now _
  refine Ev.yes (by omega) (Ev.yes (by omega) ?_)
  have e2 : ((s.size : Int) - 4).toNat = s.size - 4 := by omega
  rw [e2]
  refine Ev.bind (spec_SumOf_t _ (by rw [size_extract _ _ _ (by omega)]; omega)) (Ev.bindc (spec_l02Four_ev _) ?_)
  simp only [toList_iff]
  refine Ev.ite (fun h3 => ?_) (fun h3 => ?_)
  · rw [if_pos ⟨by omega, by omega, h3⟩]; exact Ev.now _
  · rw [if_neg (fun h4 => h3 h4.2.2)]; exact Ev.now _
theorem impl_Unsealed_ev (s : ByteArray) (hs : s.size ≤ 140737488351232) : Ev (fun k => impl_Unsealed.f k s) (unsealedOut s) := by
  unfold impl_Unsealed.f unsealedOut
  have e : wrap64 ((s.size : Int) - 4) = (s.size : Int) - 4 := w64 (by omega) (by omega)
  rw [e]
  refine Ev.ite (fun h => ?_) (fun h => ?_)
  · rw [if_neg (by omega)]; exact Ev.now _
  refine Ev.yes (by omega) (Ev.yes (by omega) ?_)
  have e2 : ((s.size : Int) - 4).toNat = s.size - 4 := by omega
  rw [e2]
  have e3 := size_extract s 0 (s.size - 4) (by omega)
  refine Ev.bind (impl_Sealed_ev _ (by omega)) ?_
  unfold sealedOut
  rw [e3]
  by_cases h2 : ((s.size - 4 - 0 : Nat) : Int) > 20000
  · rw [if_pos h2, if_neg (show ¬ (4 ≤ s.size ∧ s.size ≤ 20004 ∧ s.extract (s.size - 4) s.size = fourT (sumT (s.extract 0 (s.size - 4)))) from fun h => by omega)]
    exact Ev.no (show ¬ (false = true) by decide) (Ev.now _)
  · rw [if_neg h2]
    refine Ev.yes rfl ?_
    simp only [toList_iff]
    have e4 := extract_join s (s.size - 4) (by omega)
    refine Ev.ite (fun h3 => ?_) (fun h3 => ?_)
    · have h5 := append_left_cancel (e4.trans h3.symm)
      rw [if_pos ⟨by omega, by omega, h5⟩]
      exact Ev.now _
    · have h5 : ¬ (4 ≤ s.size ∧ s.size ≤ 20004 ∧ s.extract (s.size - 4) s.size = fourT (sumT (s.extract 0 (s.size - 4)))) := by
        intro h4
        apply h3
        rw [← h4.2.2]; exact e4
      rw [if_neg h5]
      exact Ev.now _

theorem FnExactUnsealed : laws_FnExactUnsealed.Pure := by
  intro a ha
  apply Ev.rounds
  unfold laws_FnExactUnsealed.f
  refine Ev.ite (fun _ => Ev.now _) (fun h => ?_)
  refine Ev.bind (spec_Unsealed_ev a ha) ?_
  refine Ev.bind (impl_Unsealed_ev a ha) ?_
  refine Ev.const ?_
  simp

end Go.Proofs.Ytikneakpbnihnaa.Pure
