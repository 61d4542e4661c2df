/- Frame returns what the reference returns, for every text. No condition. -/
import Derived.Test.YtikneakpbnihnaaUnfr
import Derived.Test.YtikneakpbnihnaaPFnExactFramex2
namespace Go.Proofs.Ytikneakpbnihnaa.Pure
open Go.RowKit Go.Proofs.Ytikneakpbnihnaa.PFnExactFrame Go.Proofs.YtikneakpbnihnaaW.PrintWords Go.Proofs.YtikneakpbnihnaaW.PrintLast Go.Proofs.Ytikneakpbnihnaa.Gen
set_option linter.unusedVariables false

theorem spec_l01In_ev (a b c : Int) : spec_l01In.f a b c = some (decide (b ≤ a ∧ a ≤ c)) := by
  unfold spec_l01In.f
  by_cases h : a ≥ b
  · rw [if_pos h]; congr 1; simp; omega
  · rw [if_neg h]; congr 1; simp; omega

theorem impl_within_ev (a b c : Int) : impl_within.f a b c = some (decide (b ≤ a ∧ a ≤ c)) := by
  unfold impl_within.f
  by_cases h : a ≥ b
  · rw [if_pos h]; congr 1; simp; omega
  · rw [if_neg h]; congr 1; simp; omega

theorem spec_l01Var_l0 : ∀ (n : Nat), n < 9223372036854775808 → ∀ (xs : List Int), xs.length + (varN n).length ≤ 140737488355328 →
    Ev (fun k => spec_l01Var.l0 k (n : Int) xs) (strOfNums (xs ++ (varN n).map Int.ofNat)) := by
  intro n
  induction n using Nat.strongRecOn with
  | _ n ih =>
    intro hn xs hx
    refine Ev.step (spec_l01Var.l0.eq_2 (n : Int) xs) ?_
    have hp := varN_pos n
    refine Ev.ite (fun h => ?_) (fun h => ?_)
    · have h' : n > 127 := by omega
      have e := varN_big h'
      rw [e, List.length_cons] at hx
      refine Ev.yes (by omega) ?_
      have e1 : wrap64 (Int.tdiv (n : Int) 128) = ((n / 128 : Nat) : Int) := by rw [td128, w64] <;> omega
      have e2 : wrap64 (Int.tmod (n : Int) 128 + 128) % 256 = ((n % 128 + 128 : Nat) : Int) := by rw [tm128, w64] <;> omega
      rw [e1, e2, e]
      have := ih (n / 128) (by omega) (by omega) (xs ++ [((n % 128 + 128 : Nat) : Int)]) (by simp; omega)
      simpa using this
    · have h' : ¬ n > 127 := by omega
      have e := varN_small h'
      rw [e] at hx ⊢
      simp at hx
      refine Ev.yes (by omega) (Ev.const ?_)
      rw [show (n : Int) % 256 = n by omega]
      rfl

theorem spec_l01Var_ev (n : Nat) (hn : n < 9223372036854775808) : Ev (fun k => spec_l01Var.f k (n : Int)) (varT n) := by
  have := varN_len10 hn
  exact spec_l01Var_l0 n hn [] (by simp; omega)

theorem impl_VarText_l0 : ∀ (n : Nat), n < 9223372036854775808 → ∀ (xs : List Int), xs.length + (varN n).length ≤ 140737488355328 →
    Ev (fun k => impl_VarText.l0 k (n : Int) xs) (strOfNums (xs ++ (varN n).map Int.ofNat), true) := by
  intro n
  induction n using Nat.strongRecOn with
  | _ n ih =>
    intro hn xs hx
    refine Ev.step (impl_VarText.l0.eq_2 (n : Int) xs) ?_
    have hp := varN_pos n
    refine Ev.ite (fun h => ?_) (fun h => ?_)
    · have h' : n > 127 := by omega
      have e := varN_big h'
      rw [e, List.length_cons] at hx
      refine Ev.yes (by omega) ?_
      have e1 : wrap64 (Int.tdiv (n : Int) 128) = ((n / 128 : Nat) : Int) := by rw [td128, w64] <;> omega
      have e2 : wrap64 (Int.tmod (n : Int) 128 + 128) % 256 = ((n % 128 + 128 : Nat) : Int) := by rw [tm128, w64] <;> omega
      rw [e1, e2, e]
      have := ih (n / 128) (by omega) (by omega) (xs ++ [((n % 128 + 128 : Nat) : Int)]) (by simp; omega)
      simpa using this
    · have h' : ¬ n > 127 := by omega
      have e := varN_small h'
      rw [e] at hx ⊢
      simp at hx
      refine Ev.yes (by omega) (Ev.const ?_)
      rw [show (n : Int) % 256 = n by omega]
      rfl

/-- what VarText tells -/
def varOut (a : Int) : ByteArray × Bool := if 0 ≤ a ∧ a ≤ 1000000000 then (varT a.toNat, true) else (⟨#[]⟩, false)
theorem impl_VarText_ev (a : Int) : Ev (fun k => impl_VarText.f k a) (varOut a) := by
  unfold impl_VarText.f varOut
  rw [impl_within_ev]
  simp only [Option.bind_some, decide_eq_true_eq]
  refine Ev.ite (fun h => ?_) (fun h => ?_)
  · rw [if_pos h]
    obtain ⟨n, rfl⟩ := Int.eq_ofNat_of_zero_le h.1
    have := varN_len10 (n := n) (by omega)
    exact impl_VarText_l0 n (by omega) [] (by simp; omega)
  · rw [if_neg h]; exact Ev.now _

/-! spec_SumMore: what it computes -/
theorem spec_SumMore_l1 (a : ByteArray) (i : Int) (r : Int) : ∀ (m : Nat) (j : Int) (s : Nat), j + m = 8 → 0 ≤ j → s < 4294967296 → Ev (fun k => spec_SumMore.l0 k ((stepN m s : Nat) : Int) a (wrap64 (i + 1))) r →
    Ev (fun k => spec_SumMore.l1 k (s : Int) a i j) r := by
  intro m
  induction m with
  | zero =>
    intro j s hj h0 hs h
    refine Ev.step (spec_SumMore.l1.eq_2 (s : Int) a i j) ?_
    exact Ev.no (by omega) h
  | succ m ih =>
    intro j s hj h0 hs h
    refine Ev.step (spec_SumMore.l1.eq_2 (s : Int) a i j) ?_
    refine Ev.yes (by omega) ?_
    have ej : wrap64 (j + 1) = j + 1 := w64 (by omega) (by omega)
    have e1 := tm2 s
    have e2 : Int.tdiv (s : Int) 2 % 4294967296 = ((s / 2 : Nat) : Int) := by rw [td2]; omega
    rw [e1, e2, ej]
    refine Ev.ite (fun hc => ?_) (fun hc => ?_)
    · rw [show (3558460437 : Int) = ((3558460437 : Nat) : Int) from rfl, xor_u32 _ _ (by omega) (by omega)]
      refine ih (j + 1) _ (by omega) (by omega) (Nat.xor_lt_two_pow (n := 32) (by omega) (by omega)) ?_
      have e : step1 s = (s / 2) ^^^ 3558460437 := by unfold step1; rw [if_pos (by omega)]
      rw [stepN, e] at h; exact h
    · refine ih (j + 1) _ (by omega) (by omega) (by omega) ?_
      have e : step1 s = s / 2 := by unfold step1; rw [if_neg (by omega)]
      rw [stepN, e] at h; exact h
theorem spec_SumMore_l0 (a : ByteArray) (ha : a.size ≤ 140737488351232) : ∀ (d i : Nat) (s : Nat), i + d = a.size → s < 4294967296 →
    Ev (fun k => spec_SumMore.l0 k (s : Int) a (i : Int)) ((sumN s ((bs a).drop i) : Nat) : Int) := by
  intro d
  induction d with
  | zero =>
    intro i s hi hs
    refine Ev.step (spec_SumMore.l0.eq_2 (s : Int) a (i : Int)) ?_
    refine Ev.no (by omega) (Ev.const ?_)
    rw [List.drop_eq_nil_of_le (by rw [bs_length]; omega)]; rfl
  | succ d ih =>
    intro i s hi hs
    refine Ev.step (spec_SumMore.l0.eq_2 (s : Int) a (i : Int)) ?_
    refine Ev.yes (by omega) (Ev.yes (by omega) ?_)
    have hlt : i < (bs a).length := by rw [bs_length]; omega
    have eb : bt a i % 4294967296 = (((bs a)[i] : Nat) : Int) := by
      have h1 := bt_lo a i
      have h2 := bt_hi a i
      rw [bt_eq hlt] at *
      omega
    have hb := bs_lt a _ (List.getElem_mem hlt)
    rw [eb, xor_u32 _ _ hs (by omega), List.drop_eq_getElem_cons hlt, sumN_cons]
    have hx := xor_lt32 hs hb
    refine spec_SumMore_l1 a (i : Int) _ 8 0 _ (by omega) (by omega) hx ?_
    rw [w64 (by omega) (by omega)]
    exact ih (i + 1) _ (by omega) (stepN_lt 8 hx)
theorem spec_SumMore_f (s : Nat) (a : ByteArray) (hs : s < 4294967296) (ha : a.size ≤ 140737488351232) : Ev (fun k => spec_SumMore.f k (s : Int) a) ((sumN s (bs a) : Nat) : Int) := by
  have h := spec_SumMore_l0 a ha a.size 0 s (by omega) hs
  simpa [spec_SumMore.f] using h

theorem spec_SumOf_ev (a : ByteArray) (ha : a.size ≤ 140737488351232) : Ev (fun k => spec_SumOf.f k a) ((sumN 4294967295 (bs a) : Nat) : Int) := by
  unfold spec_SumOf.f
  exact Ev.bind (spec_SumMore_f 4294967295 a (by omega) ha) (Ev.now _)

theorem spec_SumOf_t (a : ByteArray) (ha : a.size ≤ 140737488351232) : Ev (fun k => spec_SumOf.f k a) ((sumT a : Nat) : Int) := spec_SumOf_ev a ha

/-! impl_SumMore: what it computes -/
theorem impl_SumMore_l1 (a : ByteArray) (i : Int) (r : Int) : ∀ (m : Nat) (j : Int) (s : Nat), j + m = 8 → 0 ≤ j → s < 4294967296 → Ev (fun k => impl_SumMore.l0 k ((stepN m s : Nat) : Int) a (wrap64 (i + 1))) r →
    Ev (fun k => impl_SumMore.l1 k (s : Int) a i j) r := by
  intro m
  induction m with
  | zero =>
    intro j s hj h0 hs h
    refine Ev.step (impl_SumMore.l1.eq_2 (s : Int) a i j) ?_
    exact Ev.no (by omega) h
  | succ m ih =>
    intro j s hj h0 hs h
    refine Ev.step (impl_SumMore.l1.eq_2 (s : Int) a i j) ?_
    refine Ev.yes (by omega) ?_
    have ej : wrap64 (j + 1) = j + 1 := w64 (by omega) (by omega)
    have e1 := tm2 s
    have e2 : Int.tdiv (s : Int) 2 % 4294967296 = ((s / 2 : Nat) : Int) := by rw [td2]; omega
    rw [e1, e2, ej]
    refine Ev.ite (fun hc => ?_) (fun hc => ?_)
    · rw [show (3558460437 : Int) = ((3558460437 : Nat) : Int) from rfl, xor_u32 _ _ (by omega) (by omega)]
      refine ih (j + 1) _ (by omega) (by omega) (Nat.xor_lt_two_pow (n := 32) (by omega) (by omega)) ?_
      have e : step1 s = (s / 2) ^^^ 3558460437 := by unfold step1; rw [if_pos (by omega)]
      rw [stepN, e] at h; exact h
    · refine ih (j + 1) _ (by omega) (by omega) (by omega) ?_
      have e : step1 s = s / 2 := by unfold step1; rw [if_neg (by omega)]
      rw [stepN, e] at h; exact h
theorem impl_SumMore_l0 (a : ByteArray) (ha : a.size ≤ 140737488351232) : ∀ (d i : Nat) (s : Nat), i + d = a.size → s < 4294967296 →
    Ev (fun k => impl_SumMore.l0 k (s : Int) a (i : Int)) ((sumN s ((bs a).drop i) : Nat) : Int) := by
  intro d
  induction d with
  | zero =>
    intro i s hi hs
    refine Ev.step (impl_SumMore.l0.eq_2 (s : Int) a (i : Int)) ?_
    refine Ev.no (by omega) (Ev.const ?_)
    rw [List.drop_eq_nil_of_le (by rw [bs_length]; omega)]; rfl
  | succ d ih =>
    intro i s hi hs
    refine Ev.step (impl_SumMore.l0.eq_2 (s : Int) a (i : Int)) ?_
    refine Ev.yes (by omega) (Ev.yes (by omega) ?_)
    have hlt : i < (bs a).length := by rw [bs_length]; omega
    have eb : bt a i % 4294967296 = (((bs a)[i] : Nat) : Int) := by
      have h1 := bt_lo a i
      have h2 := bt_hi a i
      rw [bt_eq hlt] at *
      omega
    have hb := bs_lt a _ (List.getElem_mem hlt)
    rw [eb, xor_u32 _ _ hs (by omega), List.drop_eq_getElem_cons hlt, sumN_cons]
    have hx := xor_lt32 hs hb
    refine impl_SumMore_l1 a (i : Int) _ 8 0 _ (by omega) (by omega) hx ?_
    rw [w64 (by omega) (by omega)]
    exact ih (i + 1) _ (by omega) (stepN_lt 8 hx)
theorem impl_SumMore_f (s : Nat) (a : ByteArray) (hs : s < 4294967296) (ha : a.size ≤ 140737488351232) : Ev (fun k => impl_SumMore.f k (s : Int) a) ((sumN s (bs a) : Nat) : Int) := by
  have h := impl_SumMore_l0 a ha a.size 0 s (by omega) hs
  simpa [impl_SumMore.f] using h

theorem impl_SumOf_ev (a : ByteArray) (ha : a.size ≤ 140737488351232) : Ev (fun k => impl_SumOf.f k a) ((sumN 4294967295 (bs a) : Nat) : Int) := by
  unfold impl_SumOf.f
  exact Ev.bind (impl_SumMore_f 4294967295 a (by omega) ha) (Ev.now _)

theorem impl_SumOf_t (a : ByteArray) (ha : a.size ≤ 140737488351232) : Ev (fun k => impl_SumOf.f k a) ((sumT a : Nat) : Int) := impl_SumOf_ev a ha

theorem spec_l02Four_ev (x : Nat) : spec_l02Four.f (x : Int) = some (fourT x) := rfl
theorem spec_Frame_ev (s : ByteArray) (hs : s.size ≤ 140737488351232) : Ev (fun k => spec_Frame.f k s) (frameOut s) := by
  unfold spec_Frame.f frameOut
  rw [spec_l01In_ev]
  simp only [Option.bind_some, decide_eq_true_eq]
  refine Ev.ite (fun h => ?_) (fun h => ?_)
  · rw [if_pos h]
    have h5 := varN_len10 (n := s.size) (by omega)
    refine Ev.bind (spec_l01Var_ev s.size (by omega)) (Ev.bind (spec_SumOf_t s hs) (Ev.bindc (spec_l02Four_ev _) ?_))
    exact Ev.yes (by rw [fourT_size, varT_size]; omega) (Ev.yes (by rw [size_append, fourT_size, varT_size]; omega) (Ev.now _))
  · rw [if_neg h]; exact Ev.now _

theorem impl_sumText_ev (s : ByteArray) (hs : s.size ≤ 140737488351232) : Ev (fun k => impl_sumText.f k s) (fourT (sumT s)) := by
  unfold impl_sumText.f
  refine Ev.bind (impl_SumOf_t s hs) ?_
  rw [four_nums]
  exact Ev.now _

theorem impl_Frame_ev (s : ByteArray) (hs : s.size ≤ 140737488351232) : Ev (fun k => impl_Frame.f k s) (frameOut s) := by
  unfold impl_Frame.f frameOut
  rw [impl_within_ev]
  simp only [Option.bind_some, decide_eq_true_eq]
  refine Ev.ite (fun h => ?_) (fun h => ?_)
  · rw [if_pos h]
    have h5 := varN_len10 (n := s.size) (by omega)
    have e : varOut (s.size : Int) = (varT s.size, true) := by unfold varOut; rw [if_pos (by omega)]; rfl
    refine Ev.bind (impl_VarText_ev s.size) ?_
    rw [e]
    refine Ev.bind (impl_sumText_ev s hs) ?_
    exact Ev.yes (by simp only [fourT_size, varT_size]; omega) (Ev.yes (by simp only [size_append, fourT_size, varT_size]; omega) (Ev.now _))
  · rw [if_neg h]; exact Ev.now _

theorem FnExactFrame : laws_FnExactFrame.Pure := by
  intro a ha
  apply Ev.rounds
  unfold laws_FnExactFrame.f
  refine Ev.ite (fun _ => Ev.now _) (fun h => ?_)
  refine Ev.bind (spec_Frame_ev a ha) ?_
  refine Ev.bind (impl_Frame_ev a ha) ?_
  refine Ev.const ?_
  simp

end Go.Proofs.Ytikneakpbnihnaa.Pure
