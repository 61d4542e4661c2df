/- SetAdd returns what the reference returns, for every list of ranges and any two ints; its argument stays as it was, its answer is new memory. No condition. -/
import Derived.Test.YthngecooaddddaaSet
import Derived.Test.YthngecooaddddaaQFnExactSetAddx5
namespace Go.Proofs.Ythngecooaddddaa.Pure
open Go.RowKit Go.Proofs.Ythngecooaddddaa.PFnExactSetAdd Go.Proofs.YthngecooaddddaaW.PrintWords Go.Proofs.YthngecooaddddaaW.PrintLast Go.Proofs.YthngecooaddddaaW.PrintMore Go.Proofs.Ythngecooaddddaa.Gen
set_option linter.unusedVariables false

theorem spec_l01In_ev (a b c : Int) : spec_l01In.f a b c = some (decide (b ≤ a ∧ a ≤ c)) := by
  unfold spec_l01In.f
  by_cases h : a ≥ b
  · rw [if_pos h]; congr 1; simp; omega
  · rw [if_neg h]; congr 1; simp; omega

theorem impl_within_ev (a b c : Int) : impl_within.f a b c = some (decide (b ≤ a ∧ a ≤ c)) := by
  unfold impl_within.f
  by_cases h : a ≥ b
  · rw [if_pos h]; congr 1; simp; omega
  · rw [if_neg h]; congr 1; simp; omega

/-- a range as a pair -/
def pr (x : S45) : Int × Int := (x.f0, x.f1)
def to45 (x : S47) : S45 := ⟨x.f0, x.f1⟩
theorem rd45_at (l : List S45) (i : Nat) (h : i < l.length) : rd_T45 l (i : Int) = l[i] := by
  unfold rd_T45
  rw [Int.toNat_natCast, List.getD_eq_getElem?_getD, List.getElem?_eq_getElem h]; rfl
theorem rd47_at (l : List S47) (i : Nat) (h : i < l.length) : rd_T47 l (i : Int) = l[i] := by
  unfold rd_T47
  rw [Int.toNat_natCast, List.getD_eq_getElem?_getD, List.getElem?_eq_getElem h]; rfl
theorem laws_szRangeS_ev (l : List S47) (a : Int) (hl : l.length ≤ 9223372036854775807) (h0 : 0 ≤ a) (ha : a ≤ 1048576) : laws_szRangeS.f l a = some (if a - (l.length : Int) < 0 then -1 else a - (l.length : Int)) := by
  unfold laws_szRangeS.f
  rw [w64 (by omega) (by omega)]
  split <;> rfl
theorem laws_toRangeS_l0 (l : List S47) (hl : l.length ≤ 1048576) : ∀ (d i : Nat) (ys : List S45), i + d = l.length → ys.length = l.length → ys.take i = (l.take i).map to45 → Ev (fun k => laws_toRangeS.l0 k l ys (i : Int)) (l.map to45) := by
  intro d
  induction d with
  | zero =>
    intro i ys hi hy ht
    refine Ev.step (laws_toRangeS.l0.eq_2 l ys (i : Int)) (Ev.no (by omega) (Ev.const ?_))
    rw [List.take_of_length_le (by omega), List.take_of_length_le (by omega)] at ht
    rw [ht]
  | succ d ih =>
    intro i ys hi hy ht
    have hlt : i < l.length := by omega
    have hlt2 : i < ys.length := by omega
    have e := rd47_at l i hlt
    refine Ev.step (laws_toRangeS.l0.eq_2 l ys (i : Int)) (Ev.yes (by omega) (Ev.yes (by omega) (Ev.bindc rfl (Ev.yes (by omega) ?_))))
    rw [e, Int.toNat_natCast, w64 (by omega) (by omega)]
    refine ih (i + 1) _ (by omega) (by rw [List.length_set]; exact hy) ?_
    rw [take_set_next ys i _ hlt2, ht, List.take_succ_eq_append_getElem hlt, List.map_append]
    rfl
theorem laws_toRangeS_ev (l : List S47) (hl : l.length ≤ 1048576) : Ev (fun k => laws_toRangeS.f k l) (l.map to45) := by
  unfold laws_toRangeS.f
  refine Ev.yes (by omega) (Ev.yes (by omega) ?_)
  exact laws_toRangeS_l0 l hl l.length 0 _ (by omega) (by rw [List.length_replicate]; omega) (by simp)
theorem laws_eqRangeS_l0 (l : List S45) (hl : l.length ≤ 1048576) : ∀ (d i : Nat), i + d = l.length → Ev (fun k => laws_eqRangeS.l0 k l l (i : Int)) true := by
  intro d
  induction d with
  | zero =>
    intro i hi
    exact Ev.step (laws_eqRangeS.l0.eq_2 l l (i : Int)) (Ev.no (by omega) (Ev.now _))
  | succ d ih =>
    intro i hi
    have e : laws_eqRange.f ((rd_T45 l (i : Int)).f0) ((rd_T45 l (i : Int)).f1) ((rd_T45 l (i : Int)).f0) ((rd_T45 l (i : Int)).f1) = some true := by
      unfold laws_eqRange.f; rw [if_pos rfl, if_pos rfl]
    refine Ev.step (laws_eqRangeS.l0.eq_2 l l (i : Int)) (Ev.yes (by omega) (Ev.yes (by omega) (Ev.yes (by omega) (Ev.bindc e (Ev.yes rfl ?_)))))
    rw [w64 (by omega) (by omega)]
    exact ih (i + 1) (by omega)
theorem laws_eqRangeS_ev (l : List S45) (hl : l.length ≤ 1048576) : Ev (fun k => laws_eqRangeS.f k l l) true := by
  unfold laws_eqRangeS.f
  exact Ev.yes rfl (laws_eqRangeS_l0 l hl l.length 0 (by omega))

theorem spec_SetOk_l0 (l : List S45) (hl : l.length ≤ 1048576) : ∀ (d i : Nat) (b : Int), i + d = l.length → (i = 0 → b = 0) → (0 < i → b = (rd_T45 l ((i : Int) - 1)).f1 + 1 ∧ 1 ≤ b ∧ b ≤ 10000) →
    Ev (fun k => spec_SetOk.l0 k l (i : Int)) (okL b ((l.drop i).map pr) && decide ((l.length : Int) ≤ 40)) := by
  intro d
  induction d with
  | zero =>
    intro i b hi h0 h1
    refine Ev.step (spec_SetOk.l0.eq_2 l (i : Int)) (Ev.no (by omega) (Ev.const ?_))
    rw [List.drop_eq_nil_of_le (by omega)]; rfl
  | succ d ih =>
    intro i b hi h0 h1
    have hlt : i < l.length := by omega
    have e := rd45_at l i hlt
    rw [List.drop_eq_getElem_cons hlt]
    simp only [List.map_cons, okL]
    have ep : pr l[i] = ((rd_T45 l (i : Int)).f0, (rd_T45 l (i : Int)).f1) := by rw [e]; rfl
    rw [ep]
    generalize rd_T45 l (i : Int) = x at ep e
    have hn : ∀ c : Int, c = x.f1 + 1 → 1 ≤ x.f1 ∧ x.f1 ≤ 9999 → Ev (fun k => spec_SetOk.l0 k l ((i + 1 : Nat) : Int)) (okL c ((l.drop (i + 1)).map pr) && decide ((l.length : Int) ≤ 40)) := by
      intro c hc hx
      refine ih (i + 1) c (by omega) (fun h => by omega) (fun _ => ?_)
      have e3 : (((i + 1 : Nat) : Int) - 1) = (i : Int) := by omega
      rw [e3, rd45_at l i hlt, ← e]
      exact ⟨hc, by omega, by omega⟩
    have e2 : wrap64 ((i : Int) + 1) = ((i + 1 : Nat) : Int) := by rw [w64 (by omega) (by omega)]; omega
    have hx0 : (rd_T45 l (i : Int)) = x := by rw [rd45_at l i hlt]; exact e.symm
    refine Ev.step (spec_SetOk.l0.eq_2 l (i : Int)) ?_
    rw [e2]
    clear e2 e ep ih
    rw [hx0]
    have hz : 0 < i → wrap64 ((i : Int) - 1) = (i : Int) - 1 := fun h => w64 (by omega) (by omega)
    refine Ev.yes (by omega) (Ev.yes (by omega) (Ev.bindc (spec_l01In_ev _ _ _) ?_))
    refine Ev.ite (fun h2 => ?_) (fun h2 => ?_)
    · rw [decide_eq_true_eq] at h2
      refine Ev.ite (fun h3 => ?_) (fun h3 => ?_)
      · rw [decide_eq_false (by omega)]; exact Ev.now _
      · refine Ev.ite (fun h4 => ?_) (fun h4 => ?_)
        · obtain ⟨h5, h6, h7⟩ := h1 (by omega)
          rw [hz (by omega), w64 (x := (rd_T45 l ((i : Int) - 1)).f1 + 1) (by omega) (by omega), ← h5]
          clear hz
          refine Ev.yes (by omega) (Ev.yes (by omega) ?_)
          refine Ev.ite (fun h8 => ?_) (fun h8 => ?_)
          · rw [decide_eq_false (by omega)]; exact Ev.now _
          · rw [decide_eq_true (show b < x.f0 ∧ 1 ≤ x.f0 ∧ x.f0 ≤ x.f1 ∧ x.f1 ≤ 9999 by omega), Bool.true_and]
            exact hn _ rfl (by omega)
        · clear hz
          have h9 := h0 (by omega)
          rw [decide_eq_true (show b < x.f0 ∧ 1 ≤ x.f0 ∧ x.f0 ≤ x.f1 ∧ x.f1 ≤ 9999 by omega), Bool.true_and]
          exact hn _ rfl (by omega)
    · rw [decide_eq_true_eq] at h2
      rw [decide_eq_false (by omega)]; exact Ev.now _

theorem spec_SetOk_ev (l : List S45) (hl : l.length ≤ 1048576) : Ev (fun k => spec_SetOk.f k l) (setOkB (l.map pr)) := by
  have := spec_SetOk_l0 l hl l.length 0 0 (by omega) (fun _ => rfl) (fun h => by omega)
  unfold setOkB
  rw [List.length_map]
  exact this

theorem impl_isUid_ev (a : Int) : impl_isUid.f a = some (decide (1 ≤ a ∧ a ≤ 9999)) := by unfold impl_isUid.f; rw [impl_within_ev]; rfl
theorem impl_SetOk_l0 (l : List S45) (hl : l.length ≤ 1048576) : ∀ (d i : Nat) (b : Int), i + d = l.length → (i = 0 → b = 0) → (0 < i → b = (rd_T45 l ((i : Int) - 1)).f1 + 1 ∧ 1 ≤ b ∧ b ≤ 10000) →
    Ev (fun k => impl_SetOk.l0 k l l (l.length : Int) (i : Int)) (okL b ((l.drop i).map pr) && decide ((l.length : Int) ≤ 40)) := by
  intro d
  induction d with
  | zero =>
    intro i b hi h0 h1
    refine Ev.step (impl_SetOk.l0.eq_2 l l (l.length : Int) (i : Int)) (Ev.no (by omega) (Ev.const ?_))
    rw [List.drop_eq_nil_of_le (by omega)]; rfl
  | succ d ih =>
    intro i b hi h0 h1
    have hlt : i < l.length := by omega
    have e := rd45_at l i hlt
    rw [List.drop_eq_getElem_cons hlt]
    simp only [List.map_cons, okL]
    have ep : pr l[i] = ((rd_T45 l (i : Int)).f0, (rd_T45 l (i : Int)).f1) := by rw [e]; rfl
    rw [ep]
    generalize rd_T45 l (i : Int) = x at ep e
    have hn : ∀ c : Int, c = x.f1 + 1 → 1 ≤ x.f1 ∧ x.f1 ≤ 9999 → Ev (fun k => impl_SetOk.l0 k l l (l.length : Int) ((i + 1 : Nat) : Int)) (okL c ((l.drop (i + 1)).map pr) && decide ((l.length : Int) ≤ 40)) := by
      intro c hc hx
      refine ih (i + 1) c (by omega) (fun h => by omega) (fun _ => ?_)
      have e3 : (((i + 1 : Nat) : Int) - 1) = (i : Int) := by omega
      rw [e3, rd45_at l i hlt, ← e]
      exact ⟨hc, by omega, by omega⟩
    have e2 : wrap64 ((i : Int) + 1) = ((i + 1 : Nat) : Int) := by rw [w64 (by omega) (by omega)]; omega
    have hx0 : (rd_T45 l (i : Int)) = x := by rw [rd45_at l i hlt]; exact e.symm
    refine Ev.step (impl_SetOk.l0.eq_2 l l (l.length : Int) (i : Int)) ?_
    rw [e2]
    clear e2 e ep ih
    rw [hx0]
    have hz : 0 < i → wrap64 ((i : Int) - 1) = (i : Int) - 1 := fun h => w64 (by omega) (by omega)
    refine Ev.yes (by omega) (Ev.yes (by omega) (Ev.yes (by omega) (Ev.bindc (impl_isUid_ev _) ?_)))
    refine Ev.ite (fun h2 => ?_) (fun h2 => ?_)
    · rw [decide_eq_true_eq] at h2
      refine Ev.bindc (impl_within_ev _ _ _) ?_
      refine Ev.ite (fun h3 => ?_) (fun h3 => ?_)
      · rw [decide_eq_true_eq] at h3
        refine Ev.ite (fun h4 => ?_) (fun h4 => ?_)
        · obtain ⟨h5, h6, h7⟩ := h1 (by omega)
          rw [hz (by omega), w64 (x := (rd_T45 l ((i : Int) - 1)).f1 + 1) (by omega) (by omega), ← h5]
          clear hz
          refine Ev.yes (by omega) (Ev.yes (by omega) ?_)
          refine Ev.ite (fun h8 => ?_) (fun h8 => ?_)
          · rw [decide_eq_false (by omega)]; exact Ev.now _
          · rw [decide_eq_true (show b < x.f0 ∧ 1 ≤ x.f0 ∧ x.f0 ≤ x.f1 ∧ x.f1 ≤ 9999 by omega), Bool.true_and]
            exact hn _ rfl (by omega)
        · clear hz
          have h9 := h0 (by omega)
          rw [decide_eq_true (show b < x.f0 ∧ 1 ≤ x.f0 ∧ x.f0 ≤ x.f1 ∧ x.f1 ≤ 9999 by omega), Bool.true_and]
          exact hn _ rfl (by omega)
      · rw [decide_eq_true_eq] at h3
        rw [decide_eq_false (by omega)]; exact Ev.now _
    · rw [decide_eq_true_eq] at h2
      rw [decide_eq_false (by omega)]; exact Ev.now _

theorem impl_SetOk_ev (l : List S45) (hl : l.length ≤ 1048576) : Ev (fun k => impl_SetOk.f k l) (setOkB (l.map pr)) := by
  have := impl_SetOk_l0 l hl l.length 0 0 (by omega) (fun _ => rfl) (fun h => by omega)
  unfold setOkB
  rw [List.length_map]
  exact this


theorem okL_append : ∀ (l : List (Int × Int)) (b : Int) (q q2 : Int × Int), okL b (l ++ [q]) = true → q.2 + 1 < q2.1 → 1 ≤ q2.1 → q2.1 ≤ q2.2 → q2.2 ≤ 9999 → okL b (l ++ [q] ++ [q2]) = true
  | [], b, q, q2, h, h1, h2, h3, h4 => by
    simp only [List.nil_append, List.cons_append, okL, Bool.and_eq_true, decide_eq_true_eq, and_true] at h ⊢
    omega
  | p :: l, b, q, q2, h, h1, h2, h3, h4 => by
    simp only [List.cons_append, okL, Bool.and_eq_true, decide_eq_true_eq] at h ⊢
    exact ⟨h.1, okL_append l _ q q2 h.2 h1 h2 h3 h4⟩
theorem okL_stretch : ∀ (l : List (Int × Int)) (b x y z : Int), okL b (l ++ [(x, y)]) = true → y ≤ z → z ≤ 9999 → okL b (l ++ [(x, z)]) = true
  | [], b, x, y, z, h, h1, h2 => by
    simp only [List.nil_append, okL, Bool.and_eq_true, decide_eq_true_eq, and_true] at h ⊢
    omega
  | p :: l, b, x, y, z, h, h1, h2 => by
    simp only [List.cons_append, okL, Bool.and_eq_true, decide_eq_true_eq] at h ⊢
    exact ⟨h.1, okL_stretch l _ x y z h.2 h1 h2⟩
theorem rd_last (ys : List S45) (x : S45) : rd_T45 (ys ++ [x]) (((ys ++ [x]).length : Int) - 1) = x := by
  rw [List.length_append, List.length_singleton]
  have e : ((ys.length + 1 : Nat) : Int) - 1 = (ys.length : Int) := by omega
  rw [e]
  unfold rd_T45
  rw [Int.toNat_natCast, List.getD_eq_getElem?_getD, List.getElem?_concat_length]; rfl
theorem set_last (ys : List S45) (x y : S45) : (ys ++ [x]).set (((ys ++ [x]).length : Int) - 1).toNat y = ys ++ [y] := by
  rw [List.length_append, List.length_singleton]
  have e : (((ys.length + 1 : Nat) : Int) - 1).toNat = ys.length := by omega
  rw [e, List.set_append_right _ _ (Nat.le_refl _), Nat.sub_self]; rfl
/-- one number more -/
def step (p : Int → Bool) (xs : List S45) (n : Int) : List S45 :=
  if p n = true then (if 0 < xs.length ∧ (rd_T45 xs ((xs.length : Int) - 1)).f1 = n - 1 then xs.set ((xs.length : Int) - 1).toNat ⟨(rd_T45 xs ((xs.length : Int) - 1)).f0, n⟩ else xs ++ [⟨n, n⟩]) else xs
def fin (p : Int → Bool) : Nat → List S45 → Int → List S45
  | 0, xs, _ => xs
  | d + 1, xs, n => fin p d (step p xs n) (n + 1)
theorem step_len (p : Int → Bool) (xs : List S45) (n : Int) : (step p xs n).length ≤ xs.length + 1 := by
  unfold step
  split
  · split
    · rw [List.length_set]; omega
    · rw [List.length_append]; simp
  · omega
theorem fin_len (p : Int → Bool) : ∀ d xs n, (fin p d xs n).length ≤ xs.length + d
  | 0, xs, n => by simp [fin]
  | d + 1, xs, n => by
    have h1 := fin_len p d (step p xs n) (n + 1)
    have h2 := step_len p xs n
    simp only [fin]
    omega
theorem impl_setOf_l0 (p : Int → Bool) : ∀ (d : Nat) (xs : List S45) (n : Int), n + d = 10000 → 1 ≤ n → xs.length ≤ n → Ev (fun k => impl_setOf.l0 k ⟨p, 0, #[]⟩ xs n) (fin p d xs n, decide ((fin p d xs n).length ≤ 40)) := by
  intro d
  induction d with
  | zero =>
    intro xs n hn h1 hl
    refine Ev.step (impl_setOf.l0.eq_2 _ xs n) (Ev.no (by omega) (Ev.const ?_))
    simp only [fin]
    congr 2
    exact decide_eq_decide.2 (by omega)
  | succ d ih =>
    intro xs n hn h1 hl
    have hs := step_len p xs n
    have hr := ih (step p xs n) (n + 1) (by omega) (by omega) (by omega)
    refine Ev.step (impl_setOf.l0.eq_2 _ xs n) (Ev.yes (by omega) (Ev.bindc (show PVcall.f ⟨p, 0, #[]⟩ n = some (p n) from rfl) ?_))
    have w1 : wrap64 ((xs.length : Int) - 1) = (xs.length : Int) - 1 := w64 (by omega) (by omega)
    have w2 : wrap64 (n - 1) = n - 1 := w64 (by omega) (by omega)
    have w3 : wrap64 (n + 1) = n + 1 := w64 (by omega) (by omega)
    rw [w1, w2, w3]
    clear w1 w2 w3
    change Ev _ (fin p d (step p xs n) (n + 1), decide ((fin p d (step p xs n) (n + 1)).length ≤ 40))
    generalize hz : step p xs n = z at hr ⊢
    unfold step at hz
    refine Ev.ite (fun hp => ?_) (fun hp => ?_)
    · rw [if_pos hp] at hz
      refine Ev.ite (fun h0 => ?_) (fun h0 => ?_)
      · refine Ev.yes (by omega) (Ev.yes (by omega) (Ev.ite (fun h2 => ?_) (fun h2 => ?_)))
        · rw [if_pos ⟨by omega, h2⟩] at hz
          rw [hz]; exact hr
        · rw [if_neg (fun h => h2 h.2)] at hz
          rw [hz]; exact Ev.yes (by omega) hr
      · rw [if_neg (fun h => h0 (by omega))] at hz
        rw [hz]; exact Ev.yes (by omega) hr
    · rw [if_neg hp] at hz
      rw [hz]; exact hr
theorem impl_setOf_ev (p : Int → Bool) : Ev (fun k => impl_setOf.f k ⟨p, 0, #[]⟩) (fin p 9999 [] 1, decide ((fin p 9999 [] 1).length ≤ 40)) := impl_setOf_l0 p 9999 [] 1 (by omega) (by omega) (by simp)
/-- what is told ahead of n -/
def Inv (p : Int → Bool) (xs : List S45) (n : Int) : Prop :=
  (xs = [] ∧ p (n - 1) = false) ∨ ∃ (ys : List S45) (a b : Int), xs = ys ++ [⟨a, b⟩] ∧ okL 0 ((ys.map pr) ++ [(a, b)]) = true ∧ b ≤ n - 1 ∧ p (n - 1) = decide (b = n - 1)
theorem Inv_step (p : Int → Bool) (xs : List S45) (n : Int) (h : Inv p xs n) (h1 : 1 ≤ n) (h2 : n ≤ 9999) : Inv p (step p xs n) (n + 1) := by
  have e : n + 1 - 1 = n := by omega
  unfold Inv
  rw [e]
  rcases h with ⟨rfl, h⟩ | ⟨ys, a, b, rfl, hok, hb, hp⟩
  · unfold step
    by_cases hn : p n = true
    · rw [if_pos hn, if_neg (by simp)]
      exact .inr ⟨[], n, n, rfl, by simp [okL]; omega, by omega, by simp [hn]⟩
    · rw [if_neg hn]
      exact .inl ⟨rfl, by simpa using hn⟩
  · unfold step
    by_cases hn : p n = true
    · rw [if_pos hn, rd_last, set_last]
      by_cases hc : b = n - 1
      · rw [if_pos ⟨by simp, hc⟩]
        exact .inr ⟨ys, a, n, rfl, okL_stretch _ 0 a b n hok (by omega) h2, by omega, by simp [hn]⟩
      · rw [if_neg (fun h => hc h.2)]
        refine .inr ⟨ys ++ [⟨a, b⟩], n, n, rfl, ?_, by omega, by simp [hn]⟩
        rw [List.map_append]
        exact okL_append _ 0 (a, b) (n, n) hok (by show b + 1 < n; omega) h1 (Int.le_refl _) h2
    · rw [if_neg hn]
      refine .inr ⟨ys, a, b, rfl, hok, by omega, ?_⟩
      have : ¬ b = n := by omega
      simp [this, hn]
theorem Inv_ok {p : Int → Bool} {xs : List S45} {n : Int} (h : Inv p xs n) : setOkB (xs.map pr) = decide (xs.length ≤ 40) := by
  unfold setOkB
  have : okL 0 (xs.map pr) = true := by
    rcases h with ⟨rfl, _⟩ | ⟨ys, a, b, rfl, hok, _, _⟩
    · rfl
    · rw [List.map_append]; exact hok
  rw [this, Bool.true_and, List.length_map]
  exact decide_eq_decide.2 (by omega)
theorem spec_l05Set_l0 (p : Int → Bool) (bits : List Bool) (hb : bits.length = 10001) (hp : ∀ i : Int, 0 ≤ i → i ≤ 9999 → rdOf false bits i = p i) :
    ∀ (d : Nat) (xs : List S45) (n : Int), n + d = 10000 → 1 ≤ n → xs.length ≤ n → Inv p xs n →
      Ev (fun k => spec_l05Set.l0 k bits xs n) (if (fin p d xs n).length ≤ 40 then (fin p d xs n, true) else ([], false)) := by
  intro d
  induction d with
  | zero =>
    intro xs n hn h1 hl hi
    refine Ev.step (spec_l05Set.l0.eq_2 bits xs n) (Ev.no (by omega) ?_)
    have hok := spec_SetOk_ev xs (by omega)
    rw [Inv_ok hi] at hok
    refine Ev.bind hok ?_
    change Ev _ (if xs.length ≤ 40 then (xs, true) else ([], false))
    by_cases h40 : xs.length ≤ 40
    · rw [if_pos h40]; exact Ev.yes (by simpa using h40) (Ev.now _)
    · rw [if_neg h40]; exact Ev.no (by simpa using h40) (Ev.now _)
  | succ d ih =>
    intro xs n hn h1 hl hi
    have hs := step_len p xs n
    have hr := ih (step p xs n) (n + 1) (by omega) (by omega) (by omega) (Inv_step p xs n hi h1 (by omega))
    refine Ev.step (spec_l05Set.l0.eq_2 bits xs n) (Ev.yes (by omega) (Ev.yes (by omega) (Ev.yes (by omega) ?_)))
    have w2 : wrap64 (n - 1) = n - 1 := w64 (by omega) (by omega)
    have w3 : wrap64 (n + 1) = n + 1 := w64 (by omega) (by omega)
    rw [w2, w3, hp n (by omega) (by omega), hp (n - 1) (by omega) (by omega)]
    clear w2 w3
    change Ev _ (if (fin p d (step p xs n) (n + 1)).length ≤ 40 then (fin p d (step p xs n) (n + 1), true) else ([], false))
    generalize hz : step p xs n = z at hr ⊢
    unfold step at hz
    refine Ev.ite (fun hpn => ?_) (fun hpn => ?_)
    · rw [if_pos hpn] at hz
      refine Ev.yes (by omega) (Ev.yes (by omega) ?_)
      refine Ev.ite (fun h => ?_) (fun h => ?_)
      · rcases hi with ⟨rfl, h3⟩ | ⟨ys, a, b, rfl, hok, hbn, h3⟩
        · rw [h3] at h; cases h
        · rw [h3] at h
          have hbe : b = n - 1 := by simpa using h
          have hlen : 0 < (ys ++ [(⟨a, b⟩ : S45)]).length := by simp
          have w1 : wrap64 (((ys ++ [(⟨a, b⟩ : S45)]).length : Int) - 1) = ((ys ++ [(⟨a, b⟩ : S45)]).length : Int) - 1 := w64 (by omega) (by omega)
          rw [w1]
          clear w1
          rw [rd_last, if_pos ⟨hlen, hbe⟩] at hz
          refine Ev.yes (by omega) (Ev.yes (by omega) ?_)
          rw [rd_last, hz]
          exact hr
      · have hz2 : xs ++ [(⟨n, n⟩ : S45)] = z := by
          rw [if_neg] at hz
          · exact hz
          · rintro ⟨h4, h5⟩
            rcases hi with ⟨rfl, h3⟩ | ⟨ys, a, b, rfl, hok, hbn, h3⟩
            · simp at h4
            · rw [rd_last] at h5
              rw [h3] at h
              exact h (by simpa using h5)
        refine Ev.yes (by omega) (Ev.bindc rfl ?_)
        have hlen : (xs ++ [(⟨n, 0⟩ : S45)]).length = xs.length + 1 := by simp
        have w1 : wrap64 (((xs ++ [(⟨n, 0⟩ : S45)]).length : Int) - 1) = ((xs ++ [(⟨n, 0⟩ : S45)]).length : Int) - 1 := w64 (by omega) (by omega)
        rw [w1]
        clear w1
        refine Ev.yes (by omega) (Ev.yes (by omega) ?_)
        rw [rd_last, set_last, hz2]
        exact hr
    · rw [if_neg hpn] at hz
      rw [hz]; exact hr
theorem spec_l05Set_ev (p : Int → Bool) (bits : List Bool) (hb : bits.length = 10001) (hp : ∀ i : Int, 0 ≤ i → i ≤ 9999 → rdOf false bits i = p i) (h0 : p 0 = false) :
    Ev (fun k => spec_l05Set.f k bits) (if (fin p 9999 [] 1).length ≤ 40 then (fin p 9999 [] 1, true) else ([], false)) :=
  spec_l05Set_l0 p bits hb hp 9999 [] 1 (by omega) (by omega) (by simp) (.inl ⟨rfl, h0⟩)

theorem rdb_set (xs : List Bool) (n : Int) (v : Bool) (h0 : 0 ≤ n) (h1 : n < (xs.length : Int)) (i : Int) (hi : 0 ≤ i) : rdOf false (xs.set n.toNat v) i = if i = n then v else rdOf false xs i := by
  unfold rdOf
  rw [List.getD_eq_getElem?_getD, List.getD_eq_getElem?_getD, List.getElem?_set]
  by_cases h : i = n
  · subst h
    rw [if_pos rfl, if_pos rfl, if_pos (by omega)]; rfl
  · rw [if_neg (show ¬ n.toNat = i.toNat by omega), if_neg h]
theorem spec_l05Bits_l1 (l : List S45) (hl : l.length ≤ 1048576) (j : Nat) (hj : j < l.length) (h9 : (l[j]).f1 ≤ 9999) :
    ∀ (d : Nat) (bits : List Bool) (n : Int), (n + d = (l[j]).f1 + 1 ∨ (d = 0 ∧ (l[j]).f1 < n)) → 0 ≤ n → bits.length = 10001 →
      ∃ bits' : List Bool, bits'.length = 10001 ∧ (∀ i : Int, 0 ≤ i → rdOf false bits' i = (rdOf false bits i || decide (n ≤ i ∧ i ≤ (l[j]).f1))) ∧
        ∀ R, Ev (fun k => spec_l05Bits.l0 k l bits' ((j + 1 : Nat) : Int)) R → Ev (fun k => spec_l05Bits.l1 k l bits (j : Int) n) R := by
  intro d
  have er := rd45_at l j hj
  have w3 : wrap64 ((j : Int) + 1) = ((j + 1 : Nat) : Int) := by rw [w64 (by omega) (by omega)]; omega
  induction d with
  | zero =>
    intro bits n hn h0 hb
    refine ⟨bits, hb, fun i hi => ?_, fun R hR => ?_⟩
    · have : ¬ (n ≤ i ∧ i ≤ (l[j]).f1) := by omega
      rw [decide_eq_false this, Bool.or_false]
    · refine Ev.step (spec_l05Bits.l1.eq_2 l bits (j : Int) n) (Ev.yes (by omega) (Ev.yes (by omega) (Ev.no (by rw [er]; omega) ?_)))
      rw [w3]; exact hR
  | succ d ih =>
    intro bits n hn h0 hb
    have hn2 : n + (d + 1 : Nat) = (l[j]).f1 + 1 := by omega
    obtain ⟨bits', hb', hrd, hk⟩ := ih (bits.set n.toNat true) (n + 1) (by omega) (by omega) (by rw [List.length_set]; exact hb)
    refine ⟨bits', hb', fun i hi => ?_, fun R hR => ?_⟩
    · rw [hrd i hi, rdb_set bits n true h0 (by omega) i hi]
      by_cases hin : i = n
      · rw [if_pos hin, decide_eq_true (show n ≤ i ∧ i ≤ (l[j]).f1 by omega), Bool.or_true, Bool.true_or]
      · rw [if_neg hin]
        congr 1
        exact decide_eq_decide.2 (by omega)
    · refine Ev.step (spec_l05Bits.l1.eq_2 l bits (j : Int) n) (Ev.yes (by omega) (Ev.yes (by omega) (Ev.yes (by rw [er]; omega) (Ev.yes (by omega) (Ev.yes (by omega) ?_)))))
      have w4 : wrap64 (n + 1) = n + 1 := w64 (by omega) (by omega)
      rw [w4]
      exact hk R hR
theorem hasL_cons (q : Int × Int) (l : List (Int × Int)) (n : Int) : hasL (q :: l) n = (decide (q.1 ≤ n ∧ n ≤ q.2) || hasL l n) := rfl
theorem spec_l05Bits_l0 (l : List S45) (hl : l.length ≤ 1048576) (hok : ∀ q ∈ l.map pr, 1 ≤ q.1 ∧ q.1 ≤ q.2 ∧ q.2 ≤ 9999) :
    ∀ (d j : Nat) (bits : List Bool), j + d = l.length → bits.length = 10001 →
      ∃ bits' : List Bool, bits'.length = 10001 ∧ (∀ i : Int, 0 ≤ i → rdOf false bits' i = (rdOf false bits i || hasL ((l.drop j).map pr) i)) ∧ Ev (fun k => spec_l05Bits.l0 k l bits (j : Int)) bits' := by
  intro d
  induction d with
  | zero =>
    intro j bits hj hb
    refine ⟨bits, hb, fun i hi => ?_, Ev.step (spec_l05Bits.l0.eq_2 l bits (j : Int)) (Ev.no (by omega) (Ev.now _))⟩
    rw [List.drop_eq_nil_of_le (by omega)]
    simp [hasL]
  | succ d ih =>
    intro j bits hj hb
    have hlt : j < l.length := by omega
    have hq := hok (pr (l[j])) (List.mem_map_of_mem (List.getElem_mem hlt))
    have er := rd45_at l j hlt
    simp only [pr] at hq
    obtain ⟨b1, hb1, hr1, hk⟩ := spec_l05Bits_l1 l hl j hlt hq.2.2 ((l[j]).f1 + 1 - (l[j]).f0).toNat bits (l[j]).f0 (by omega) (by omega) hb
    obtain ⟨b2, hb2, hr2, h2⟩ := ih (j + 1) b1 (by omega) hb1
    refine ⟨b2, hb2, fun i hi => ?_, ?_⟩
    · rw [hr2 i hi, hr1 i hi, List.drop_eq_getElem_cons hlt, List.map_cons, hasL_cons, Bool.or_assoc]
      rfl
    · refine Ev.step (spec_l05Bits.l0.eq_2 l bits (j : Int)) (Ev.yes (by omega) (Ev.yes (by omega) ?_))
      rw [er]
      exact hk _ h2
theorem rdb_false (n : Nat) (i : Int) : rdOf false (List.replicate n false) i = false := by
  unfold rdOf
  rw [List.getD_eq_getElem?_getD, List.getElem?_replicate]
  split <;> rfl
theorem spec_l05Bits_ev (l : List S45) (hl : l.length ≤ 1048576) (hok : setOkB (l.map pr) = true) :
    ∃ bits : List Bool, bits.length = 10001 ∧ (∀ i : Int, 0 ≤ i → rdOf false bits i = hasL (l.map pr) i) ∧ Ev (fun k => spec_l05Bits.f k l) bits := by
  have h1 : okL 0 (l.map pr) = true := by
    unfold setOkB at hok
    rw [Bool.and_eq_true] at hok
    exact hok.1
  obtain ⟨b, hb, hr, h⟩ := spec_l05Bits_l0 l hl (fun q hq => okL_mem h1 q hq) l.length 0 (List.replicate 10001 false) (by omega) (by rw [List.length_replicate])
  refine ⟨b, hb, fun i hi => ?_, ?_⟩
  · rw [hr i hi, rdb_false, Bool.false_or]; rfl
  · unfold spec_l05Bits.f
    exact Ev.yes (by omega) h
theorem hasL_zero {l : List (Int × Int)} (hok : setOkB l = true) : hasL l 0 = false := by
  unfold setOkB at hok
  rw [Bool.and_eq_true] at hok
  unfold hasL
  rw [List.any_eq_false]
  intro q hq
  have := okL_mem hok.1 q hq
  simp only [decide_eq_true_eq]
  omega

theorem fin_congr {p q : Int → Bool} : ∀ (d : Nat) (xs : List S45) (n : Int), 0 ≤ n → (∀ i, 0 ≤ i → p i = q i) → fin p d xs n = fin q d xs n
  | 0, _, _, _, _ => rfl
  | d + 1, xs, n, h0, h => by
    simp only [fin]
    have e : step p xs n = step q xs n := by unfold step; rw [h n h0]
    rw [e]
    exact fin_congr d _ _ (by omega) h

def putP (tb : Bool) (l : List (Int × Int)) (lo hi n : Int) : Bool := if lo ≤ n ∧ n ≤ hi then tb else hasL l n
def putOut (p : Int → Bool) (s : List S45) (lo hi : Int) : List S45 × Bool :=
  if setOkB (s.map pr) = true ∧ (1 ≤ lo ∧ lo ≤ hi ∧ hi ≤ 9999) ∧ (fin p 9999 [] 1).length ≤ 40 then (fin p 9999 [] 1, true) else (s, false)
theorem spec_l05Put_l0 (tb : Bool) (same : List S45) (lo hi : Int) (hlo : 1 ≤ lo) (hhi : hi ≤ 9999) (A : Int → Bool) (hA : A 0 = false) :
    ∀ (d : Nat) (n : Int) (x : List Bool), n + d = hi + 1 → lo ≤ n → x.length = 10001 → (∀ i : Int, 0 ≤ i → rdOf false x i = if lo ≤ i ∧ i < n then tb else A i) →
      Ev (fun k => spec_l05Put.l0 k hi tb same x n) (if (fin (fun i => if lo ≤ i ∧ i ≤ hi then tb else A i) 9999 [] 1).length ≤ 40 then (fin (fun i => if lo ≤ i ∧ i ≤ hi then tb else A i) 9999 [] 1, true) else (same, false)) := by
  intro d
  induction d with
  | zero =>
    intro n x hn h0 hx hr
    have hs := spec_l05Set_ev (fun i => if lo ≤ i ∧ i ≤ hi then tb else A i) x hx (fun i hi0 h9 => by
      rw [hr i hi0]
      by_cases h : lo ≤ i ∧ i ≤ hi
      · rw [if_pos h, if_pos (by omega)]
      · rw [if_neg h, if_neg (by omega)]) (by rw [if_neg (by omega)]; exact hA)
    refine Ev.step (spec_l05Put.l0.eq_2 hi tb same x n) (Ev.no (by omega) (Ev.bind hs ?_))
    generalize fin (fun i => if lo ≤ i ∧ i ≤ hi then tb else A i) 9999 [] 1 = F
    by_cases h40 : F.length ≤ 40
    · rw [if_pos h40, if_pos h40]; exact Ev.yes rfl (Ev.now _)
    · rw [if_neg h40, if_neg h40]; exact Ev.no (by simp) (Ev.now _)
  | succ d ih =>
    intro n x hn h0 hx hr
    have w4 : wrap64 (n + 1) = n + 1 := w64 (by omega) (by omega)
    refine Ev.step (spec_l05Put.l0.eq_2 hi tb same x n) (Ev.yes (by omega) (Ev.yes (by omega) (Ev.yes (by omega) ?_)))
    rw [w4]
    clear w4
    refine ih (n + 1) (x.set n.toNat tb) (by omega) (by omega) (by rw [List.length_set]; exact hx) (fun i hi0 => ?_)
    rw [rdb_set x n tb (by omega) (by omega) i hi0]
    by_cases h : i = n
    · rw [if_pos h, if_pos (by omega)]
    · rw [if_neg h, hr i hi0]
      by_cases h2 : lo ≤ i ∧ i < n
      · rw [if_pos h2, if_pos (by omega)]
      · rw [if_neg h2, if_neg (by omega)]
theorem spec_l05Put_ev (s : List S45) (lo hi : Int) (tb : Bool) (hs : s.length ≤ 1048576) :
    Ev (fun k => spec_l05Put.f k s lo hi tb) (putOut (putP tb (s.map pr) lo hi) s lo hi) := by
  unfold spec_l05Put.f
  refine Ev.bindc rfl (Ev.yes (by simp; omega) (Ev.bindc rfl ?_))
  rw [List.nil_append]
  refine Ev.bind (spec_SetOk_ev s hs) (Ev.ite (fun h1 => ?_) (fun h1 => ?_))
  · refine Ev.bindc (spec_l01In_ev lo 1 hi) (Ev.ite (fun h2 => ?_) (fun h2 => ?_))
    · have h2 : 1 ≤ lo ∧ lo ≤ hi := by simpa using h2
      by_cases h3 : hi ≤ 9999
      · refine Ev.step (spec_l05Put.j0.eq_2 _ _ _ _ _ _) (Ev.no (by simp; omega) ?_)
        obtain ⟨x, hx, hrx, e1⟩ := spec_l05Bits_ev s hs h1
        refine Ev.bind e1 ?_
        have hl := spec_l05Put_l0 tb s lo hi h2.1 h3 (fun i => hasL (s.map pr) i) (hasL_zero h1) (hi + 1 - lo).toNat lo x (by omega) (Int.le_refl _) hx (fun i hi0 => by rw [if_neg (by omega)]; exact hrx i hi0)
        have e : (fun i => if lo ≤ i ∧ i ≤ hi then tb else hasL (s.map pr) i) = putP tb (s.map pr) lo hi := rfl
        rw [e] at hl
        unfold putOut
        generalize fin (putP tb (s.map pr) lo hi) 9999 [] 1 = F at hl ⊢
        by_cases h4 : F.length ≤ 40
        · rw [if_pos h4] at hl
          rw [if_pos ⟨h1, ⟨h2.1, h2.2, h3⟩, h4⟩]; exact hl
        · rw [if_neg h4] at hl
          rw [if_neg (fun h => h4 h.2.2)]; exact hl
      · unfold putOut
        rw [if_neg (fun h => h3 h.2.1.2.2)]
        exact Ev.step (spec_l05Put.j0.eq_2 _ _ _ _ _ _) (Ev.yes (by simp; omega) (Ev.now _))
    · unfold putOut
      rw [if_neg (fun h => h2 (by simpa using And.intro h.2.1.1 h.2.1.2.1))]
      exact Ev.step (spec_l05Put.j0.eq_2 _ _ _ _ _ _) (Ev.yes rfl (Ev.now _))
  · unfold putOut
    rw [if_neg (fun h => h1 h.1)]
    exact Ev.step (spec_l05Put.j0.eq_2 _ _ _ _ _ _) (Ev.yes rfl (Ev.now _))

theorem impl_SetAdd_ev (s : List S45) (lo hi : Int) (hs : s.length ≤ 1048576) :
    Ev (fun k => impl_SetAdd.f k s lo hi) (putOut (putP true (s.map pr) lo hi) s lo hi) := by
  have h0 := impl_setOf_ev (impl_SetAdd.holds s lo hi)
  have e : fin (impl_SetAdd.holds s lo hi) 9999 [] 1 = fin (putP true (s.map pr) lo hi) 9999 [] 1 := fin_congr 9999 [] 1 (by omega) (fun i _ => by
    show (hasL (s.map pr) i || decide (lo ≤ i ∧ i ≤ hi)) = (if lo ≤ i ∧ i ≤ hi then true else hasL (s.map pr) i)
    by_cases h : lo ≤ i ∧ i ≤ hi
    · rw [if_pos h, decide_eq_true h]; simp
    · rw [if_neg h, decide_eq_false h]; simp)
  rw [e] at h0
  unfold impl_SetAdd.f putOut
  generalize fin (putP true (s.map pr) lo hi) 9999 [] 1 = F at h0 ⊢
  refine Ev.yes hs (Ev.bind (impl_SetOk_ev s hs) ?_)
  refine Ev.ite (fun h => Ev.bind h0 (Ev.ite (fun h2 => ?_) (fun h2 => ?_))) (fun h => ?_)
  · rw [if_pos ⟨h.1, ⟨h.2.1.1, h.2.2.1, h.2.2.2⟩, by simpa using h2⟩]; exact Ev.now _
  · rw [if_neg (fun h3 => h2 (by simpa using h3.2.2))]; exact Ev.now _
  · rw [if_neg (fun h3 => h ⟨h3.1, ⟨h3.2.1.1, Int.le_trans h3.2.1.2.1 h3.2.1.2.2⟩, h3.2.1.2.1, h3.2.1.2.2⟩)]; exact Ev.now _
theorem spec_SetAdd_ev (s : List S45) (lo hi : Int) (hs : s.length ≤ 1048576) :
    Ev (fun k => spec_SetAdd.f k s lo hi) (putOut (putP true (s.map pr) lo hi) s lo hi) := by
  unfold spec_SetAdd.f
  have h := spec_l05Put_ev s lo hi true hs
  obtain ⟨R, hR⟩ : ∃ R, putOut (putP true (s.map pr) lo hi) s lo hi = R := ⟨_, rfl⟩
  rw [hR] at h ⊢
  clear hR
  obtain ⟨R1, R2⟩ := R
  refine Ev.bind h ?_
  exact ⟨0, fun _ _ => rfl⟩
theorem putOut_len (p : Int → Bool) (s : List S45) (lo hi : Int) (hs : s.length ≤ 1048576) : (putOut p s lo hi).1.length ≤ 1048576 := by
  unfold putOut
  generalize fin p 9999 [] 1 = F
  split
  · rename_i h
    have := h.2.2
    show F.length ≤ 1048576
    omega
  · exact hs

theorem rdr_set (xs : List S45) (i : Nat) (v : S45) (h : i < xs.length) : rd_T45 (xs.set i v) (i : Int) = v := by
  unfold rd_T45
  rw [Int.toNat_natCast, List.getD_eq_getElem?_getD, List.getElem?_set_self h]; rfl
theorem laws_markRangeS_l0 : ∀ (d i : Nat) (xs : List S45) (m : Int), i + d = xs.length → xs.length ≤ 2097152 → 0 ≤ m → m + 2 * d ≤ 1000000000000 →
    ∃ ys : List S45, Ev (fun k => laws_markRangeS.l0 k xs m (i : Int)) (m + 2 * d, ys) ∧ ys.length = xs.length ∧ ys.take i = xs.take i ∧ (∀ j, j < d → rd_T45 ys ((i + j : Nat) : Int) = ⟨m + 2 * j, m + 2 * j + 1⟩) := by
  intro d
  induction d with
  | zero =>
    intro i xs m hi hx h0 hm
    refine ⟨xs, Ev.step (laws_markRangeS.l0.eq_2 xs m (i : Int)) (Ev.no (by omega) (Ev.const ?_)), rfl, rfl, fun j hj => by omega⟩
    simp
  | succ d ih =>
    intro i xs m hi hx h0 hm
    have hlt : i < xs.length := by omega
    obtain ⟨v, hv⟩ : ∃ v : S45, v = ⟨m, m + 1⟩ := ⟨_, rfl⟩
    obtain ⟨ys, hy, hlen, htake, hall⟩ := ih (i + 1) (xs.set i v) (m + 2) (by rw [List.length_set]; omega) (by rw [List.length_set]; exact hx) (by omega) (by omega)
    rw [List.length_set] at hlen
    refine ⟨ys, Ev.step (laws_markRangeS.l0.eq_2 xs m (i : Int)) ?_, hlen, ?_, ?_⟩
    · have w1 : wrap64 (m + 1) = m + 1 := w64 (by omega) (by omega)
      have w2 : wrap64 (m + 1 + 1) = m + 2 := by rw [w64 (by omega) (by omega)]; omega
      have w4 : wrap64 ((i : Int) + 1) = ((i + 1 : Nat) : Int) := by rw [w64 (by omega) (by omega)]; omega
      rw [w1, w2, w4]
      clear w1 w2 w4
      refine Ev.yes (by omega) (Ev.yes (by omega) (Ev.bindc rfl ?_))
      simp only [Int.toNat_natCast, List.set_set, rdr_set xs i _ hlt]
      rw [← hv]
      have e : m + 2 + 2 * (d : Int) = m + 2 * ((d + 1 : Nat) : Int) := by omega
      rw [e] at hy
      exact hy
    · have h1 := congrArg (List.take i) htake
      rw [List.take_take, List.take_take, Nat.min_eq_left (by omega), List.take_set_of_le (Nat.le_refl i)] at h1
      exact h1
    · intro j hj
      cases j with
      | zero =>
        have h1 := congrArg (fun l => l[i]?) htake
        change (ys.take (i + 1))[i]? = ((xs.set i v).take (i + 1))[i]? at h1
        rw [List.getElem?_take_of_lt (by omega), List.getElem?_take_of_lt (by omega), List.getElem?_set_self hlt] at h1
        unfold rd_T45
        rw [Nat.add_zero, Int.toNat_natCast, List.getD_eq_getElem?_getD, h1, hv]
        have e0 : m + 2 * ((0 : Nat) : Int) = m := by omega
        rw [e0]; rfl
      | succ j =>
        have h1 := hall j (by omega)
        have e1 : m + 2 * ((j + 1 : Nat) : Int) = m + 2 + 2 * (j : Int) := by omega
        have e2 : i + (j + 1) = i + 1 + j := by omega
        rw [e1, e2]
        exact h1
theorem laws_heldRangeS_l0 : ∀ (d i : Nat) (ys : List S45) (m : Int), i + d = ys.length → ys.length ≤ 2097152 → 0 ≤ m → m + 2 * d ≤ 1000000000000 →
    (∀ j, j < d → rd_T45 ys ((i + j : Nat) : Int) = ⟨m + 2 * j, m + 2 * j + 1⟩) → Ev (fun k => laws_heldRangeS.l0 k ys m (i : Int)) (m + 2 * d) := by
  intro d
  induction d with
  | zero =>
    intro i ys m hi hx h0 hm hall
    refine Ev.step (laws_heldRangeS.l0.eq_2 ys m (i : Int)) (Ev.no (by omega) (Ev.const ?_))
    simp
  | succ d ih =>
    intro i ys m hi hx h0 hm hall
    have e0 := hall 0 (by omega)
    rw [Nat.add_zero] at e0
    have w1 : wrap64 (m + 1) = m + 1 := w64 (by omega) (by omega)
    have w2 : wrap64 (m + 1 + 1) = m + 2 := by rw [w64 (by omega) (by omega)]; omega
    have w4 : wrap64 ((i : Int) + 1) = ((i + 1 : Nat) : Int) := by rw [w64 (by omega) (by omega)]; omega
    refine Ev.step (laws_heldRangeS.l0.eq_2 ys m (i : Int)) ?_
    rw [w1, w2, w4, e0]
    clear w1 w2 w4
    refine Ev.yes (by omega) (Ev.yes (by omega) (Ev.yes (by simp) (Ev.yes (by simp) ?_)))
    have h := ih (i + 1) ys (m + 2) (by omega) hx (by omega) (by omega) (fun j hj => by
      have h1 := hall (j + 1) (by omega)
      have e1 : m + 2 * ((j + 1 : Nat) : Int) = m + 2 + 2 * (j : Int) := by omega
      have e2 : i + (j + 1) = i + 1 + j := by omega
      rw [e1, e2] at h1
      exact h1)
    have e : m + 2 + 2 * (d : Int) = m + 2 * ((d + 1 : Nat) : Int) := by omega
    rw [e] at h
    exact h
theorem markrange_ev (xs : List S45) (m : Int) (hx : xs.length ≤ 2097152) (h0 : 0 ≤ m) (hm : m ≤ 100000000000) :
    ∃ ys : List S45, ∃ n : Int, Ev (fun k => laws_markRangeS.f k xs m) (n, ys) ∧ Ev (fun k => laws_heldRangeS.f k ys m) n ∧ 0 ≤ n ∧ n = m + 2 * xs.length := by
  obtain ⟨ys, h1, h2, -, h3⟩ := laws_markRangeS_l0 xs.length 0 xs m (by omega) hx h0 (by omega)
  have h4 := laws_heldRangeS_l0 ys.length 0 ys m (by omega) (by omega) h0 (by omega) (fun j hj => h3 j (by omega))
  rw [h2] at h4
  exact ⟨ys, m + 2 * xs.length, h1, h4, by omega, rfl⟩

theorem FnExactSetAdd : ∀ (l0 : List S47) (a1 : Int) (a2 : Int), l0.length ≤ 9223372036854775807 → (∀ x ∈ l0, (Lit.int .i64 x.f0).wf = true ∧ (Lit.int .i64 x.f1).wf = true) → (Lit.int .i64 a1).wf = true → (Lit.int .i64 a2).wf = true → ∃ k, laws_FnExactSetAdd.f k l0 a1 a2 = some true := by
  intro l a b hl _ _ _
  apply Ev.rounds
  unfold laws_FnExactSetAdd.f
  refine Ev.bindc (laws_szRangeS_ev l 1048576 hl (by omega) (by omega)) ?_
  by_cases hbig : (1048576 : Int) - (l.length : Int) < 0
  · rw [if_pos hbig]; exact Ev.yes (by omega) (Ev.now _)
  rw [if_neg hbig]
  refine Ev.no hbig ?_
  have hl2 : l.length ≤ 1048576 := by omega
  have hm : (l.map to45).length ≤ 1048576 := by rw [List.length_map]; exact hl2
  have ht := laws_toRangeS_ev l hl2
  have hsp := spec_SetAdd_ev (l.map to45) a b hm
  have him := impl_SetAdd_ev (l.map to45) a b hm
  have hol := putOut_len (putP true ((l.map to45).map pr) a b) (l.map to45) a b hm
  generalize putOut (putP true ((l.map to45).map pr) a b) (l.map to45) a b = R at hsp him hol
  obtain ⟨R, q⟩ := R
  change R.length ≤ 1048576 at hol
  have heq := laws_eqRangeS_ev R hol
  have heq0 := laws_eqRangeS_ev _ hm
  obtain ⟨ys, n, e1, -, e2, -⟩ := markrange_ev (l.map to45) 1 (by omega) (by omega) (by omega)
  obtain ⟨us, m, g1, g2, g3, -⟩ := markrange_ev R 1 (by omega) (by omega) (by omega)
  refine Ev.bind ht (Ev.bind hsp (Ev.bind ht (Ev.bind him (Ev.bind heq (Ev.yes rfl ?_)))))
  refine Ev.step (laws_FnExactSetAdd.j0.eq_2 _ _ _ _ _ _ _ _ _) (Ev.no (by simp) ?_)
  refine Ev.bind ht (Ev.bind heq0 (Ev.yes rfl (Ev.bind e1 ?_)))
  refine Ev.no (by show ¬ n < 0; omega) (Ev.bind heq (Ev.yes rfl ?_))
  refine Ev.step (laws_FnExactSetAdd.j1.eq_2 _ _ _ _ _ _ _) (Ev.no (by simp) ?_)
  refine Ev.bind g1 (Ev.bind g2 (Ev.no (by show ¬ m < 0; omega) (Ev.yes rfl ?_)))
  refine Ev.bind ht (Ev.bind him (Ev.bind heq (Ev.yes rfl ?_)))
  refine Ev.step (laws_FnExactSetAdd.j2.eq_2 _ _ _) (Ev.no (by simp) ?_)
  exact Ev.bind g2 (Ev.no (by show ¬ m < 0; omega) (Ev.yes rfl (Ev.now _)))


end Go.Proofs.Ythngecooaddddaa.Pure
