/- What is added to a drawn set is there, and all else stays; what is dropped is not; the sizes go with it. For every list of bytes; no condition. -/
import Derived.Test.YthngecooaddddaaSet
import Derived.Test.YthngecooaddddaaQFnSetsx6
namespace Go.Proofs.Ythngecooaddddaa.Pure
open Go.RowKit Go.Proofs.Ythngecooaddddaa.PFnSets Go.Proofs.YthngecooaddddaaW.PrintWords Go.Proofs.YthngecooaddddaaW.PrintLast Go.Proofs.YthngecooaddddaaW.PrintMore Go.Proofs.Ythngecooaddddaa.Gen
set_option linter.unusedVariables false

theorem spec_l01In_ev (a b c : Int) : spec_l01In.f a b c = some (decide (b ≤ a ∧ a ≤ c)) := by
  unfold spec_l01In.f
  by_cases h : a ≥ b
  · rw [if_pos h]; congr 1; simp; omega
  · rw [if_neg h]; congr 1; simp; omega

theorem impl_within_ev (a b c : Int) : impl_within.f a b c = some (decide (b ≤ a ∧ a ≤ c)) := by
  unfold impl_within.f
  by_cases h : a ≥ b
  · rw [if_pos h]; congr 1; simp; omega
  · rw [if_neg h]; congr 1; simp; omega

/-- a range as a pair -/
def pr (x : S45) : Int × Int := (x.f0, x.f1)
theorem rd45_at (l : List S45) (i : Nat) (h : i < l.length) : rd_T45 l (i : Int) = l[i] := by
  unfold rd_T45
  rw [Int.toNat_natCast, List.getD_eq_getElem?_getD, List.getElem?_eq_getElem h]; rfl
theorem spec_SetOk_l0 (l : List S45) (hl : l.length ≤ 1048576) : ∀ (d i : Nat) (b : Int), i + d = l.length → (i = 0 → b = 0) → (0 < i → b = (rd_T45 l ((i : Int) - 1)).f1 + 1 ∧ 1 ≤ b ∧ b ≤ 10000) →
    Ev (fun k => spec_SetOk.l0 k l (i : Int)) (okL b ((l.drop i).map pr) && decide ((l.length : Int) ≤ 40)) := by
  intro d
  induction d with
  | zero =>
    intro i b hi h0 h1
    refine Ev.step (spec_SetOk.l0.eq_2 l (i : Int)) (Ev.no (by omega) (Ev.const ?_))
    rw [List.drop_eq_nil_of_le (by omega)]; rfl
  | succ d ih =>
    intro i b hi h0 h1
    have hlt : i < l.length := by omega
    have e := rd45_at l i hlt
    rw [List.drop_eq_getElem_cons hlt]
    simp only [List.map_cons, okL]
    have ep : pr l[i] = ((rd_T45 l (i : Int)).f0, (rd_T45 l (i : Int)).f1) := by rw [e]; rfl
    rw [ep]
    generalize rd_T45 l (i : Int) = x at ep e
    have hn : ∀ c : Int, c = x.f1 + 1 → 1 ≤ x.f1 ∧ x.f1 ≤ 9999 → Ev (fun k => spec_SetOk.l0 k l ((i + 1 : Nat) : Int)) (okL c ((l.drop (i + 1)).map pr) && decide ((l.length : Int) ≤ 40)) := by
      intro c hc hx
      refine ih (i + 1) c (by omega) (fun h => by omega) (fun _ => ?_)
      have e3 : (((i + 1 : Nat) : Int) - 1) = (i : Int) := by omega
      rw [e3, rd45_at l i hlt, ← e]
      exact ⟨hc, by omega, by omega⟩
    have e2 : wrap64 ((i : Int) + 1) = ((i + 1 : Nat) : Int) := by rw [w64 (by omega) (by omega)]; omega
    have hx0 : (rd_T45 l (i : Int)) = x := by rw [rd45_at l i hlt]; exact e.symm
    refine Ev.step (spec_SetOk.l0.eq_2 l (i : Int)) ?_
    rw [e2]
    clear e2 e ep ih
    rw [hx0]
    have hz : 0 < i → wrap64 ((i : Int) - 1) = (i : Int) - 1 := fun h => w64 (by omega) (by omega)
    refine Ev.yes (by omega) (Ev.yes (by omega) (Ev.bindc (spec_l01In_ev _ _ _) ?_))
    refine Ev.ite (fun h2 => ?_) (fun h2 => ?_)
    · rw [decide_eq_true_eq] at h2
      refine Ev.ite (fun h3 => ?_) (fun h3 => ?_)
      · rw [decide_eq_false (by omega)]; exact Ev.now _
      · refine Ev.ite (fun h4 => ?_) (fun h4 => ?_)
        · obtain ⟨h5, h6, h7⟩ := h1 (by omega)
          rw [hz (by omega), w64 (x := (rd_T45 l ((i : Int) - 1)).f1 + 1) (by omega) (by omega), ← h5]
          clear hz
          refine Ev.yes (by omega) (Ev.yes (by omega) ?_)
          refine Ev.ite (fun h8 => ?_) (fun h8 => ?_)
          · rw [decide_eq_false (by omega)]; exact Ev.now _
          · rw [decide_eq_true (show b < x.f0 ∧ 1 ≤ x.f0 ∧ x.f0 ≤ x.f1 ∧ x.f1 ≤ 9999 by omega), Bool.true_and]
            exact hn _ rfl (by omega)
        · clear hz
          have h9 := h0 (by omega)
          rw [decide_eq_true (show b < x.f0 ∧ 1 ≤ x.f0 ∧ x.f0 ≤ x.f1 ∧ x.f1 ≤ 9999 by omega), Bool.true_and]
          exact hn _ rfl (by omega)
    · rw [decide_eq_true_eq] at h2
      rw [decide_eq_false (by omega)]; exact Ev.now _

theorem spec_SetOk_ev (l : List S45) (hl : l.length ≤ 1048576) : Ev (fun k => spec_SetOk.f k l) (setOkB (l.map pr)) := by
  have := spec_SetOk_l0 l hl l.length 0 0 (by omega) (fun _ => rfl) (fun h => by omega)
  unfold setOkB
  rw [List.length_map]
  exact this

theorem impl_isUid_ev (a : Int) : impl_isUid.f a = some (decide (1 ≤ a ∧ a ≤ 9999)) := by unfold impl_isUid.f; rw [impl_within_ev]; rfl
theorem impl_SetOk_l0 (l : List S45) (hl : l.length ≤ 1048576) : ∀ (d i : Nat) (b : Int), i + d = l.length → (i = 0 → b = 0) → (0 < i → b = (rd_T45 l ((i : Int) - 1)).f1 + 1 ∧ 1 ≤ b ∧ b ≤ 10000) →
    Ev (fun k => impl_SetOk.l0 k l l (l.length : Int) (i : Int)) (okL b ((l.drop i).map pr) && decide ((l.length : Int) ≤ 40)) := by
  intro d
  induction d with
  | zero =>
    intro i b hi h0 h1
    refine Ev.step (impl_SetOk.l0.eq_2 l l (l.length : Int) (i : Int)) (Ev.no (by omega) (Ev.const ?_))
    rw [List.drop_eq_nil_of_le (by omega)]; rfl
  | succ d ih =>
    intro i b hi h0 h1
    have hlt : i < l.length := by omega
    have e := rd45_at l i hlt
    rw [List.drop_eq_getElem_cons hlt]
    simp only [List.map_cons, okL]
    have ep : pr l[i] = ((rd_T45 l (i : Int)).f0, (rd_T45 l (i : Int)).f1) := by rw [e]; rfl
    rw [ep]
    generalize rd_T45 l (i : Int) = x at ep e
    have hn : ∀ c : Int, c = x.f1 + 1 → 1 ≤ x.f1 ∧ x.f1 ≤ 9999 → Ev (fun k => impl_SetOk.l0 k l l (l.length : Int) ((i + 1 : Nat) : Int)) (okL c ((l.drop (i + 1)).map pr) && decide ((l.length : Int) ≤ 40)) := by
      intro c hc hx
      refine ih (i + 1) c (by omega) (fun h => by omega) (fun _ => ?_)
      have e3 : (((i + 1 : Nat) : Int) - 1) = (i : Int) := by omega
      rw [e3, rd45_at l i hlt, ← e]
      exact ⟨hc, by omega, by omega⟩
    have e2 : wrap64 ((i : Int) + 1) = ((i + 1 : Nat) : Int) := by rw [w64 (by omega) (by omega)]; omega
    have hx0 : (rd_T45 l (i : Int)) = x := by rw [rd45_at l i hlt]; exact e.symm
    refine Ev.step (impl_SetOk.l0.eq_2 l l (l.length : Int) (i : Int)) ?_
    rw [e2]
    clear e2 e ep ih
    rw [hx0]
    have hz : 0 < i → wrap64 ((i : Int) - 1) = (i : Int) - 1 := fun h => w64 (by omega) (by omega)
    refine Ev.yes (by omega) (Ev.yes (by omega) (Ev.yes (by omega) (Ev.bindc (impl_isUid_ev _) ?_)))
    refine Ev.ite (fun h2 => ?_) (fun h2 => ?_)
    · rw [decide_eq_true_eq] at h2
      refine Ev.bindc (impl_within_ev _ _ _) ?_
      refine Ev.ite (fun h3 => ?_) (fun h3 => ?_)
      · rw [decide_eq_true_eq] at h3
        refine Ev.ite (fun h4 => ?_) (fun h4 => ?_)
        · obtain ⟨h5, h6, h7⟩ := h1 (by omega)
          rw [hz (by omega), w64 (x := (rd_T45 l ((i : Int) - 1)).f1 + 1) (by omega) (by omega), ← h5]
          clear hz
          refine Ev.yes (by omega) (Ev.yes (by omega) ?_)
          refine Ev.ite (fun h8 => ?_) (fun h8 => ?_)
          · rw [decide_eq_false (by omega)]; exact Ev.now _
          · rw [decide_eq_true (show b < x.f0 ∧ 1 ≤ x.f0 ∧ x.f0 ≤ x.f1 ∧ x.f1 ≤ 9999 by omega), Bool.true_and]
            exact hn _ rfl (by omega)
        · clear hz
          have h9 := h0 (by omega)
          rw [decide_eq_true (show b < x.f0 ∧ 1 ≤ x.f0 ∧ x.f0 ≤ x.f1 ∧ x.f1 ≤ 9999 by omega), Bool.true_and]
          exact hn _ rfl (by omega)
      · rw [decide_eq_true_eq] at h3
        rw [decide_eq_false (by omega)]; exact Ev.now _
    · rw [decide_eq_true_eq] at h2
      rw [decide_eq_false (by omega)]; exact Ev.now _

theorem impl_SetOk_ev (l : List S45) (hl : l.length ≤ 1048576) : Ev (fun k => impl_SetOk.f k l) (setOkB (l.map pr)) := by
  have := impl_SetOk_l0 l hl l.length 0 0 (by omega) (fun _ => rfl) (fun h => by omega)
  unfold setOkB
  rw [List.length_map]
  exact this


theorem okL_append : ∀ (l : List (Int × Int)) (b : Int) (q q2 : Int × Int), okL b (l ++ [q]) = true → q.2 + 1 < q2.1 → 1 ≤ q2.1 → q2.1 ≤ q2.2 → q2.2 ≤ 9999 → okL b (l ++ [q] ++ [q2]) = true
  | [], b, q, q2, h, h1, h2, h3, h4 => by
    simp only [List.nil_append, List.cons_append, okL, Bool.and_eq_true, decide_eq_true_eq, and_true] at h ⊢
    omega
  | p :: l, b, q, q2, h, h1, h2, h3, h4 => by
    simp only [List.cons_append, okL, Bool.and_eq_true, decide_eq_true_eq] at h ⊢
    exact ⟨h.1, okL_append l _ q q2 h.2 h1 h2 h3 h4⟩
theorem okL_stretch : ∀ (l : List (Int × Int)) (b x y z : Int), okL b (l ++ [(x, y)]) = true → y ≤ z → z ≤ 9999 → okL b (l ++ [(x, z)]) = true
  | [], b, x, y, z, h, h1, h2 => by
    simp only [List.nil_append, okL, Bool.and_eq_true, decide_eq_true_eq, and_true] at h ⊢
    omega
  | p :: l, b, x, y, z, h, h1, h2 => by
    simp only [List.cons_append, okL, Bool.and_eq_true, decide_eq_true_eq] at h ⊢
    exact ⟨h.1, okL_stretch l _ x y z h.2 h1 h2⟩
theorem rd_last (ys : List S45) (x : S45) : rd_T45 (ys ++ [x]) (((ys ++ [x]).length : Int) - 1) = x := by
  rw [List.length_append, List.length_singleton]
  have e : ((ys.length + 1 : Nat) : Int) - 1 = (ys.length : Int) := by omega
  rw [e]
  unfold rd_T45
  rw [Int.toNat_natCast, List.getD_eq_getElem?_getD, List.getElem?_concat_length]; rfl
theorem set_last (ys : List S45) (x y : S45) : (ys ++ [x]).set (((ys ++ [x]).length : Int) - 1).toNat y = ys ++ [y] := by
  rw [List.length_append, List.length_singleton]
  have e : (((ys.length + 1 : Nat) : Int) - 1).toNat = ys.length := by omega
  rw [e, List.set_append_right _ _ (Nat.le_refl _), Nat.sub_self]; rfl
/-- one number more -/
def step (p : Int → Bool) (xs : List S45) (n : Int) : List S45 :=
  if p n = true then (if 0 < xs.length ∧ (rd_T45 xs ((xs.length : Int) - 1)).f1 = n - 1 then xs.set ((xs.length : Int) - 1).toNat ⟨(rd_T45 xs ((xs.length : Int) - 1)).f0, n⟩ else xs ++ [⟨n, n⟩]) else xs
def fin (p : Int → Bool) : Nat → List S45 → Int → List S45
  | 0, xs, _ => xs
  | d + 1, xs, n => fin p d (step p xs n) (n + 1)
theorem step_len (p : Int → Bool) (xs : List S45) (n : Int) : (step p xs n).length ≤ xs.length + 1 := by
  unfold step
  split
  · split
    · rw [List.length_set]; omega
    · rw [List.length_append]; simp
  · omega
theorem fin_len (p : Int → Bool) : ∀ d xs n, (fin p d xs n).length ≤ xs.length + d
  | 0, xs, n => by simp [fin]
  | d + 1, xs, n => by
    have h1 := fin_len p d (step p xs n) (n + 1)
    have h2 := step_len p xs n
    simp only [fin]
    omega
theorem impl_setOf_l0 (p : Int → Bool) : ∀ (d : Nat) (xs : List S45) (n : Int), n + d = 10000 → 1 ≤ n → xs.length ≤ n → Ev (fun k => impl_setOf.l0 k ⟨p, 0, #[]⟩ xs n) (fin p d xs n, decide ((fin p d xs n).length ≤ 40)) := by
  intro d
  induction d with
  | zero =>
    intro xs n hn h1 hl
    refine Ev.step (impl_setOf.l0.eq_2 _ xs n) (Ev.no (by omega) (Ev.const ?_))
    simp only [fin]
    congr 2
    exact decide_eq_decide.2 (by omega)
  | succ d ih =>
    intro xs n hn h1 hl
    have hs := step_len p xs n
    have hr := ih (step p xs n) (n + 1) (by omega) (by omega) (by omega)
    refine Ev.step (impl_setOf.l0.eq_2 _ xs n) (Ev.yes (by omega) (Ev.bindc (show PVcall.f ⟨p, 0, #[]⟩ n = some (p n) from rfl) ?_))
    have w1 : wrap64 ((xs.length : Int) - 1) = (xs.length : Int) - 1 := w64 (by omega) (by omega)
    have w2 : wrap64 (n - 1) = n - 1 := w64 (by omega) (by omega)
    have w3 : wrap64 (n + 1) = n + 1 := w64 (by omega) (by omega)
    rw [w1, w2, w3]
    clear w1 w2 w3
    change Ev _ (fin p d (step p xs n) (n + 1), decide ((fin p d (step p xs n) (n + 1)).length ≤ 40))
    generalize hz : step p xs n = z at hr ⊢
    unfold step at hz
    refine Ev.ite (fun hp => ?_) (fun hp => ?_)
    · rw [if_pos hp] at hz
      refine Ev.ite (fun h0 => ?_) (fun h0 => ?_)
      · refine Ev.yes (by omega) (Ev.yes (by omega) (Ev.ite (fun h2 => ?_) (fun h2 => ?_)))
        · rw [if_pos ⟨by omega, h2⟩] at hz
          rw [hz]; exact hr
        · rw [if_neg (fun h => h2 h.2)] at hz
          rw [hz]; exact Ev.yes (by omega) hr
      · rw [if_neg (fun h => h0 (by omega))] at hz
        rw [hz]; exact Ev.yes (by omega) hr
    · rw [if_neg hp] at hz
      rw [hz]; exact hr
theorem impl_setOf_ev (p : Int → Bool) : Ev (fun k => impl_setOf.f k ⟨p, 0, #[]⟩) (fin p 9999 [] 1, decide ((fin p 9999 [] 1).length ≤ 40)) := impl_setOf_l0 p 9999 [] 1 (by omega) (by omega) (by simp)
/-- what is told ahead of n -/
def Inv (p : Int → Bool) (xs : List S45) (n : Int) : Prop :=
  (xs = [] ∧ p (n - 1) = false) ∨ ∃ (ys : List S45) (a b : Int), xs = ys ++ [⟨a, b⟩] ∧ okL 0 ((ys.map pr) ++ [(a, b)]) = true ∧ b ≤ n - 1 ∧ p (n - 1) = decide (b = n - 1)
theorem Inv_step (p : Int → Bool) (xs : List S45) (n : Int) (h : Inv p xs n) (h1 : 1 ≤ n) (h2 : n ≤ 9999) : Inv p (step p xs n) (n + 1) := by
  have e : n + 1 - 1 = n := by omega
  unfold Inv
  rw [e]
  rcases h with ⟨rfl, h⟩ | ⟨ys, a, b, rfl, hok, hb, hp⟩
  · unfold step
    by_cases hn : p n = true
    · rw [if_pos hn, if_neg (by simp)]
      exact .inr ⟨[], n, n, rfl, by simp [okL]; omega, by omega, by simp [hn]⟩
    · rw [if_neg hn]
      exact .inl ⟨rfl, by simpa using hn⟩
  · unfold step
    by_cases hn : p n = true
    · rw [if_pos hn, rd_last, set_last]
      by_cases hc : b = n - 1
      · rw [if_pos ⟨by simp, hc⟩]
        exact .inr ⟨ys, a, n, rfl, okL_stretch _ 0 a b n hok (by omega) h2, by omega, by simp [hn]⟩
      · rw [if_neg (fun h => hc h.2)]
        refine .inr ⟨ys ++ [⟨a, b⟩], n, n, rfl, ?_, by omega, by simp [hn]⟩
        rw [List.map_append]
        exact okL_append _ 0 (a, b) (n, n) hok (by show b + 1 < n; omega) h1 (Int.le_refl _) h2
    · rw [if_neg hn]
      refine .inr ⟨ys, a, b, rfl, hok, by omega, ?_⟩
      have : ¬ b = n := by omega
      simp [this, hn]
theorem Inv_ok {p : Int → Bool} {xs : List S45} {n : Int} (h : Inv p xs n) : setOkB (xs.map pr) = decide (xs.length ≤ 40) := by
  unfold setOkB
  have : okL 0 (xs.map pr) = true := by
    rcases h with ⟨rfl, _⟩ | ⟨ys, a, b, rfl, hok, _, _⟩
    · rfl
    · rw [List.map_append]; exact hok
  rw [this, Bool.true_and, List.length_map]
  exact decide_eq_decide.2 (by omega)
theorem spec_l05Set_l0 (p : Int → Bool) (bits : List Bool) (hb : bits.length = 10001) (hp : ∀ i : Int, 0 ≤ i → i ≤ 9999 → rdOf false bits i = p i) :
    ∀ (d : Nat) (xs : List S45) (n : Int), n + d = 10000 → 1 ≤ n → xs.length ≤ n → Inv p xs n →
      Ev (fun k => spec_l05Set.l0 k bits xs n) (if (fin p d xs n).length ≤ 40 then (fin p d xs n, true) else ([], false)) := by
  intro d
  induction d with
  | zero =>
    intro xs n hn h1 hl hi
    refine Ev.step (spec_l05Set.l0.eq_2 bits xs n) (Ev.no (by omega) ?_)
    have hok := spec_SetOk_ev xs (by omega)
    rw [Inv_ok hi] at hok
    refine Ev.bind hok ?_
    change Ev _ (if xs.length ≤ 40 then (xs, true) else ([], false))
    by_cases h40 : xs.length ≤ 40
    · rw [if_pos h40]; exact Ev.yes (by simpa using h40) (Ev.now _)
    · rw [if_neg h40]; exact Ev.no (by simpa using h40) (Ev.now _)
  | succ d ih =>
    intro xs n hn h1 hl hi
    have hs := step_len p xs n
    have hr := ih (step p xs n) (n + 1) (by omega) (by omega) (by omega) (Inv_step p xs n hi h1 (by omega))
    refine Ev.step (spec_l05Set.l0.eq_2 bits xs n) (Ev.yes (by omega) (Ev.yes (by omega) (Ev.yes (by omega) ?_)))
    have w2 : wrap64 (n - 1) = n - 1 := w64 (by omega) (by omega)
    have w3 : wrap64 (n + 1) = n + 1 := w64 (by omega) (by omega)
    rw [w2, w3, hp n (by omega) (by omega), hp (n - 1) (by omega) (by omega)]
    clear w2 w3
    change Ev _ (if (fin p d (step p xs n) (n + 1)).length ≤ 40 then (fin p d (step p xs n) (n + 1), true) else ([], false))
    generalize hz : step p xs n = z at hr ⊢
    unfold step at hz
    refine Ev.ite (fun hpn => ?_) (fun hpn => ?_)
    · rw [if_pos hpn] at hz
      refine Ev.yes (by omega) (Ev.yes (by omega) ?_)
      refine Ev.ite (fun h => ?_) (fun h => ?_)
      · rcases hi with ⟨rfl, h3⟩ | ⟨ys, a, b, rfl, hok, hbn, h3⟩
        · rw [h3] at h; cases h
        · rw [h3] at h
          have hbe : b = n - 1 := by simpa using h
          have hlen : 0 < (ys ++ [(⟨a, b⟩ : S45)]).length := by simp
          have w1 : wrap64 (((ys ++ [(⟨a, b⟩ : S45)]).length : Int) - 1) = ((ys ++ [(⟨a, b⟩ : S45)]).length : Int) - 1 := w64 (by omega) (by omega)
          rw [w1]
          clear w1
          rw [rd_last, if_pos ⟨hlen, hbe⟩] at hz
          refine Ev.yes (by omega) (Ev.yes (by omega) ?_)
          rw [rd_last, hz]
          exact hr
      · have hz2 : xs ++ [(⟨n, n⟩ : S45)] = z := by
          rw [if_neg] at hz
          · exact hz
          · rintro ⟨h4, h5⟩
            rcases hi with ⟨rfl, h3⟩ | ⟨ys, a, b, rfl, hok, hbn, h3⟩
            · simp at h4
            · rw [rd_last] at h5
              rw [h3] at h
              exact h (by simpa using h5)
        refine Ev.yes (by omega) (Ev.bindc rfl ?_)
        have hlen : (xs ++ [(⟨n, 0⟩ : S45)]).length = xs.length + 1 := by simp
        have w1 : wrap64 (((xs ++ [(⟨n, 0⟩ : S45)]).length : Int) - 1) = ((xs ++ [(⟨n, 0⟩ : S45)]).length : Int) - 1 := w64 (by omega) (by omega)
        rw [w1]
        clear w1
        refine Ev.yes (by omega) (Ev.yes (by omega) ?_)
        rw [rd_last, set_last, hz2]
        exact hr
    · rw [if_neg hpn] at hz
      rw [hz]; exact hr
theorem spec_l05Set_ev (p : Int → Bool) (bits : List Bool) (hb : bits.length = 10001) (hp : ∀ i : Int, 0 ≤ i → i ≤ 9999 → rdOf false bits i = p i) (h0 : p 0 = false) :
    Ev (fun k => spec_l05Set.f k bits) (if (fin p 9999 [] 1).length ≤ 40 then (fin p 9999 [] 1, true) else ([], false)) :=
  spec_l05Set_l0 p bits hb hp 9999 [] 1 (by omega) (by omega) (by simp) (.inl ⟨rfl, h0⟩)

theorem rdb_set (xs : List Bool) (n : Int) (v : Bool) (h0 : 0 ≤ n) (h1 : n < (xs.length : Int)) (i : Int) (hi : 0 ≤ i) : rdOf false (xs.set n.toNat v) i = if i = n then v else rdOf false xs i := by
  unfold rdOf
  rw [List.getD_eq_getElem?_getD, List.getD_eq_getElem?_getD, List.getElem?_set]
  by_cases h : i = n
  · subst h
    rw [if_pos rfl, if_pos rfl, if_pos (by omega)]; rfl
  · rw [if_neg (show ¬ n.toNat = i.toNat by omega), if_neg h]
theorem spec_l05Bits_l1 (l : List S45) (hl : l.length ≤ 1048576) (j : Nat) (hj : j < l.length) (h9 : (l[j]).f1 ≤ 9999) :
    ∀ (d : Nat) (bits : List Bool) (n : Int), (n + d = (l[j]).f1 + 1 ∨ (d = 0 ∧ (l[j]).f1 < n)) → 0 ≤ n → bits.length = 10001 →
      ∃ bits' : List Bool, bits'.length = 10001 ∧ (∀ i : Int, 0 ≤ i → rdOf false bits' i = (rdOf false bits i || decide (n ≤ i ∧ i ≤ (l[j]).f1))) ∧
        ∀ R, Ev (fun k => spec_l05Bits.l0 k l bits' ((j + 1 : Nat) : Int)) R → Ev (fun k => spec_l05Bits.l1 k l bits (j : Int) n) R := by
  intro d
  have er := rd45_at l j hj
  have w3 : wrap64 ((j : Int) + 1) = ((j + 1 : Nat) : Int) := by rw [w64 (by omega) (by omega)]; omega
  induction d with
  | zero =>
    intro bits n hn h0 hb
    refine ⟨bits, hb, fun i hi => ?_, fun R hR => ?_⟩
    · have : ¬ (n ≤ i ∧ i ≤ (l[j]).f1) := by omega
      rw [decide_eq_false this, Bool.or_false]
    · refine Ev.step (spec_l05Bits.l1.eq_2 l bits (j : Int) n) (Ev.yes (by omega) (Ev.yes (by omega) (Ev.no (by rw [er]; omega) ?_)))
      rw [w3]; exact hR
  | succ d ih =>
    intro bits n hn h0 hb
    have hn2 : n + (d + 1 : Nat) = (l[j]).f1 + 1 := by omega
    obtain ⟨bits', hb', hrd, hk⟩ := ih (bits.set n.toNat true) (n + 1) (by omega) (by omega) (by rw [List.length_set]; exact hb)
    refine ⟨bits', hb', fun i hi => ?_, fun R hR => ?_⟩
    · rw [hrd i hi, rdb_set bits n true h0 (by omega) i hi]
      by_cases hin : i = n
      · rw [if_pos hin, decide_eq_true (show n ≤ i ∧ i ≤ (l[j]).f1 by omega), Bool.or_true, Bool.true_or]
      · rw [if_neg hin]
        congr 1
        exact decide_eq_decide.2 (by omega)
    · refine Ev.step (spec_l05Bits.l1.eq_2 l bits (j : Int) n) (Ev.yes (by omega) (Ev.yes (by omega) (Ev.yes (by rw [er]; omega) (Ev.yes (by omega) (Ev.yes (by omega) ?_)))))
      have w4 : wrap64 (n + 1) = n + 1 := w64 (by omega) (by omega)
      rw [w4]
      exact hk R hR
theorem hasL_cons (q : Int × Int) (l : List (Int × Int)) (n : Int) : hasL (q :: l) n = (decide (q.1 ≤ n ∧ n ≤ q.2) || hasL l n) := rfl
theorem spec_l05Bits_l0 (l : List S45) (hl : l.length ≤ 1048576) (hok : ∀ q ∈ l.map pr, 1 ≤ q.1 ∧ q.1 ≤ q.2 ∧ q.2 ≤ 9999) :
    ∀ (d j : Nat) (bits : List Bool), j + d = l.length → bits.length = 10001 →
      ∃ bits' : List Bool, bits'.length = 10001 ∧ (∀ i : Int, 0 ≤ i → rdOf false bits' i = (rdOf false bits i || hasL ((l.drop j).map pr) i)) ∧ Ev (fun k => spec_l05Bits.l0 k l bits (j : Int)) bits' := by
  intro d
  induction d with
  | zero =>
    intro j bits hj hb
    refine ⟨bits, hb, fun i hi => ?_, Ev.step (spec_l05Bits.l0.eq_2 l bits (j : Int)) (Ev.no (by omega) (Ev.now _))⟩
    rw [List.drop_eq_nil_of_le (by omega)]
    simp [hasL]
  | succ d ih =>
    intro j bits hj hb
    have hlt : j < l.length := by omega
    have hq := hok (pr (l[j])) (List.mem_map_of_mem (List.getElem_mem hlt))
    have er := rd45_at l j hlt
    simp only [pr] at hq
    obtain ⟨b1, hb1, hr1, hk⟩ := spec_l05Bits_l1 l hl j hlt hq.2.2 ((l[j]).f1 + 1 - (l[j]).f0).toNat bits (l[j]).f0 (by omega) (by omega) hb
    obtain ⟨b2, hb2, hr2, h2⟩ := ih (j + 1) b1 (by omega) hb1
    refine ⟨b2, hb2, fun i hi => ?_, ?_⟩
    · rw [hr2 i hi, hr1 i hi, List.drop_eq_getElem_cons hlt, List.map_cons, hasL_cons, Bool.or_assoc]
      rfl
    · refine Ev.step (spec_l05Bits.l0.eq_2 l bits (j : Int)) (Ev.yes (by omega) (Ev.yes (by omega) ?_))
      rw [er]
      exact hk _ h2
theorem rdb_false (n : Nat) (i : Int) : rdOf false (List.replicate n false) i = false := by
  unfold rdOf
  rw [List.getD_eq_getElem?_getD, List.getElem?_replicate]
  split <;> rfl
theorem spec_l05Bits_ev (l : List S45) (hl : l.length ≤ 1048576) (hok : setOkB (l.map pr) = true) :
    ∃ bits : List Bool, bits.length = 10001 ∧ (∀ i : Int, 0 ≤ i → rdOf false bits i = hasL (l.map pr) i) ∧ Ev (fun k => spec_l05Bits.f k l) bits := by
  have h1 : okL 0 (l.map pr) = true := by
    unfold setOkB at hok
    rw [Bool.and_eq_true] at hok
    exact hok.1
  obtain ⟨b, hb, hr, h⟩ := spec_l05Bits_l0 l hl (fun q hq => okL_mem h1 q hq) l.length 0 (List.replicate 10001 false) (by omega) (by rw [List.length_replicate])
  refine ⟨b, hb, fun i hi => ?_, ?_⟩
  · rw [hr i hi, rdb_false, Bool.false_or]; rfl
  · unfold spec_l05Bits.f
    exact Ev.yes (by omega) h
theorem hasL_zero {l : List (Int × Int)} (hok : setOkB l = true) : hasL l 0 = false := by
  unfold setOkB at hok
  rw [Bool.and_eq_true] at hok
  unfold hasL
  rw [List.any_eq_false]
  intro q hq
  have := okL_mem hok.1 q hq
  simp only [decide_eq_true_eq]
  omega

theorem fin_congr {p q : Int → Bool} : ∀ (d : Nat) (xs : List S45) (n : Int), 0 ≤ n → (∀ i, 0 ≤ i → p i = q i) → fin p d xs n = fin q d xs n
  | 0, _, _, _, _ => rfl
  | d + 1, xs, n, h0, h => by
    simp only [fin]
    have e : step p xs n = step q xs n := by unfold step; rw [h n h0]
    rw [e]
    exact fin_congr d _ _ (by omega) h

def putP (tb : Bool) (l : List (Int × Int)) (lo hi n : Int) : Bool := if lo ≤ n ∧ n ≤ hi then tb else hasL l n
def putOut (p : Int → Bool) (s : List S45) (lo hi : Int) : List S45 × Bool :=
  if setOkB (s.map pr) = true ∧ (1 ≤ lo ∧ lo ≤ hi ∧ hi ≤ 9999) ∧ (fin p 9999 [] 1).length ≤ 40 then (fin p 9999 [] 1, true) else (s, false)
theorem spec_l05Put_l0 (tb : Bool) (same : List S45) (lo hi : Int) (hlo : 1 ≤ lo) (hhi : hi ≤ 9999) (A : Int → Bool) (hA : A 0 = false) :
    ∀ (d : Nat) (n : Int) (x : List Bool), n + d = hi + 1 → lo ≤ n → x.length = 10001 → (∀ i : Int, 0 ≤ i → rdOf false x i = if lo ≤ i ∧ i < n then tb else A i) →
      Ev (fun k => spec_l05Put.l0 k hi tb same x n) (if (fin (fun i => if lo ≤ i ∧ i ≤ hi then tb else A i) 9999 [] 1).length ≤ 40 then (fin (fun i => if lo ≤ i ∧ i ≤ hi then tb else A i) 9999 [] 1, true) else (same, false)) := by
  intro d
  induction d with
  | zero =>
    intro n x hn h0 hx hr
    have hs := spec_l05Set_ev (fun i => if lo ≤ i ∧ i ≤ hi then tb else A i) x hx (fun i hi0 h9 => by
      rw [hr i hi0]
      by_cases h : lo ≤ i ∧ i ≤ hi
      · rw [if_pos h, if_pos (by omega)]
      · rw [if_neg h, if_neg (by omega)]) (by rw [if_neg (by omega)]; exact hA)
    refine Ev.step (spec_l05Put.l0.eq_2 hi tb same x n) (Ev.no (by omega) (Ev.bind hs ?_))
    generalize fin (fun i => if lo ≤ i ∧ i ≤ hi then tb else A i) 9999 [] 1 = F
    by_cases h40 : F.length ≤ 40
    · rw [if_pos h40, if_pos h40]; exact Ev.yes rfl (Ev.now _)
    · rw [if_neg h40, if_neg h40]; exact Ev.no (by simp) (Ev.now _)
  | succ d ih =>
    intro n x hn h0 hx hr
    have w4 : wrap64 (n + 1) = n + 1 := w64 (by omega) (by omega)
    refine Ev.step (spec_l05Put.l0.eq_2 hi tb same x n) (Ev.yes (by omega) (Ev.yes (by omega) (Ev.yes (by omega) ?_)))
    rw [w4]
    clear w4
    refine ih (n + 1) (x.set n.toNat tb) (by omega) (by omega) (by rw [List.length_set]; exact hx) (fun i hi0 => ?_)
    rw [rdb_set x n tb (by omega) (by omega) i hi0]
    by_cases h : i = n
    · rw [if_pos h, if_pos (by omega)]
    · rw [if_neg h, hr i hi0]
      by_cases h2 : lo ≤ i ∧ i < n
      · rw [if_pos h2, if_pos (by omega)]
      · rw [if_neg h2, if_neg (by omega)]
theorem spec_l05Put_ev (s : List S45) (lo hi : Int) (tb : Bool) (hs : s.length ≤ 1048576) :
    Ev (fun k => spec_l05Put.f k s lo hi tb) (putOut (putP tb (s.map pr) lo hi) s lo hi) := by
  unfold spec_l05Put.f
  refine Ev.bindc rfl (Ev.yes (by simp; omega) (Ev.bindc rfl ?_))
  rw [List.nil_append]
  refine Ev.bind (spec_SetOk_ev s hs) (Ev.ite (fun h1 => ?_) (fun h1 => ?_))
  · refine Ev.bindc (spec_l01In_ev lo 1 hi) (Ev.ite (fun h2 => ?_) (fun h2 => ?_))
    · have h2 : 1 ≤ lo ∧ lo ≤ hi := by simpa using h2
      by_cases h3 : hi ≤ 9999
      · refine Ev.step (spec_l05Put.j0.eq_2 _ _ _ _ _ _) (Ev.no (by simp; omega) ?_)
        obtain ⟨x, hx, hrx, e1⟩ := spec_l05Bits_ev s hs h1
        refine Ev.bind e1 ?_
        have hl := spec_l05Put_l0 tb s lo hi h2.1 h3 (fun i => hasL (s.map pr) i) (hasL_zero h1) (hi + 1 - lo).toNat lo x (by omega) (Int.le_refl _) hx (fun i hi0 => by rw [if_neg (by omega)]; exact hrx i hi0)
        have e : (fun i => if lo ≤ i ∧ i ≤ hi then tb else hasL (s.map pr) i) = putP tb (s.map pr) lo hi := rfl
        rw [e] at hl
        unfold putOut
        generalize fin (putP tb (s.map pr) lo hi) 9999 [] 1 = F at hl ⊢
        by_cases h4 : F.length ≤ 40
        · rw [if_pos h4] at hl
          rw [if_pos ⟨h1, ⟨h2.1, h2.2, h3⟩, h4⟩]; exact hl
        · rw [if_neg h4] at hl
          rw [if_neg (fun h => h4 h.2.2)]; exact hl
      · unfold putOut
        rw [if_neg (fun h => h3 h.2.1.2.2)]
        exact Ev.step (spec_l05Put.j0.eq_2 _ _ _ _ _ _) (Ev.yes (by simp; omega) (Ev.now _))
    · unfold putOut
      rw [if_neg (fun h => h2 (by simpa using And.intro h.2.1.1 h.2.1.2.1))]
      exact Ev.step (spec_l05Put.j0.eq_2 _ _ _ _ _ _) (Ev.yes rfl (Ev.now _))
  · unfold putOut
    rw [if_neg (fun h => h1 h.1)]
    exact Ev.step (spec_l05Put.j0.eq_2 _ _ _ _ _ _) (Ev.yes rfl (Ev.now _))

theorem spec_SetAdd_ev (s : List S45) (lo hi : Int) (hs : s.length ≤ 1048576) :
    Ev (fun k => spec_SetAdd.f k s lo hi) (putOut (putP true (s.map pr) lo hi) s lo hi) := by
  unfold spec_SetAdd.f
  have h := spec_l05Put_ev s lo hi true hs
  obtain ⟨R, hR⟩ : ∃ R, putOut (putP true (s.map pr) lo hi) s lo hi = R := ⟨_, rfl⟩
  rw [hR] at h ⊢
  clear hR
  obtain ⟨R1, R2⟩ := R
  refine Ev.bind h ?_
  exact ⟨0, fun _ _ => rfl⟩

theorem impl_SetAdd_ev (s : List S45) (lo hi : Int) (hs : s.length ≤ 1048576) :
    Ev (fun k => impl_SetAdd.f k s lo hi) (putOut (putP true (s.map pr) lo hi) s lo hi) := by
  have h0 := impl_setOf_ev (impl_SetAdd.holds s lo hi)
  have e : fin (impl_SetAdd.holds s lo hi) 9999 [] 1 = fin (putP true (s.map pr) lo hi) 9999 [] 1 := fin_congr 9999 [] 1 (by omega) (fun i _ => by
    show (hasL (s.map pr) i || decide (lo ≤ i ∧ i ≤ hi)) = (if lo ≤ i ∧ i ≤ hi then true else hasL (s.map pr) i)
    by_cases h : lo ≤ i ∧ i ≤ hi
    · rw [if_pos h, decide_eq_true h]; simp
    · rw [if_neg h, decide_eq_false h]; simp)
  rw [e] at h0
  unfold impl_SetAdd.f putOut
  generalize fin (putP true (s.map pr) lo hi) 9999 [] 1 = F at h0 ⊢
  refine Ev.yes hs (Ev.bind (impl_SetOk_ev s hs) ?_)
  refine Ev.ite (fun h => Ev.bind h0 (Ev.ite (fun h2 => ?_) (fun h2 => ?_))) (fun h => ?_)
  · rw [if_pos ⟨h.1, ⟨h.2.1.1, h.2.2.1, h.2.2.2⟩, by simpa using h2⟩]; exact Ev.now _
  · rw [if_neg (fun h3 => h2 (by simpa using h3.2.2))]; exact Ev.now _
  · rw [if_neg (fun h3 => h ⟨h3.1, ⟨h3.2.1.1, Int.le_trans h3.2.1.2.1 h3.2.1.2.2⟩, h3.2.1.2.1, h3.2.1.2.2⟩)]; exact Ev.now _

theorem impl_SetDrop_ev (s : List S45) (lo hi : Int) (hs : s.length ≤ 1048576) :
    Ev (fun k => impl_SetDrop.f k s lo hi) (putOut (putP false (s.map pr) lo hi) s lo hi) := by
  have h0 := impl_setOf_ev (impl_SetDrop.holds s lo hi)
  have e : fin (impl_SetDrop.holds s lo hi) 9999 [] 1 = fin (putP false (s.map pr) lo hi) 9999 [] 1 := fin_congr 9999 [] 1 (by omega) (fun i _ => by
    show (hasL (s.map pr) i && !decide (lo ≤ i ∧ i ≤ hi)) = (if lo ≤ i ∧ i ≤ hi then false else hasL (s.map pr) i)
    by_cases h : lo ≤ i ∧ i ≤ hi
    · rw [if_pos h, decide_eq_true h]; simp
    · rw [if_neg h, decide_eq_false h]; simp)
  rw [e] at h0
  unfold impl_SetDrop.f putOut
  generalize fin (putP false (s.map pr) lo hi) 9999 [] 1 = F at h0 ⊢
  refine Ev.yes hs (Ev.bind (impl_SetOk_ev s hs) ?_)
  refine Ev.ite (fun h => Ev.bind h0 (Ev.ite (fun h2 => ?_) (fun h2 => ?_))) (fun h => ?_)
  · rw [if_pos ⟨h.1, ⟨h.2.1.1, h.2.2.1, h.2.2.2⟩, by simpa using h2⟩]; exact Ev.now _
  · rw [if_neg (fun h3 => h2 (by simpa using h3.2.2))]; exact Ev.now _
  · rw [if_neg (fun h3 => h ⟨h3.1, ⟨h3.2.1.1, Int.le_trans h3.2.1.2.1 h3.2.1.2.2⟩, h3.2.1.2.1, h3.2.1.2.2⟩)]; exact Ev.now _

theorem spec_SetHas_l0 (l : List S45) (hl : l.length ≤ 1048576) (n : Int) : ∀ (d i : Nat), i + d = l.length → Ev (fun k => spec_SetHas.l0 k l n (i : Int)) (hasL ((l.drop i).map pr) n) := by
  intro d
  induction d with
  | zero =>
    intro i hi
    refine Ev.step (spec_SetHas.l0.eq_2 l n (i : Int)) (Ev.no (by omega) (Ev.const ?_))
    rw [List.drop_eq_nil_of_le (by omega)]; rfl
  | succ d ih =>
    intro i hi
    have hlt : i < l.length := by omega
    have e := rd45_at l i hlt
    refine Ev.step (spec_SetHas.l0.eq_2 l n (i : Int)) (Ev.yes (by omega) (Ev.yes (by omega) ?_))
    rw [w64 (by omega) (by omega), List.drop_eq_getElem_cons hlt, ← e]
    generalize rd_T45 l (i : Int) = x
    have e2 : hasL ((x :: l.drop (i + 1)).map pr) n = (decide (x.f0 ≤ n ∧ n ≤ x.f1) || hasL ((l.drop (i + 1)).map pr) n) := rfl
    rw [e2]
    have := ih (i + 1) (by omega)
    refine Ev.ite (fun h => ?_) (fun h => ?_)
    · refine Ev.ite (fun h2 => ?_) (fun h2 => ?_)
      · rw [decide_eq_true ⟨h, h2⟩]; exact Ev.now _
      · rw [decide_eq_false (by omega), Bool.false_or]; exact this
    · rw [decide_eq_false (by omega), Bool.false_or]; exact this
theorem spec_SetHas_ev (l : List S45) (hl : l.length ≤ 1048576) (n : Int) : Ev (fun k => spec_SetHas.f k l n) (hasL (l.map pr) n) := spec_SetHas_l0 l hl n l.length 0 (by omega)

theorem impl_SetHas_l0 (l : List S45) (hl : l.length ≤ 1048576) (n : Int) : ∀ (d i : Nat), i + d = l.length → Ev (fun k => impl_SetHas.l0 k n l (l.length : Int) (i : Int)) (hasL ((l.drop i).map pr) n) := by
  intro d
  induction d with
  | zero =>
    intro i hi
    refine Ev.step (impl_SetHas.l0.eq_2 n l (l.length : Int) (i : Int)) (Ev.no (by omega) (Ev.const ?_))
    rw [List.drop_eq_nil_of_le (by omega)]; rfl
  | succ d ih =>
    intro i hi
    have hlt : i < l.length := by omega
    have e := rd45_at l i hlt
    refine Ev.step (impl_SetHas.l0.eq_2 n l (l.length : Int) (i : Int)) (Ev.yes (by omega) (Ev.yes (by omega) (Ev.yes (by omega) (Ev.bindc (impl_within_ev _ _ _) ?_))))
    rw [w64 (by omega) (by omega), List.drop_eq_getElem_cons hlt, ← e]
    generalize rd_T45 l (i : Int) = x
    have e2 : hasL ((x :: l.drop (i + 1)).map pr) n = (decide (x.f0 ≤ n ∧ n ≤ x.f1) || hasL ((l.drop (i + 1)).map pr) n) := rfl
    rw [e2]
    have := ih (i + 1) (by omega)
    refine Ev.ite (fun h => ?_) (fun h => ?_)
    · rw [h]; exact Ev.now _
    · rw [Bool.not_eq_true] at h
      rw [h, Bool.false_or]; exact this
theorem impl_SetHas_ev (l : List S45) (hl : l.length ≤ 1048576) (n : Int) : Ev (fun k => impl_SetHas.f k l n) (hasL (l.map pr) n) := impl_SetHas_l0 l hl n l.length 0 (by omega)


theorem impl_SetSize_l0 (l : List S45) (hl : l.length ≤ 40) (hok : ∀ p ∈ l.map pr, 1 ≤ p.1 ∧ p.1 ≤ p.2 ∧ p.2 ≤ 9999) : ∀ (d i : Nat) (s : Int), i + d = l.length → 0 ≤ s → s ≤ 9999 * i → Ev (fun k => impl_SetSize.l0 k s l (l.length : Int) (i : Int)) (s + sizeL ((l.drop i).map pr)) := by
  intro d
  induction d with
  | zero =>
    intro i s hi _ _
    refine Ev.step (impl_SetSize.l0.eq_2 s l (l.length : Int) (i : Int)) (Ev.no (by omega) (Ev.const ?_))
    rw [List.drop_eq_nil_of_le (by omega)]; simp [sizeL]
  | succ d ih =>
    intro i s hi h0 h1
    have hlt : i < l.length := by omega
    have e := rd45_at l i hlt
    have hx := hok (pr l[i]) (List.mem_map_of_mem (List.getElem_mem hlt))
    rw [← e] at hx
    refine Ev.step (impl_SetSize.l0.eq_2 s l (l.length : Int) (i : Int)) (Ev.yes (by omega) (Ev.yes (by omega) (Ev.yes (by omega) ?_)))
    rw [List.drop_eq_getElem_cons hlt, ← e]
    generalize rd_T45 l (i : Int) = x at hx ⊢
    have hx' : 1 ≤ x.f0 ∧ x.f0 ≤ x.f1 ∧ x.f1 ≤ 9999 := hx
    rw [w64 (x := x.f1 - x.f0) (by omega) (by omega), w64 (x := x.f1 - x.f0 + 1) (by omega) (by omega), w64 (x := s + (x.f1 - x.f0 + 1)) (by omega) (by omega), w64 (by omega) (by omega)]
    have e2 : sizeL ((x :: l.drop (i + 1)).map pr) = (x.f1 - x.f0 + 1) + sizeL ((l.drop (i + 1)).map pr) := by simp [sizeL, pr]
    rw [e2]
    have := ih (i + 1) (s + (x.f1 - x.f0 + 1)) (by omega) (by omega) (by omega)
    rw [show s + (x.f1 - x.f0 + 1 + sizeL ((l.drop (i + 1)).map pr)) = s + (x.f1 - x.f0 + 1) + sizeL ((l.drop (i + 1)).map pr) by omega]
    exact this
theorem impl_SetSize_ev (l : List S45) (hl : l.length ≤ 1048576) : Ev (fun k => impl_SetSize.f k l) (if setOkB (l.map pr) = true then sizeL (l.map pr) else 0) := by
  unfold impl_SetSize.f
  refine Ev.bind (impl_SetOk_ev l hl) ?_
  refine Ev.ite (fun h => ?_) (fun h => ?_)
  · rw [if_pos h]
    have h' := h
    simp only [setOkB, Bool.and_eq_true, decide_eq_true_eq, List.length_map] at h'
    have := impl_SetSize_l0 l (by omega) (okL_mem h'.1) l.length 0 0 (by omega) (by omega) (by omega)
    rw [Int.zero_add] at this
    exact this
  · rw [if_neg h]; exact Ev.now _

/-! what a set that is told has, how many numbers, how many ranges -/
theorem hasL_append (l l' : List (Int × Int)) (m : Int) : hasL (l ++ l') m = (hasL l m || hasL l' m) := by unfold hasL; rw [List.any_append]
theorem hasL_one (a b m : Int) : hasL [(a, b)] m = decide (a ≤ m ∧ m ≤ b) := by simp [hasL]
theorem sizeL_append (l l' : List (Int × Int)) : sizeL (l ++ l') = sizeL l + sizeL l' := by simp [sizeL]
theorem sizeL_one (a b : Int) : sizeL [(a, b)] = b - a + 1 := by simp [sizeL]
theorem okL_last : ∀ (l : List (Int × Int)) (b : Int) (q : Int × Int), okL b (l ++ [q]) = true → 1 ≤ q.1 ∧ q.1 ≤ q.2 ∧ q.2 ≤ 9999
  | l, b, q, h => okL_mem h q (by simp)
def one (b : Bool) : Int := if b = true then 1 else 0
def cnt (p : Int → Bool) : Nat → Int → Int
  | 0, _ => 0
  | d + 1, n => one (p n) + cnt p d (n + 1)
def runs (p : Int → Bool) : Nat → Int → Int
  | 0, _ => 0
  | d + 1, n => one (p n && !p (n - 1)) + runs p d (n + 1)
theorem step_facts (p : Int → Bool) (xs : List S45) (n : Int) (h : Inv p xs n) (h1 : 1 ≤ n) :
    (∀ m, hasL ((step p xs n).map pr) m = (hasL (xs.map pr) m || (decide (m = n) && p n))) ∧ sizeL ((step p xs n).map pr) = sizeL (xs.map pr) + one (p n) ∧ ((step p xs n).length : Int) = (xs.length : Int) + one (p n && !p (n - 1)) := by
  by_cases hn : p n = true
  case neg =>
    have hf : p n = false := by simpa using hn
    have e : step p xs n = xs := by unfold step; rw [if_neg hn]
    rw [e, hf]
    exact ⟨fun m => by rw [Bool.and_false, Bool.or_false], by simp [one], by simp [one]⟩
  have key : ∀ ys : List S45, (∀ m, hasL ((ys ++ [(⟨n, n⟩ : S45)]).map pr) m = (hasL (ys.map pr) m || (decide (m = n) && true))) ∧ sizeL ((ys ++ [(⟨n, n⟩ : S45)]).map pr) = sizeL (ys.map pr) + 1 := by
    intro ys
    refine ⟨fun m => ?_, ?_⟩
    · rw [List.map_append, hasL_append, Bool.and_true]
      show (hasL (ys.map pr) m || hasL [(n, n)] m) = _
      rw [hasL_one]
      congr 1
      exact decide_eq_decide.2 (by omega)
    · rw [List.map_append, sizeL_append]
      show sizeL (ys.map pr) + sizeL [(n, n)] = _
      rw [sizeL_one]; omega
  rcases h with ⟨rfl, h⟩ | ⟨ys, a, b, rfl, hok, hb, hp⟩
  · have e : step p [] n = [] ++ [⟨n, n⟩] := by unfold step; rw [if_pos hn, if_neg (by simp)]
    rw [e, hn, h]
    exact ⟨(key []).1, (key []).2, by simp [one]⟩
  · by_cases hc : b = n - 1
    · have e : step p (ys ++ [⟨a, b⟩]) n = ys ++ [⟨a, n⟩] := by
        unfold step; rw [if_pos hn, rd_last, set_last, if_pos ⟨by simp, hc⟩]
      have hl := okL_last _ 0 (a, b) hok
      simp only at hl
      rw [e, hn, hp, decide_eq_true hc]
      refine ⟨fun m => ?_, ?_, by simp [one]⟩
      · rw [List.map_append, List.map_append, hasL_append, hasL_append, Bool.and_true]
        show (hasL (ys.map pr) m || hasL [(a, n)] m) = (hasL (ys.map pr) m || hasL [(a, b)] m || decide (m = n))
        rw [hasL_one, hasL_one, Bool.or_assoc, ← Bool.decide_or]
        congr 1
        exact decide_eq_decide.2 (by omega)
      · rw [List.map_append, List.map_append, sizeL_append, sizeL_append]
        show sizeL (ys.map pr) + sizeL [(a, n)] = sizeL (ys.map pr) + sizeL [(a, b)] + 1
        rw [sizeL_one, sizeL_one]; omega
    · have e : step p (ys ++ [⟨a, b⟩]) n = (ys ++ [⟨a, b⟩]) ++ [⟨n, n⟩] := by
        unfold step; rw [if_pos hn, rd_last, if_neg (fun h => hc h.2)]
      rw [e, hn, hp, decide_eq_false hc]
      exact ⟨(key _).1, (key _).2, by simp [one]; omega⟩
theorem fin_facts (p : Int → Bool) : ∀ (d : Nat) (xs : List S45) (n : Int), Inv p xs n → 1 ≤ n → n + d ≤ 10000 →
    (∀ m, hasL ((fin p d xs n).map pr) m = (hasL (xs.map pr) m || (decide (n ≤ m ∧ m < n + d) && p m))) ∧ sizeL ((fin p d xs n).map pr) = sizeL (xs.map pr) + cnt p d n ∧ ((fin p d xs n).length : Int) = (xs.length : Int) + runs p d n ∧ Inv p (fin p d xs n) (n + d)
  | 0, xs, n, hi, _, _ => by
    refine ⟨fun m => ?_, by simp [fin, cnt], by simp [fin, runs], ?_⟩
    · rw [decide_eq_false (by omega), Bool.false_and, Bool.or_false]; rfl
    · simpa [fin] using hi
  | d + 1, xs, n, hi, h1, h2 => by
    obtain ⟨a1, a2, a3⟩ := step_facts p xs n hi h1
    obtain ⟨b1, b2, b3, b4⟩ := fin_facts p d (step p xs n) (n + 1) (Inv_step p xs n hi h1 (by omega)) (by omega) (by omega)
    simp only [fin, cnt, runs]
    refine ⟨fun m => ?_, by omega, by omega, ?_⟩
    · rw [b1, a1, Bool.or_assoc]
      congr 1
      by_cases hm : m = n
      · subst hm
        rw [decide_eq_true (show m = m from rfl), decide_eq_false (by omega), decide_eq_true (by omega)]; simp
      · rw [decide_eq_false hm, Bool.false_and, Bool.false_or]
        congr 1
        exact decide_eq_decide.2 (by omega)
    · have e : n + 1 + (d : Int) = n + ((d + 1 : Nat) : Int) := by omega
      rw [e] at b4; exact b4
/-- the set of a predicate -/
theorem set_facts (p : Int → Bool) (h0 : p 0 = false) :
    (∀ m, hasL ((fin p 9999 [] 1).map pr) m = (decide (1 ≤ m ∧ m ≤ 9999) && p m)) ∧ sizeL ((fin p 9999 [] 1).map pr) = cnt p 9999 1 ∧ ((fin p 9999 [] 1).length : Int) = runs p 9999 1 ∧ setOkB ((fin p 9999 [] 1).map pr) = decide ((fin p 9999 [] 1).length ≤ 40) := by
  obtain ⟨h1, h2, h3, h4⟩ := fin_facts p 9999 [] 1 (.inl ⟨rfl, h0⟩) (by omega) (by omega)
  generalize fin p 9999 [] 1 = F at h1 h2 h3 h4 ⊢
  refine ⟨fun m => ?_, ?_, ?_, Inv_ok h4⟩
  · rw [h1, List.map_nil, show hasL [] m = false from rfl, Bool.false_or]
    rw [decide_eq_decide.2 (show (1 ≤ m ∧ m < 1 + ((9999 : Nat) : Int)) ↔ (1 ≤ m ∧ m ≤ 9999) by omega)]
  · rw [h2, List.map_nil, show sizeL [] = 0 from rfl, Int.zero_add]
  · rw [h3]; simp
theorem one_range (b : Bool) : 0 ≤ one b ∧ one b ≤ 1 := by cases b <;> simp [one]
theorem cnt_two (p q r s : Int → Bool) (h : ∀ n, one (p n) + one (q n) = one (r n) + one (s n)) : ∀ (d : Nat) (n : Int), cnt p d n + cnt q d n = cnt r d n + cnt s d n
  | 0, _ => rfl
  | d + 1, n => by
    have := h n
    have := cnt_two p q r s h d (n + 1)
    simp only [cnt]; omega
theorem cnt_none : ∀ (d : Nat) (n : Int), cnt (fun _ => false) d n = 0
  | 0, _ => rfl
  | d + 1, n => by simp only [cnt]; rw [cnt_none d (n + 1)]; rfl
theorem runs_none : ∀ (d : Nat) (n : Int), runs (fun _ => false) d n = 0
  | 0, _ => rfl
  | d + 1, n => by simp only [runs]; rw [runs_none d (n + 1)]; rfl
theorem runs_le (p q r : Int → Bool) (h : ∀ n, one (p n && !p (n - 1)) ≤ one (q n && !q (n - 1)) + one (r n && !r (n - 1))) : ∀ (d : Nat) (n : Int), runs p d n ≤ runs q d n + runs r d n
  | 0, _ => by simp [runs]
  | d + 1, n => by
    have := h n
    have := runs_le p q r h d (n + 1)
    simp only [runs]; omega
theorem cnt_ivl (a b : Int) : ∀ (d : Nat) (n : Int), cnt (fun m => decide (a ≤ m ∧ m ≤ b)) d n = if a ≤ b then (if (if a < n then n else a) ≤ (if n + d - 1 < b then n + d - 1 else b) then (if n + d - 1 < b then n + d - 1 else b) - (if a < n then n else a) + 1 else 0) else 0
  | 0, n => by
    simp only [cnt]
    repeat' (first | omega | split)
  | d + 1, n => by
    simp only [cnt]
    rw [cnt_ivl a b d (n + 1)]
    simp only [one, decide_eq_true_eq]
    by_cases h : a ≤ n ∧ n ≤ b
    · rw [if_pos h]; repeat' (first | omega | split)
    · rw [if_neg h]; repeat' (first | omega | split)
theorem cnt_range (a b : Int) (h1 : 1 ≤ a) (h2 : a ≤ b) (h3 : b ≤ 9999) : cnt (fun m => decide (a ≤ m ∧ m ≤ b)) 9999 1 = b - a + 1 := by
  rw [cnt_ivl, if_pos h2]
  repeat' (first | omega | split)
/-- the starts of one range -/
theorem runs_ivl (a b : Int) : ∀ (d : Nat) (n : Int), runs (fun m => decide (a ≤ m ∧ m ≤ b)) d n ≤ one (decide (n ≤ a))
  | 0, n => by have := one_range (decide (n ≤ a)); simp only [runs]; omega
  | d + 1, n => by
    have h := runs_ivl a b d (n + 1)
    simp only [runs]
    by_cases h1 : n = a
    · rw [decide_eq_false (show ¬ (n + 1 ≤ a) by omega)] at h
      have h3 := one_range (decide (a ≤ n ∧ n ≤ b) && !decide (a ≤ n - 1 ∧ n - 1 ≤ b))
      rw [decide_eq_true (show n ≤ a by omega)]
      have e : one true = 1 := rfl
      have e2 : one false = 0 := rfl
      omega
    · have e : (decide (a ≤ n ∧ n ≤ b) && !decide (a ≤ n - 1 ∧ n - 1 ≤ b)) = false := by
        by_cases h2 : a ≤ n ∧ n ≤ b
        · rw [decide_eq_true (show a ≤ n - 1 ∧ n - 1 ≤ b by omega)]; simp
        · rw [decide_eq_false h2]; rfl
      rw [e]
      by_cases h2 : n + 1 ≤ a
      · rw [decide_eq_true h2] at h
        rw [decide_eq_true (show n ≤ a by omega)]
        have e2 : one false = 0 := rfl
        omega
      · rw [decide_eq_false h2] at h
        have := one_range (decide (n ≤ a))
        have e2 : one false = 0 := rfl
        omega
theorem runs_or (p q : Int → Bool) (d : Nat) (n : Int) : runs (fun m => p m || q m) d n ≤ runs p d n + runs q d n := by
  refine runs_le _ p q (fun m => ?_) d n
  cases p m <;> cases q m <;> cases p (m - 1) <;> cases q (m - 1) <;> simp [one]
theorem runs_and (p q : Int → Bool) (d : Nat) (n : Int) : runs (fun m => p m && q m) d n ≤ runs p d n + runs q d n := by
  refine runs_le _ p q (fun m => ?_) d n
  cases p m <;> cases q m <;> cases p (m - 1) <;> cases q (m - 1) <;> simp [one]
theorem okL_low : ∀ {l : List (Int × Int)} {b : Int}, okL b l = true → ∀ x ∈ l, b < x.1
  | [], _, _, x, hx => by cases hx
  | q :: l, b, h, x, hx => by
    obtain ⟨h1, h2⟩ := okL_cons h
    rcases List.mem_cons.1 hx with rfl | hx
    · exact h1.1
    · have := okL_low h2 x hx; omega
/-- a right set has so many numbers, so many starts -/
theorem right_cnt : ∀ (l : List (Int × Int)) (b : Int), okL b l = true → cnt (hasL l) 9999 1 = sizeL l
  | [], b, _ => by
    have e : hasL [] = fun _ => false := rfl
    rw [e, cnt_none]; rfl
  | q :: l, b, h => by
    obtain ⟨h1, h2⟩ := okL_cons h
    have h3 := right_cnt l _ h2
    have h4 := cnt_two (hasL (q :: l)) (fun _ => false) (fun m => decide (q.1 ≤ m ∧ m ≤ q.2)) (hasL l) (fun m => by
      rw [hasL_cons]
      by_cases hm : q.1 ≤ m ∧ m ≤ q.2
      · have hn : hasL l m = false := by
          unfold hasL
          rw [List.any_eq_false]
          intro x hx
          have := okL_low h2 x hx
          simp only [decide_eq_true_eq]; omega
        rw [decide_eq_true hm, hn]; simp [one]
      · rw [decide_eq_false hm]; cases hasL l m <;> simp [one]) 9999 1
    rw [cnt_none, cnt_range q.1 q.2 h1.2.1 h1.2.2.1 h1.2.2.2, h3] at h4
    simp only [sizeL, List.map_cons, List.sum_cons] at h4 ⊢
    omega
theorem right_runs : ∀ (l : List (Int × Int)), runs (hasL l) 9999 1 ≤ (l.length : Int)
  | [] => by
    have e : hasL [] = fun _ => false := rfl
    rw [e, runs_none]; simp
  | q :: l => by
    have h1 := right_runs l
    have h2 := runs_or (fun m => decide (q.1 ≤ m ∧ m ≤ q.2)) (hasL l) 9999 1
    have h3 := runs_ivl q.1 q.2 9999 1
    have h4 := one_range (decide ((1 : Int) ≤ q.1))
    have e : (fun m => (fun m => decide (q.1 ≤ m ∧ m ≤ q.2)) m || hasL l m) = hasL (q :: l) := by funext m; rw [hasL_cons]
    rw [e] at h2
    rw [List.length_cons]
    omega

/-! the reader of draws: whatever it tells, it is in its range -/
theorem spec_l01Byte_ev (b : List Int) (i h : Int) (hb : b.length ≤ 140737488351232) (hi : 0 ≤ i) : ∃ r i' h', spec_l01Byte.f b i h = some (r, i', h') ∧ (0 ≤ r ∧ r ≤ 255) ∧ 0 ≤ i' := by
  unfold spec_l01Byte.f
  by_cases hc : i < (b.length : Int)
  · rw [if_pos hc, if_pos hi, w64 (x := i + 1) (by omega) (by omega)]
    exact ⟨_, _, _, rfl, and_255 _, by omega⟩
  · rw [if_neg hc]
    exact ⟨_, _, _, rfl, and_255 _, hi⟩
theorem spec_l01Below_ev (b : List Int) (i h n : Int) (hb : b.length ≤ 140737488351232) (hi : 0 ≤ i) (hn : n ≤ 4294967296) : ∃ r i' h', spec_l01Below.f b i h n = some (r, i', h') ∧ (0 ≤ r ∧ (r < n ∨ n ≤ 0 ∧ r = 0)) ∧ 0 ≤ i' := by
  unfold spec_l01Below.f
  by_cases h0 : n ≤ 0
  · rw [if_pos h0]; exact ⟨_, _, _, rfl, ⟨by omega, Or.inr ⟨h0, rfl⟩⟩, hi⟩
  rw [if_neg h0]
  by_cases h1 : n ≤ 256
  · rw [if_pos h1]
    obtain ⟨r, i1, g1, e1, r1, j1⟩ := spec_l01Byte_ev b i h hb hi
    rw [e1]
    simp only [Option.bind_some]
    rw [if_neg (by omega)]
    have := tmod_range r n r1.1 (by omega)
    exact ⟨_, _, _, rfl, ⟨this.1, Or.inl this.2⟩, j1⟩
  · rw [if_neg h1]
    obtain ⟨x1, i1, g1, e1, r1, j1⟩ := spec_l01Byte_ev b i h hb hi
    obtain ⟨x2, i2, g2, e2, r2, j2⟩ := spec_l01Byte_ev b i1 g1 hb j1
    obtain ⟨x3, i3, g3, e3, r3, j3⟩ := spec_l01Byte_ev b i2 g2 hb j2
    obtain ⟨x4, i4, g4, e4, r4, j4⟩ := spec_l01Byte_ev b i3 g3 hb j3
    rw [e1]; simp only [Option.bind_some]
    rw [e2]; simp only [Option.bind_some]
    rw [e3]; simp only [Option.bind_some]
    rw [e4]; simp only [Option.bind_some]
    rw [if_neg (by omega)]
    have ew : 0 ≤ wrap64 ((wrap64 ((wrap64 ((wrap64 (x1 * 16777216)) + (wrap64 (x2 * 65536)))) + (wrap64 (x3 * 256)))) + x4) := by
      rw [w64 (x := x1 * 16777216) (by omega) (by omega), w64 (x := x2 * 65536) (by omega) (by omega), w64 (x := x3 * 256) (by omega) (by omega), w64 (x := x1 * 16777216 + x2 * 65536) (by omega) (by omega), w64 (x := x1 * 16777216 + x2 * 65536 + x3 * 256) (by omega) (by omega), w64 (by omega) (by omega)]
      omega
    have := tmod_range _ n ew (by omega)
    exact ⟨_, _, _, rfl, ⟨this.1, Or.inl this.2⟩, j4⟩
theorem spec_l01New_l0 (l : List Int) (hl : l.length ≤ 140737488351232) : ∀ (d : Nat) (i h : Int), 0 ≤ i → (l.length : Int) - i ≤ d → ∃ h', Ev (fun k => spec_l01New.l0 k l h i) (l, 0, h') := by
  intro d
  induction d with
  | zero =>
    intro i h h0 hd
    exact ⟨h, Ev.step (spec_l01New.l0.eq_2 l h i) (Ev.no (by omega) (Ev.now _))⟩
  | succ d ih =>
    intro i h h0 hd
    by_cases h1 : i < (l.length : Int)
    · by_cases h2 : i < 4000
      · obtain ⟨h', e⟩ := ih (i + 1) (Go.bits .and .i64 (wrap64 ((wrap64 ((wrap64 (h * 131)) + (wrap64 (rd l i)))) + 7)) 1073741823) (by omega) (by omega)
        refine ⟨h', Ev.step (spec_l01New.l0.eq_2 l h i) (Ev.yes h1 (Ev.yes h2 (Ev.yes h0 ?_)))⟩
        rw [w64 (x := i + 1) (by omega) (by omega)]
        exact e
      · exact ⟨h, Ev.step (spec_l01New.l0.eq_2 l h i) (Ev.yes h1 (Ev.no h2 (Ev.now _)))⟩
    · exact ⟨h, Ev.step (spec_l01New.l0.eq_2 l h i) (Ev.no h1 (Ev.now _))⟩
theorem spec_l01New_ev (l : List Int) (hl : l.length ≤ 140737488351232) : ∃ h, Ev (fun k => spec_l01New.f k l) (l, 0, h) := by
  obtain ⟨h, e⟩ := spec_l01New_l0 l hl l.length 0 (wrap64 (35201 + (l.length : Int))) (by omega) (by omega)
  exact ⟨h, e⟩

theorem spec_l01Once_ev (b : List Int) (i h n : Int) (hb : b.length ≤ 140737488351232) (hi : 0 ≤ i) (hn : n ≤ 4294967296) : ∃ r i' h', spec_l01Once.f b i h n = some (r, i', h') ∧ 0 ≤ i' := by
  obtain ⟨r, i1, h1, e1, -, j1⟩ := spec_l01Below_ev b i h n hb hi hn
  unfold spec_l01Once.f
  rw [e1]
  exact ⟨_, _, _, rfl, j1⟩

theorem runs_nivl (a b : Int) : ∀ (d : Nat) (n : Int), a ≤ n → runs (fun m => !decide (a ≤ m ∧ m ≤ b)) d n ≤ one (decide (n ≤ b + 1))
  | 0, n, _ => by have := one_range (decide (n ≤ b + 1)); simp only [runs]; omega
  | d + 1, n, h0 => by
    have h := runs_nivl a b d (n + 1) (by omega)
    simp only [runs]
    have e1 : one true = 1 := rfl
    have e2 : one false = 0 := rfl
    by_cases h1 : n = b + 1
    · rw [decide_eq_false (show ¬ (n + 1 ≤ b + 1) by omega)] at h
      have h3 := one_range ((!decide (a ≤ n ∧ n ≤ b)) && !(!decide (a ≤ n - 1 ∧ n - 1 ≤ b)))
      rw [decide_eq_true (show n ≤ b + 1 by omega)]
      omega
    · have e : ((!decide (a ≤ n ∧ n ≤ b)) && !(!decide (a ≤ n - 1 ∧ n - 1 ≤ b))) = false := by
        by_cases h2 : n ≤ b
        · rw [decide_eq_true (show a ≤ n ∧ n ≤ b by omega)]; simp
        · rw [decide_eq_false (show ¬ (a ≤ n - 1 ∧ n - 1 ≤ b) by omega)]; simp
      rw [e]
      by_cases h2 : n + 1 ≤ b + 1
      · rw [decide_eq_true h2] at h
        rw [decide_eq_true (show n ≤ b + 1 by omega)]
        omega
      · rw [decide_eq_false h2] at h
        have := one_range (decide (n ≤ b + 1))
        omega
theorem runs_nivl1 (a b : Int) (ha : 1 ≤ a) : ∀ (d : Nat) (n : Int), n ≤ a → runs (fun m => !decide (a ≤ m ∧ m ≤ b)) d n ≤ 1 + one (!decide (n - 1 < a))
  | 0, n, _ => by have := one_range (!decide (n - 1 < a)); simp only [runs]; omega
  | d + 1, n, h0 => by
    have e1 : one true = 1 := rfl
    have e2 : one false = 0 := rfl
    simp only [runs]
    rw [decide_eq_true (show n - 1 < a by omega)]
    have e : ((!decide (a ≤ n ∧ n ≤ b)) && !(!decide (a ≤ n - 1 ∧ n - 1 ≤ b))) = false := by
      rw [decide_eq_false (show ¬ (a ≤ n - 1 ∧ n - 1 ≤ b) by omega)]; simp
    rw [e]
    by_cases h2 : n + 1 ≤ a
    · have h := runs_nivl1 a b ha d (n + 1) h2
      rw [decide_eq_true (show n + 1 - 1 < a by omega)] at h
      simp only [Bool.not_true] at h ⊢
      omega
    · have h := runs_nivl a b d (n + 1) (by omega)
      have := one_range (decide (n + 1 ≤ b + 1))
      simp only [Bool.not_true]
      omega
theorem right_len {l : List (Int × Int)} (h : setOkB l = true) : okL 0 l = true ∧ (l.length : Int) ≤ 40 := by
  simpa [setOkB] using h
theorem putP_zero (tb : Bool) (l : List (Int × Int)) (lo hi : Int) (h : setOkB l = true) (h1 : 1 ≤ lo) : putP tb l lo hi 0 = false := by
  unfold putP; rw [if_neg (by omega)]; exact hasL_zero h
theorem putP_runs (tb : Bool) (l : List (Int × Int)) (lo hi : Int) (h1 : 1 ≤ lo) : runs (putP tb l lo hi) 9999 1 ≤ (l.length : Int) + 1 := by
  have h2 := right_runs l
  cases tb
  · have e : putP false l lo hi = fun m => !decide (lo ≤ m ∧ m ≤ hi) && hasL l m := by
      funext m; unfold putP
      show (if lo ≤ m ∧ m ≤ hi then _ else hasL l m) = _
      by_cases h : lo ≤ m ∧ m ≤ hi
      · rw [if_pos h, decide_eq_true h]; simp
      · rw [if_neg h, decide_eq_false h]; simp
    have h3 := runs_and (fun m => !decide (lo ≤ m ∧ m ≤ hi)) (hasL l) 9999 1
    have h4 := runs_nivl1 lo hi h1 9999 1 h1
    rw [decide_eq_true (show (1 : Int) - 1 < lo by omega)] at h4
    have e2 : one (!true) = 0 := rfl
    rw [e]; omega
  · have e : putP true l lo hi = fun m => decide (lo ≤ m ∧ m ≤ hi) || hasL l m := by
      funext m; unfold putP
      show (if lo ≤ m ∧ m ≤ hi then _ else hasL l m) = _
      by_cases h : lo ≤ m ∧ m ≤ hi
      · rw [if_pos h, decide_eq_true h]; simp
      · rw [if_neg h, decide_eq_false h]; simp
    have h3 := runs_or (fun m => decide (lo ≤ m ∧ m ≤ hi)) (hasL l) 9999 1
    have h4 := runs_ivl lo hi 9999 1
    have h5 := one_range (decide ((1 : Int) ≤ lo))
    rw [e]; omega
theorem putOut_right (tb : Bool) (s : List S45) (lo hi : Int) (h : setOkB (s.map pr) = true) :
    setOkB ((putOut (putP tb (s.map pr) lo hi) s lo hi).1.map pr) = true ∧ ((putOut (putP tb (s.map pr) lo hi) s lo hi).1.length : Int) ≤ (s.length : Int) + 1 := by
  by_cases hlo : 1 ≤ lo
  · obtain ⟨-, -, f3, f4⟩ := set_facts (putP tb (s.map pr) lo hi) (putP_zero tb _ lo hi h hlo)
    have h5 := putP_runs tb (s.map pr) lo hi hlo
    rw [List.length_map] at h5
    unfold putOut
    generalize fin (putP tb (s.map pr) lo hi) 9999 [] 1 = F at f3 f4 ⊢
    split
    · rename_i h1
      exact ⟨by show setOkB (F.map pr) = true; rw [f4]; exact decide_eq_true h1.2.2, by show (F.length : Int) ≤ _; omega⟩
    · exact ⟨h, by show (s.length : Int) ≤ _; omega⟩
  · unfold putOut
    rw [if_neg (fun h1 => hlo h1.2.1.1)]
    exact ⟨h, by show (s.length : Int) ≤ _; omega⟩
theorem draw_end (b : List Int) (hb : b.length ≤ 140737488351232) (s : List S45) (bi h : Int) (h0 : 0 ≤ bi) (hok : setOkB (s.map pr) = true) (hl : s.length ≤ 4) :
    ∃ s' bi' h', Ev (fun k => (spec_l01Once.f b bi h 10).bind fun bt => (if bt.1 = true then ((spec_SetAdd.f k s 9998 9999).bind fun bu => (some (bu.1, bt.2.1, bt.2.2))) else (some (s, bt.2.1, bt.2.2)))) (s', bi', h') ∧ setOkB (s'.map pr) = true ∧ s'.length ≤ 5 ∧ 0 ≤ bi' := by
  obtain ⟨r, i1, h1, e1, j1⟩ := spec_l01Once_ev b bi h 10 hb h0 (by omega)
  cases r
  · exact ⟨s, i1, h1, Ev.bindc e1 (Ev.no (by simp) (Ev.now _)), hok, by omega, j1⟩
  · have h2 := spec_SetAdd_ev s 9998 9999 (by omega)
    have h3 := putOut_right true s 9998 9999 hok
    generalize putOut (putP true (s.map pr) 9998 9999) s 9998 9999 = R at h2 h3
    obtain ⟨R1, R2⟩ := R
    exact ⟨R1, i1, h1, Ev.bindc e1 (Ev.yes rfl (Ev.bind h2 (Ev.now _))), h3.1, by have := h3.2; simp only at this; omega, j1⟩
theorem spec_l05Draw_l0 (b : List Int) (hb : b.length ≤ 140737488351232) : ∀ (d : Nat) (i : Int) (s : List S45) (bi h : Int), i + d = 4 → 0 ≤ i → 0 ≤ bi → setOkB (s.map pr) = true → (s.length : Int) ≤ i →
    ∃ s' bi' h', Ev (fun k => spec_l05Draw.l0 k s i b bi h) (s', bi', h') ∧ setOkB (s'.map pr) = true ∧ s'.length ≤ 5 ∧ 0 ≤ bi' := by
  intro d
  induction d with
  | zero =>
    intro i s bi h hi h0 hbi hok hl
    obtain ⟨r, i1, h1, e1, r1, j1⟩ := spec_l01Below_ev b bi h 5 hb hbi (by omega)
    obtain ⟨s', bi', h', e, q⟩ := draw_end b hb s i1 h1 j1 hok (by omega)
    exact ⟨s', bi', h', Ev.step (spec_l05Draw.l0.eq_2 s i b bi h) (Ev.bindc e1 (Ev.no (by show ¬ i < r; omega) e)), q⟩
  | succ d ih =>
    intro i s bi h hi h0 hbi hok hl
    obtain ⟨r, i1, h1, e1, r1, j1⟩ := spec_l01Below_ev b bi h 5 hb hbi (by omega)
    by_cases hc : i < r
    · obtain ⟨r2, i2, h2, e2, q2, j2⟩ := spec_l01Below_ev b i1 h1 14 hb j1 (by omega)
      obtain ⟨r3, i3, h3, e3, q3, j3⟩ := spec_l01Below_ev b i2 h2 4 hb j2 (by omega)
      have hs := spec_SetAdd_ev s (1 + r2) (1 + r2 + r3) (by omega)
      have hr := putOut_right true s (1 + r2) (1 + r2 + r3) hok
      generalize putOut (putP true (s.map pr) (1 + r2) (1 + r2 + r3)) s (1 + r2) (1 + r2 + r3) = R at hs hr
      obtain ⟨R1, R2⟩ := R
      obtain ⟨s', bi', h', e, q⟩ := ih (i + 1) R1 i3 h3 (by omega) (by omega) j3 hr.1 (by have := hr.2; simp only at this; omega)
      refine ⟨s', bi', h', Ev.step (spec_l05Draw.l0.eq_2 s i b bi h) (Ev.bindc e1 (Ev.yes hc (Ev.bindc e2 (Ev.bindc e3 ?_)))), q⟩
      simp only
      rw [w64 (x := 1 + r2) (by omega) (by omega), w64 (x := 1 + r2 + r3) (by omega) (by omega), w64 (x := i + 1) (by omega) (by omega)]
      exact Ev.bind hs e
    · obtain ⟨s', bi', h', e, q⟩ := draw_end b hb s i1 h1 j1 hok (by omega)
      exact ⟨s', bi', h', Ev.step (spec_l05Draw.l0.eq_2 s i b bi h) (Ev.bindc e1 (Ev.no hc e)), q⟩
theorem spec_l05Draw_ev (b : List Int) (hb : b.length ≤ 140737488351232) (bi h : Int) (hbi : 0 ≤ bi) :
    ∃ s' bi' h', Ev (fun k => spec_l05Draw.f k b bi h) (s', bi', h') ∧ setOkB (s'.map pr) = true ∧ s'.length ≤ 5 ∧ 0 ≤ bi' :=
  spec_l05Draw_l0 b hb 4 0 [] bi h (by omega) (by omega) hbi rfl (by simp)
theorem spec_DrawSets_ev (l : List Int) (hl : l.length ≤ 140737488351232) :
    ∃ a b, Ev (fun k => spec_DrawSets.f k l) (a, b) ∧ setOkB (a.map pr) = true ∧ a.length ≤ 5 ∧ setOkB (b.map pr) = true ∧ b.length ≤ 5 := by
  obtain ⟨h, e⟩ := spec_l01New_ev l hl
  obtain ⟨a, i1, h1, e1, a1, a2, j1⟩ := spec_l05Draw_ev l hl 0 h (by omega)
  obtain ⟨b, i2, h2, e2, b1, b2, j2⟩ := spec_l05Draw_ev l hl i1 h1 j1
  exact ⟨a, b, Ev.bind e (Ev.bind e1 (Ev.bind e2 (Ev.now _))), a1, a2, b1, b2⟩

theorem spec_DrawPlaces_l0 (b : List Int) (hb : b.length ≤ 140737488351232) : ∀ (d : Nat) (j : Int) (xs : List Int) (i h : Int), j + d = 12 → 0 ≤ j → 0 ≤ i → (xs.length : Int) = j → (∀ x ∈ xs, 0 ≤ x ∧ x < 10000) →
    ∃ ps : List Int, Ev (fun k => spec_DrawPlaces.l0 k xs j b i h) ps ∧ ps.length = 12 ∧ ∀ x ∈ ps, 0 ≤ x ∧ x < 10000 := by
  intro d
  induction d with
  | zero =>
    intro j xs i h hj h0 hi hx hr
    exact ⟨xs, Ev.step (spec_DrawPlaces.l0.eq_2 xs j b i h) (Ev.no (by omega) (Ev.now _)), by omega, hr⟩
  | succ d ih =>
    intro j xs i h hj h0 hi hx hr
    obtain ⟨r, i1, h1, e1, r1, j1⟩ := spec_l01Below_ev b i h 10000 hb hi (by omega)
    obtain ⟨ps, e, hl, hp⟩ := ih (j + 1) (xs ++ [r]) i1 h1 (by omega) (by omega) j1 (by rw [List.length_append, List.length_singleton]; omega) (by
      intro x hx'
      rcases List.mem_append.1 hx' with hx' | hx'
      · exact hr x hx'
      · have := List.mem_singleton.1 hx'; omega)
    refine ⟨ps, Ev.step (spec_DrawPlaces.l0.eq_2 xs j b i h) (Ev.yes (by omega) (Ev.bindc e1 (Ev.yes (by omega) ?_))), hl, hp⟩
    rw [w64 (x := j + 1) (by omega) (by omega)]
    exact e
theorem spec_DrawPlaces_ev (l : List Int) (hl : l.length ≤ 140737488351232) : ∃ ps : List Int, Ev (fun k => spec_DrawPlaces.f k l) ps ∧ ps.length = 12 ∧ ∀ x ∈ ps, 0 ≤ x ∧ x < 10000 := by
  obtain ⟨h, e⟩ := spec_l01New_ev l hl
  obtain ⟨r, i1, h1, e1, -, j1⟩ := spec_l01Byte_ev l 0 h hl (by omega)
  obtain ⟨ps, e2, h2, h3⟩ := spec_DrawPlaces_l0 l hl 12 0 [] i1 h1 (by omega) (by omega) j1 rfl (by simp)
  exact ⟨ps, Ev.bind e (Ev.bindc e1 e2), h2, h3⟩

theorem FnSets : laws_FnSets.Pure := by
  intro l hm hl hw
  apply Ev.rounds
  unfold laws_FnSets.f
  refine Ev.bindc (show laws_big.f l = some (decide ((l.length : Int) > 1048576)) from rfl) (Ev.ite (fun _ => Ev.now _) (fun hbig => ?_))
  obtain ⟨s, b, ed, hs, ls, -, -⟩ := spec_DrawSets_ev l (by omega)
  obtain ⟨ps, ep, lp, hp⟩ := spec_DrawPlaces_ev l (by omega)
  refine Ev.bind ed (Ev.bind ep (Ev.yes (by omega) (Ev.yes (by omega) ?_)))
  have g0 : 0 ≤ rd ps 0 ∧ rd ps 0 < 10000 := by
    have : rd ps 0 ∈ ps := by
      unfold rd
      rw [List.getD_eq_getElem?_getD, List.getElem?_eq_getElem (by omega), Option.getD_some]
      exact List.getElem_mem _
    exact hp _ this
  have g1 : 0 ≤ rd ps 1 ∧ rd ps 1 < 10000 := by
    have : rd ps 1 ∈ ps := by
      unfold rd
      rw [List.getD_eq_getElem?_getD, List.getElem?_eq_getElem (by show 1 < ps.length; omega), Option.getD_some]
      exact List.getElem_mem _
    exact hp _ this
  have t0 := tmod_range (rd ps 0) 20 g0.1 (by omega)
  have t1 := tmod_range (rd ps 1) 5 g1.1 (by omega)
  generalize Int.tmod (rd ps 0) 20 = u at t0 ⊢
  generalize Int.tmod (rd ps 1) 5 = v at t1 ⊢
  clear g0 g1
  rw [w64 (x := 1 + u) (by omega) (by omega), w64 (x := 1 + u + v) (by omega) (by omega)]
  obtain ⟨lo, elo⟩ : ∃ lo, lo = 1 + u := ⟨_, rfl⟩
  obtain ⟨hi, ehi⟩ : ∃ hi, hi = 1 + u + v := ⟨_, rfl⟩
  rw [← ehi, ← elo]
  have b1 : 1 ≤ lo ∧ lo ≤ hi ∧ hi ≤ 24 := by omega
  clear elo ehi t0 t1
  have ha := impl_SetAdd_ev s lo hi (by omega)
  have hd := impl_SetDrop_ev s lo hi (by omega)
  obtain ⟨pa, epa⟩ : ∃ p : Int → Bool, p = putP true (s.map pr) lo hi := ⟨_, rfl⟩
  obtain ⟨pd, epd⟩ : ∃ p : Int → Bool, p = putP false (s.map pr) lo hi := ⟨_, rfl⟩
  rw [← epa] at ha
  rw [← epd] at hd
  have za := putP_zero true (s.map pr) lo hi hs b1.1
  have zd := putP_zero false (s.map pr) lo hi hs b1.1
  have ra := putP_runs true (s.map pr) lo hi b1.1
  have rdd := putP_runs false (s.map pr) lo hi b1.1
  rw [List.length_map] at ra rdd
  rw [← epa] at za ra
  rw [← epd] at zd rdd
  obtain ⟨a1, a2, a3, a4⟩ := set_facts pa za
  obtain ⟨d1, d2, d3, d4⟩ := set_facts pd zd
  have oa : putOut pa s lo hi = (fin pa 9999 [] 1, true) := by unfold putOut; rw [if_pos ⟨hs, ⟨b1.1, b1.2.1, by omega⟩, by omega⟩]
  have od : putOut pd s lo hi = (fin pd 9999 [] 1, true) := by unfold putOut; rw [if_pos ⟨hs, ⟨b1.1, b1.2.1, by omega⟩, by omega⟩]
  rw [oa] at ha
  rw [od] at hd
  refine Ev.bind ha (Ev.bind hd ?_)
  have csum := cnt_two pa (fun _ => false) pd (fun m => decide (lo ≤ m ∧ m ≤ hi)) (fun n => by
    rw [epa, epd]; unfold putP
    by_cases h : lo ≤ n ∧ n ≤ hi
    · rw [if_pos h, if_pos h, decide_eq_true h]; rfl
    · rw [if_neg h, if_neg h, decide_eq_false h]) 9999 1
  rw [cnt_none, cnt_range lo hi b1.1 b1.2.1 (by omega), ← a2, ← d2] at csum
  have pa' : ∀ n, pa n = (hasL (s.map pr) n || decide (lo ≤ n ∧ n ≤ hi)) := fun n => by
    rw [epa]; unfold putP
    by_cases h : lo ≤ n ∧ n ≤ hi
    · rw [if_pos h, decide_eq_true h, Bool.or_true]
    · rw [if_neg h, decide_eq_false h, Bool.or_false]
  have pd' : ∀ n, pd n = (hasL (s.map pr) n && !decide (lo ≤ n ∧ n ≤ hi)) := fun n => by
    rw [epd]; unfold putP
    by_cases h : lo ≤ n ∧ n ≤ hi
    · rw [if_pos h, decide_eq_true h]; simp
    · rw [if_neg h, decide_eq_false h]; simp
  clear oa od a2 d2 epa epd
  have ka : setOkB ((fin pa 9999 [] 1).map pr) = true := by rw [a4]; exact decide_eq_true (by omega)
  have kd : setOkB ((fin pd 9999 [] 1).map pr) = true := by rw [d4]; exact decide_eq_true (by omega)
  have la : (fin pa 9999 [] 1).length ≤ 40 := by have := (right_len ka).2; rw [List.length_map] at this; omega
  have ld : (fin pd 9999 [] 1).length ≤ 40 := by have := (right_len kd).2; rw [List.length_map] at this; omega
  have sza := sizeL_range (fun p hp => okL_mem (right_len ka).1 p hp)
  have szd := sizeL_range (fun p hp => okL_mem (right_len kd).1 p hp)
  rw [List.length_map] at sza szd
  clear a3 d3 a4 d4 ra rdd
  generalize fin pa 9999 [] 1 = J at *
  generalize fin pd 9999 [] 1 = M at *
  have zs := hasL_zero hs
  suffices hloop : ∀ (d : Nat) (n : Int), n + d = 40 → 0 ≤ n → Ev (fun k => laws_FnSets.l0 k s lo hi J true M true n) true from hloop 40 0 (by omega) (by omega)
  intro d
  induction d with
  | zero =>
    intro n hn h0
    have sj := impl_SetSize_ev J (by omega)
    have sm := impl_SetSize_ev M (by omega)
    rw [if_pos ka] at sj
    rw [if_pos kd] at sm
    have kk := impl_SetOk_ev J (by omega)
    have kk2 := impl_SetOk_ev M (by omega)
    rw [ka] at kk
    rw [kd] at kk2
    refine Ev.step (laws_FnSets.l0.eq_2 s lo hi J true M true n) (Ev.no (by omega) (Ev.yes rfl (Ev.yes rfl (Ev.bind kk (Ev.yes rfl (Ev.bind kk2 (Ev.yes rfl (Ev.bind sj (Ev.bind sm (Ev.const ?_))))))))))
    rw [w64 (x := hi - lo) (by omega) (by omega), w64 (x := hi - lo + 1) (by omega) (by omega), w64 (by omega) (by omega)]
    congr 1
    rw [beq_iff_eq]; omega
  | succ d ih =>
    intro n hn h0
    have hnext := ih (n + 1) (by omega) (by omega)
    have eJ := impl_SetHas_ev J (by omega) n
    have eM := impl_SetHas_ev M (by omega) n
    have xJ : hasL (J.map pr) n = (hasL (s.map pr) n || decide (lo ≤ n ∧ n ≤ hi)) := by
      rw [a1, pa']
      by_cases h1 : n = 0
      · rw [h1, zs, decide_eq_false (show ¬ (lo ≤ 0 ∧ 0 ≤ hi) by omega)]; simp
      · rw [decide_eq_true (by omega), Bool.true_and]
    have xM : hasL (M.map pr) n = (hasL (s.map pr) n && !decide (lo ≤ n ∧ n ≤ hi)) := by
      rw [d1, pd']
      by_cases h1 : n = 0
      · rw [h1, zs]; simp
      · rw [decide_eq_true (by omega), Bool.true_and]
    rw [xJ] at eJ
    rw [xM] at eM
    have w4 : wrap64 (n + 1) = n + 1 := w64 (by omega) (by omega)
    have hj1 : ∀ t : Bool, t = decide (lo ≤ n ∧ n ≤ hi) → Ev (fun k => laws_FnSets.j1 k s lo hi J true M true n (hasL (s.map pr) n) t) true := by
      intro t ht
      rw [← ht] at eJ eM
      clear ht
      refine Ev.step (laws_FnSets.j1.eq_2 s lo hi J true M true n _ t) (Ev.bind eJ ?_)
      rw [w4]
      generalize hasL (s.map pr) n = x at eM ⊢
      cases x <;> cases t
      · exact Ev.no (by simp) (Ev.no (by simp) (Ev.bind eM (Ev.no (by simp) hnext)))
      · exact Ev.no (by simp) (Ev.no (by simp) (Ev.bind eM (Ev.no (by simp) hnext)))
      · exact Ev.yes (by simp) (Ev.no (by simp) (Ev.bind eM (Ev.no (by simp) hnext)))
      · exact Ev.yes (by simp) (Ev.no (by simp) (Ev.bind eM (Ev.no (by simp) hnext)))
    clear w4
    refine Ev.step (laws_FnSets.l0.eq_2 s lo hi J true M true n) (Ev.yes (by omega) (Ev.bind (spec_SetHas_ev s (by omega) n) (Ev.ite (fun h => ?_) (fun h => ?_))))
    · exact hj1 _ (decide_eq_decide.2 (by omega))
    · exact hj1 _ (decide_eq_false (by omega)).symm
end Go.Proofs.Ythngecooaddddaa.Pure
