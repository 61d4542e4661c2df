/- SetSize returns what the reference returns, for every list of ranges; its argument stays as it was. No condition. -/
import Derived.Test.YthngecooaddddaaSet
import Derived.Test.YthngecooaddddaaQFnExactSetSizex3
namespace Go.Proofs.Ythngecooaddddaa.Pure
open Go.RowKit Go.Proofs.Ythngecooaddddaa.PFnExactSetSize Go.Proofs.YthngecooaddddaaW.PrintWords Go.Proofs.YthngecooaddddaaW.PrintLast Go.Proofs.Ythngecooaddddaa.Gen
set_option linter.unusedVariables false

theorem spec_l01In_ev (a b c : Int) : spec_l01In.f a b c = some (decide (b ≤ a ∧ a ≤ c)) := by
  unfold spec_l01In.f
  by_cases h : a ≥ b
  · rw [if_pos h]; congr 1; simp; omega
  · rw [if_neg h]; congr 1; simp; omega

theorem impl_within_ev (a b c : Int) : impl_within.f a b c = some (decide (b ≤ a ∧ a ≤ c)) := by
  unfold impl_within.f
  by_cases h : a ≥ b
  · rw [if_pos h]; congr 1; simp; omega
  · rw [if_neg h]; congr 1; simp; omega

/-- a range as a pair -/
def pr (x : S45) : Int × Int := (x.f0, x.f1)
def to45 (x : S47) : S45 := ⟨x.f0, x.f1⟩
theorem rd45_at (l : List S45) (i : Nat) (h : i < l.length) : rd_T45 l (i : Int) = l[i] := by
  unfold rd_T45
  rw [Int.toNat_natCast, List.getD_eq_getElem?_getD, List.getElem?_eq_getElem h]; rfl
theorem rd47_at (l : List S47) (i : Nat) (h : i < l.length) : rd_T47 l (i : Int) = l[i] := by
  unfold rd_T47
  rw [Int.toNat_natCast, List.getD_eq_getElem?_getD, List.getElem?_eq_getElem h]; rfl
theorem laws_szRangeS_ev (l : List S47) (a : Int) (hl : l.length ≤ 9223372036854775807) (h0 : 0 ≤ a) (ha : a ≤ 1048576) : laws_szRangeS.f l a = some (if a - (l.length : Int) < 0 then -1 else a - (l.length : Int)) := by
  unfold laws_szRangeS.f
  rw [w64 (by omega) (by omega)]
  split <;> rfl
theorem laws_toRangeS_l0 (l : List S47) (hl : l.length ≤ 1048576) : ∀ (d i : Nat) (ys : List S45), i + d = l.length → ys.length = l.length → ys.take i = (l.take i).map to45 → Ev (fun k => laws_toRangeS.l0 k l ys (i : Int)) (l.map to45) := by
  intro d
  induction d with
  | zero =>
    intro i ys hi hy ht
    refine Ev.step (laws_toRangeS.l0.eq_2 l ys (i : Int)) (Ev.no (by omega) (Ev.const ?_))
    rw [List.take_of_length_le (by omega), List.take_of_length_le (by omega)] at ht
    rw [ht]
  | succ d ih =>
    intro i ys hi hy ht
    have hlt : i < l.length := by omega
    have hlt2 : i < ys.length := by omega
    have e := rd47_at l i hlt
    refine Ev.step (laws_toRangeS.l0.eq_2 l ys (i : Int)) (Ev.yes (by omega) (Ev.yes (by omega) (Ev.bindc rfl (Ev.yes (by omega) ?_))))
    rw [e, Int.toNat_natCast, w64 (by omega) (by omega)]
    refine ih (i + 1) _ (by omega) (by rw [List.length_set]; exact hy) ?_
    rw [take_set_next ys i _ hlt2, ht, List.take_succ_eq_append_getElem hlt, List.map_append]
    rfl
theorem laws_toRangeS_ev (l : List S47) (hl : l.length ≤ 1048576) : Ev (fun k => laws_toRangeS.f k l) (l.map to45) := by
  unfold laws_toRangeS.f
  refine Ev.yes (by omega) (Ev.yes (by omega) ?_)
  exact laws_toRangeS_l0 l hl l.length 0 _ (by omega) (by rw [List.length_replicate]; omega) (by simp)
theorem laws_eqRangeS_l0 (l : List S45) (hl : l.length ≤ 1048576) : ∀ (d i : Nat), i + d = l.length → Ev (fun k => laws_eqRangeS.l0 k l l (i : Int)) true := by
  intro d
  induction d with
  | zero =>
    intro i hi
    exact Ev.step (laws_eqRangeS.l0.eq_2 l l (i : Int)) (Ev.no (by omega) (Ev.now _))
  | succ d ih =>
    intro i hi
    have e : laws_eqRange.f ((rd_T45 l (i : Int)).f0) ((rd_T45 l (i : Int)).f1) ((rd_T45 l (i : Int)).f0) ((rd_T45 l (i : Int)).f1) = some true := by
      unfold laws_eqRange.f; rw [if_pos rfl, if_pos rfl]
    refine Ev.step (laws_eqRangeS.l0.eq_2 l l (i : Int)) (Ev.yes (by omega) (Ev.yes (by omega) (Ev.yes (by omega) (Ev.bindc e (Ev.yes rfl ?_)))))
    rw [w64 (by omega) (by omega)]
    exact ih (i + 1) (by omega)
theorem laws_eqRangeS_ev (l : List S45) (hl : l.length ≤ 1048576) : Ev (fun k => laws_eqRangeS.f k l l) true := by
  unfold laws_eqRangeS.f
  exact Ev.yes rfl (laws_eqRangeS_l0 l hl l.length 0 (by omega))

theorem spec_SetOk_l0 (l : List S45) (hl : l.length ≤ 1048576) : ∀ (d i : Nat) (b : Int), i + d = l.length → (i = 0 → b = 0) → (0 < i → b = (rd_T45 l ((i : Int) - 1)).f1 + 1 ∧ 1 ≤ b ∧ b ≤ 10000) →
    Ev (fun k => spec_SetOk.l0 k l (i : Int)) (okL b ((l.drop i).map pr) && decide ((l.length : Int) ≤ 40)) := by
  intro d
  induction d with
  | zero =>
    intro i b hi h0 h1
    refine Ev.step (spec_SetOk.l0.eq_2 l (i : Int)) (Ev.no (by omega) (Ev.const ?_))
    rw [List.drop_eq_nil_of_le (by omega)]; rfl
  | succ d ih =>
    intro i b hi h0 h1
    have hlt : i < l.length := by omega
    have e := rd45_at l i hlt
    rw [List.drop_eq_getElem_cons hlt]
    simp only [List.map_cons, okL]
    have ep : pr l[i] = ((rd_T45 l (i : Int)).f0, (rd_T45 l (i : Int)).f1) := by rw [e]; rfl
    rw [ep]
    generalize rd_T45 l (i : Int) = x at ep e
    have hn : ∀ c : Int, c = x.f1 + 1 → 1 ≤ x.f1 ∧ x.f1 ≤ 9999 → Ev (fun k => spec_SetOk.l0 k l ((i + 1 : Nat) : Int)) (okL c ((l.drop (i + 1)).map pr) && decide ((l.length : Int) ≤ 40)) := by
      intro c hc hx
      refine ih (i + 1) c (by omega) (fun h => by omega) (fun _ => ?_)
      have e3 : (((i + 1 : Nat) : Int) - 1) = (i : Int) := by omega
      rw [e3, rd45_at l i hlt, ← e]
      exact ⟨hc, by omega, by omega⟩
    have e2 : wrap64 ((i : Int) + 1) = ((i + 1 : Nat) : Int) := by rw [w64 (by omega) (by omega)]; omega
    have hx0 : (rd_T45 l (i : Int)) = x := by rw [rd45_at l i hlt]; exact e.symm
    refine Ev.step (spec_SetOk.l0.eq_2 l (i : Int)) ?_
    rw [e2]
    clear e2 e ep ih
    rw [hx0]
    have hz : 0 < i → wrap64 ((i : Int) - 1) = (i : Int) - 1 := fun h => w64 (by omega) (by omega)
    refine Ev.yes (by omega) (Ev.yes (by omega) (Ev.bindc (spec_l01In_ev _ _ _) ?_))
    refine Ev.ite (fun h2 => ?_) (fun h2 => ?_)
    · rw [decide_eq_true_eq] at h2
      refine Ev.ite (fun h3 => ?_) (fun h3 => ?_)
      · rw [decide_eq_false (by omega)]; exact Ev.now _
      · refine Ev.ite (fun h4 => ?_) (fun h4 => ?_)
        · obtain ⟨h5, h6, h7⟩ := h1 (by omega)
          rw [hz (by omega), w64 (x := (rd_T45 l ((i : Int) - 1)).f1 + 1) (by omega) (by omega), ← h5]
          clear hz
          refine Ev.yes (by omega) (Ev.yes (by omega) ?_)
          refine Ev.ite (fun h8 => ?_) (fun h8 => ?_)
          · rw [decide_eq_false (by omega)]; exact Ev.now _
          · rw [decide_eq_true (show b < x.f0 ∧ 1 ≤ x.f0 ∧ x.f0 ≤ x.f1 ∧ x.f1 ≤ 9999 by omega), Bool.true_and]
            exact hn _ rfl (by omega)
        · clear hz
          have h9 := h0 (by omega)
          rw [decide_eq_true (show b < x.f0 ∧ 1 ≤ x.f0 ∧ x.f0 ≤ x.f1 ∧ x.f1 ≤ 9999 by omega), Bool.true_and]
          exact hn _ rfl (by omega)
    · rw [decide_eq_true_eq] at h2
      rw [decide_eq_false (by omega)]; exact Ev.now _

theorem spec_SetOk_ev (l : List S45) (hl : l.length ≤ 1048576) : Ev (fun k => spec_SetOk.f k l) (setOkB (l.map pr)) := by
  have := spec_SetOk_l0 l hl l.length 0 0 (by omega) (fun _ => rfl) (fun h => by omega)
  unfold setOkB
  rw [List.length_map]
  exact this

theorem impl_isUid_ev (a : Int) : impl_isUid.f a = some (decide (1 ≤ a ∧ a ≤ 9999)) := by unfold impl_isUid.f; rw [impl_within_ev]; rfl
theorem impl_SetOk_l0 (l : List S45) (hl : l.length ≤ 1048576) : ∀ (d i : Nat) (b : Int), i + d = l.length → (i = 0 → b = 0) → (0 < i → b = (rd_T45 l ((i : Int) - 1)).f1 + 1 ∧ 1 ≤ b ∧ b ≤ 10000) →
    Ev (fun k => impl_SetOk.l0 k l l (l.length : Int) (i : Int)) (okL b ((l.drop i).map pr) && decide ((l.length : Int) ≤ 40)) := by
  intro d
  induction d with
  | zero =>
    intro i b hi h0 h1
    refine Ev.step (impl_SetOk.l0.eq_2 l l (l.length : Int) (i : Int)) (Ev.no (by omega) (Ev.const ?_))
    rw [List.drop_eq_nil_of_le (by omega)]; rfl
  | succ d ih =>
    intro i b hi h0 h1
    have hlt : i < l.length := by omega
    have e := rd45_at l i hlt
    rw [List.drop_eq_getElem_cons hlt]
    simp only [List.map_cons, okL]
    have ep : pr l[i] = ((rd_T45 l (i : Int)).f0, (rd_T45 l (i : Int)).f1) := by rw [e]; rfl
    rw [ep]
    generalize rd_T45 l (i : Int) = x at ep e
    have hn : ∀ c : Int, c = x.f1 + 1 → 1 ≤ x.f1 ∧ x.f1 ≤ 9999 → Ev (fun k => impl_SetOk.l0 k l l (l.length : Int) ((i + 1 : Nat) : Int)) (okL c ((l.drop (i + 1)).map pr) && decide ((l.length : Int) ≤ 40)) := by
      intro c hc hx
      refine ih (i + 1) c (by omega) (fun h => by omega) (fun _ => ?_)
      have e3 : (((i + 1 : Nat) : Int) - 1) = (i : Int) := by omega
      rw [e3, rd45_at l i hlt, ← e]
      exact ⟨hc, by omega, by omega⟩
    have e2 : wrap64 ((i : Int) + 1) = ((i + 1 : Nat) : Int) := by rw [w64 (by omega) (by omega)]; omega
    have hx0 : (rd_T45 l (i : Int)) = x := by rw [rd45_at l i hlt]; exact e.symm
    refine Ev.step (impl_SetOk.l0.eq_2 l l (l.length : Int) (i : Int)) ?_
    rw [e2]
    clear e2 e ep ih
    rw [hx0]
    have hz : 0 < i → wrap64 ((i : Int) - 1) = (i : Int) - 1 := fun h => w64 (by omega) (by omega)
    refine Ev.yes (by omega) (Ev.yes (by omega) (Ev.yes (by omega) (Ev.bindc (impl_isUid_ev _) ?_)))
    refine Ev.ite (fun h2 => ?_) (fun h2 => ?_)
    · rw [decide_eq_true_eq] at h2
      refine Ev.bindc (impl_within_ev _ _ _) ?_
      refine Ev.ite (fun h3 => ?_) (fun h3 => ?_)
      · rw [decide_eq_true_eq] at h3
        refine Ev.ite (fun h4 => ?_) (fun h4 => ?_)
        · obtain ⟨h5, h6, h7⟩ := h1 (by omega)
          rw [hz (by omega), w64 (x := (rd_T45 l ((i : Int) - 1)).f1 + 1) (by omega) (by omega), ← h5]
          clear hz
          refine Ev.yes (by omega) (Ev.yes (by omega) ?_)
          refine Ev.ite (fun h8 => ?_) (fun h8 => ?_)
          · rw [decide_eq_false (by omega)]; exact Ev.now _
          · rw [decide_eq_true (show b < x.f0 ∧ 1 ≤ x.f0 ∧ x.f0 ≤ x.f1 ∧ x.f1 ≤ 9999 by omega), Bool.true_and]
            exact hn _ rfl (by omega)
        · clear hz
          have h9 := h0 (by omega)
          rw [decide_eq_true (show b < x.f0 ∧ 1 ≤ x.f0 ∧ x.f0 ≤ x.f1 ∧ x.f1 ≤ 9999 by omega), Bool.true_and]
          exact hn _ rfl (by omega)
      · rw [decide_eq_true_eq] at h3
        rw [decide_eq_false (by omega)]; exact Ev.now _
    · rw [decide_eq_true_eq] at h2
      rw [decide_eq_false (by omega)]; exact Ev.now _

theorem impl_SetOk_ev (l : List S45) (hl : l.length ≤ 1048576) : Ev (fun k => impl_SetOk.f k l) (setOkB (l.map pr)) := by
  have := impl_SetOk_l0 l hl l.length 0 0 (by omega) (fun _ => rfl) (fun h => by omega)
  unfold setOkB
  rw [List.length_map]
  exact this


theorem spec_SetSize_l0 (l : List S45) (hl : l.length ≤ 40) (hok : ∀ p ∈ l.map pr, 1 ≤ p.1 ∧ p.1 ≤ p.2 ∧ p.2 ≤ 9999) : ∀ (d i : Nat) (s : Int), i + d = l.length → 0 ≤ s → s ≤ 9999 * i → Ev (fun k => spec_SetSize.l0 k l s (i : Int)) (s + sizeL ((l.drop i).map pr)) := by
  intro d
  induction d with
  | zero =>
    intro i s hi _ _
    refine Ev.step (spec_SetSize.l0.eq_2 l s (i : Int)) (Ev.no (by omega) (Ev.const ?_))
    rw [List.drop_eq_nil_of_le (by omega)]; simp [sizeL]
  | succ d ih =>
    intro i s hi h0 h1
    have hlt : i < l.length := by omega
    have e := rd45_at l i hlt
    have hx := hok (pr l[i]) (List.mem_map_of_mem (List.getElem_mem hlt))
    rw [← e] at hx
    refine Ev.step (spec_SetSize.l0.eq_2 l s (i : Int)) (Ev.yes (by omega) (Ev.yes (by omega) ?_))
    rw [List.drop_eq_getElem_cons hlt, ← e]
    generalize rd_T45 l (i : Int) = x at hx ⊢
    have hx' : 1 ≤ x.f0 ∧ x.f0 ≤ x.f1 ∧ x.f1 ≤ 9999 := hx
    rw [w64 (x := s + x.f1) (by omega) (by omega), w64 (x := s + x.f1 - x.f0) (by omega) (by omega), w64 (x := s + x.f1 - x.f0 + 1) (by omega) (by omega), w64 (by omega) (by omega)]
    have e2 : sizeL ((x :: l.drop (i + 1)).map pr) = (x.f1 - x.f0 + 1) + sizeL ((l.drop (i + 1)).map pr) := by simp [sizeL, pr]
    rw [e2]
    have := ih (i + 1) (s + x.f1 - x.f0 + 1) (by omega) (by omega) (by omega)
    rw [show s + (x.f1 - x.f0 + 1 + sizeL ((l.drop (i + 1)).map pr)) = s + x.f1 - x.f0 + 1 + sizeL ((l.drop (i + 1)).map pr) by omega]
    exact this
theorem spec_SetSize_ev (l : List S45) (hl : l.length ≤ 1048576) : Ev (fun k => spec_SetSize.f k l) (if setOkB (l.map pr) = true then sizeL (l.map pr) else 0) := by
  unfold spec_SetSize.f
  refine Ev.bind (spec_SetOk_ev l hl) ?_
  refine Ev.ite (fun h => ?_) (fun h => ?_)
  · rw [if_pos h]
    have h' := h
    simp only [setOkB, Bool.and_eq_true, decide_eq_true_eq, List.length_map] at h'
    have := spec_SetSize_l0 l (by omega) (okL_mem h'.1) l.length 0 0 (by omega) (by omega) (by omega)
    rw [Int.zero_add] at this
    exact this
  · rw [if_neg h]; exact Ev.now _
theorem impl_SetSize_l0 (l : List S45) (hl : l.length ≤ 40) (hok : ∀ p ∈ l.map pr, 1 ≤ p.1 ∧ p.1 ≤ p.2 ∧ p.2 ≤ 9999) : ∀ (d i : Nat) (s : Int), i + d = l.length → 0 ≤ s → s ≤ 9999 * i → Ev (fun k => impl_SetSize.l0 k s l (l.length : Int) (i : Int)) (s + sizeL ((l.drop i).map pr)) := by
  intro d
  induction d with
  | zero =>
    intro i s hi _ _
    refine Ev.step (impl_SetSize.l0.eq_2 s l (l.length : Int) (i : Int)) (Ev.no (by omega) (Ev.const ?_))
    rw [List.drop_eq_nil_of_le (by omega)]; simp [sizeL]
  | succ d ih =>
    intro i s hi h0 h1
    have hlt : i < l.length := by omega
    have e := rd45_at l i hlt
    have hx := hok (pr l[i]) (List.mem_map_of_mem (List.getElem_mem hlt))
    rw [← e] at hx
    refine Ev.step (impl_SetSize.l0.eq_2 s l (l.length : Int) (i : Int)) (Ev.yes (by omega) (Ev.yes (by omega) (Ev.yes (by omega) ?_)))
    rw [List.drop_eq_getElem_cons hlt, ← e]
    generalize rd_T45 l (i : Int) = x at hx ⊢
    have hx' : 1 ≤ x.f0 ∧ x.f0 ≤ x.f1 ∧ x.f1 ≤ 9999 := hx
    rw [w64 (x := x.f1 - x.f0) (by omega) (by omega), w64 (x := x.f1 - x.f0 + 1) (by omega) (by omega), w64 (x := s + (x.f1 - x.f0 + 1)) (by omega) (by omega), w64 (by omega) (by omega)]
    have e2 : sizeL ((x :: l.drop (i + 1)).map pr) = (x.f1 - x.f0 + 1) + sizeL ((l.drop (i + 1)).map pr) := by simp [sizeL, pr]
    rw [e2]
    have := ih (i + 1) (s + (x.f1 - x.f0 + 1)) (by omega) (by omega) (by omega)
    rw [show s + (x.f1 - x.f0 + 1 + sizeL ((l.drop (i + 1)).map pr)) = s + (x.f1 - x.f0 + 1) + sizeL ((l.drop (i + 1)).map pr) by omega]
    exact this
theorem impl_SetSize_ev (l : List S45) (hl : l.length ≤ 1048576) : Ev (fun k => impl_SetSize.f k l) (if setOkB (l.map pr) = true then sizeL (l.map pr) else 0) := by
  unfold impl_SetSize.f
  refine Ev.bind (impl_SetOk_ev l hl) ?_
  refine Ev.ite (fun h => ?_) (fun h => ?_)
  · rw [if_pos h]
    have h' := h
    simp only [setOkB, Bool.and_eq_true, decide_eq_true_eq, List.length_map] at h'
    have := impl_SetSize_l0 l (by omega) (okL_mem h'.1) l.length 0 0 (by omega) (by omega) (by omega)
    rw [Int.zero_add] at this
    exact this
  · rw [if_neg h]; exact Ev.now _


theorem FnExactSetSize : ∀ (l0 : List S47), l0.length ≤ 9223372036854775807 → (∀ x ∈ l0, (Lit.int .i64 x.f0).wf = true ∧ (Lit.int .i64 x.f1).wf = true) → ∃ k, laws_FnExactSetSize.f k l0 = some true := by
  intro l hl hw
  apply Ev.rounds
  unfold laws_FnExactSetSize.f
  refine Ev.bindc (laws_szRangeS_ev l 1048576 hl (by omega) (by omega)) ?_
  by_cases hbig : (1048576 : Int) - (l.length : Int) < 0
  · rw [if_pos hbig]; exact Ev.yes (by omega) (Ev.now _)
  rw [if_neg hbig]
  have hl2 : l.length ≤ 1048576 := by omega
  have hm : (l.map to45).length ≤ 1048576 := by rw [List.length_map]; exact hl2
  have ht := laws_toRangeS_ev l hl2
  refine Ev.no hbig (Ev.bind ht (Ev.bind (spec_SetSize_ev _ hm) (Ev.bind ht (Ev.bind (impl_SetSize_ev _ hm) ?_))))
  refine Ev.yes rfl (Ev.bind ht (Ev.bind (laws_eqRangeS_ev _ hm) ?_))
  exact Ev.yes rfl (Ev.now _)

end Go.Proofs.Ythngecooaddddaa.Pure
