/- SetHas returns what the reference returns, for every list of ranges and every int; its argument stays as it was. No condition. -/
import Derived.Test.YthngecooaddddaaSet
import Derived.Test.YthngecooaddddaaPFnExactSetHasx2
namespace Go.Proofs.Ythngecooaddddaa.Pure
open Go.RowKit Go.Proofs.Ythngecooaddddaa.PFnExactSetHas Go.Proofs.YthngecooaddddaaW.PrintWords Go.Proofs.YthngecooaddddaaW.PrintLast Go.Proofs.Ythngecooaddddaa.Gen
set_option linter.unusedVariables false

theorem impl_within_ev (a b c : Int) : impl_within.f a b c = some (decide (b ≤ a ∧ a ≤ c)) := by
  unfold impl_within.f
  by_cases h : a ≥ b
  · rw [if_pos h]; congr 1; simp; omega
  · rw [if_neg h]; congr 1; simp; omega

/-- a range as a pair -/
def pr (x : S45) : Int × Int := (x.f0, x.f1)
def to45 (x : S47) : S45 := ⟨x.f0, x.f1⟩
theorem rd45_at (l : List S45) (i : Nat) (h : i < l.length) : rd_T45 l (i : Int) = l[i] := by
  unfold rd_T45
  rw [Int.toNat_natCast, List.getD_eq_getElem?_getD, List.getElem?_eq_getElem h]; rfl
theorem rd47_at (l : List S47) (i : Nat) (h : i < l.length) : rd_T47 l (i : Int) = l[i] := by
  unfold rd_T47
  rw [Int.toNat_natCast, List.getD_eq_getElem?_getD, List.getElem?_eq_getElem h]; rfl
theorem laws_szRangeS_ev (l : List S47) (a : Int) (hl : l.length ≤ 9223372036854775807) (h0 : 0 ≤ a) (ha : a ≤ 1048576) : laws_szRangeS.f l a = some (if a - (l.length : Int) < 0 then -1 else a - (l.length : Int)) := by
  unfold laws_szRangeS.f
  rw [w64 (by omega) (by omega)]
  split <;> rfl
theorem laws_toRangeS_l0 (l : List S47) (hl : l.length ≤ 1048576) : ∀ (d i : Nat) (ys : List S45), i + d = l.length → ys.length = l.length → ys.take i = (l.take i).map to45 → Ev (fun k => laws_toRangeS.l0 k l ys (i : Int)) (l.map to45) := by
  intro d
  induction d with
  | zero =>
    intro i ys hi hy ht
    refine Ev.step (laws_toRangeS.l0.eq_2 l ys (i : Int)) (Ev.no (by omega) (Ev.const ?_))
    rw [List.take_of_length_le (by omega), List.take_of_length_le (by omega)] at ht
    rw [ht]
  | succ d ih =>
    intro i ys hi hy ht
    have hlt : i < l.length := by omega
    have hlt2 : i < ys.length := by omega
    have e := rd47_at l i hlt
    refine Ev.step (laws_toRangeS.l0.eq_2 l ys (i : Int)) (Ev.yes (by omega) (Ev.yes (by omega) (Ev.bindc rfl (Ev.yes (by omega) ?_))))
    rw [e, Int.toNat_natCast, w64 (by omega) (by omega)]
    refine ih (i + 1) _ (by omega) (by rw [List.length_set]; exact hy) ?_
    rw [take_set_next ys i _ hlt2, ht, List.take_succ_eq_append_getElem hlt, List.map_append]
    rfl
theorem laws_toRangeS_ev (l : List S47) (hl : l.length ≤ 1048576) : Ev (fun k => laws_toRangeS.f k l) (l.map to45) := by
  unfold laws_toRangeS.f
  refine Ev.yes (by omega) (Ev.yes (by omega) ?_)
  exact laws_toRangeS_l0 l hl l.length 0 _ (by omega) (by rw [List.length_replicate]; omega) (by simp)
theorem laws_eqRangeS_l0 (l : List S45) (hl : l.length ≤ 1048576) : ∀ (d i : Nat), i + d = l.length → Ev (fun k => laws_eqRangeS.l0 k l l (i : Int)) true := by
  intro d
  induction d with
  | zero =>
    intro i hi
    exact Ev.step (laws_eqRangeS.l0.eq_2 l l (i : Int)) (Ev.no (by omega) (Ev.now _))
  | succ d ih =>
    intro i hi
    have e : laws_eqRange.f ((rd_T45 l (i : Int)).f0) ((rd_T45 l (i : Int)).f1) ((rd_T45 l (i : Int)).f0) ((rd_T45 l (i : Int)).f1) = some true := by
      unfold laws_eqRange.f; rw [if_pos rfl, if_pos rfl]
    refine Ev.step (laws_eqRangeS.l0.eq_2 l l (i : Int)) (Ev.yes (by omega) (Ev.yes (by omega) (Ev.yes (by omega) (Ev.bindc e (Ev.yes rfl ?_)))))
    rw [w64 (by omega) (by omega)]
    exact ih (i + 1) (by omega)
theorem laws_eqRangeS_ev (l : List S45) (hl : l.length ≤ 1048576) : Ev (fun k => laws_eqRangeS.f k l l) true := by
  unfold laws_eqRangeS.f
  exact Ev.yes rfl (laws_eqRangeS_l0 l hl l.length 0 (by omega))

theorem spec_SetHas_l0 (l : List S45) (hl : l.length ≤ 1048576) (n : Int) : ∀ (d i : Nat), i + d = l.length → Ev (fun k => spec_SetHas.l0 k l n (i : Int)) (hasL ((l.drop i).map pr) n) := by
  intro d
  induction d with
  | zero =>
    intro i hi
    refine Ev.step (spec_SetHas.l0.eq_2 l n (i : Int)) (Ev.no (by omega) (Ev.const ?_))
    rw [List.drop_eq_nil_of_le (by omega)]; rfl
  | succ d ih =>
    intro i hi
    have hlt : i < l.length := by omega
    have e := rd45_at l i hlt
    refine Ev.step (spec_SetHas.l0.eq_2 l n (i : Int)) (Ev.yes (by omega) (Ev.yes (by omega) ?_))
    rw [w64 (by omega) (by omega), List.drop_eq_getElem_cons hlt, ← e]
    generalize rd_T45 l (i : Int) = x
    have e2 : hasL ((x :: l.drop (i + 1)).map pr) n = (decide (x.f0 ≤ n ∧ n ≤ x.f1) || hasL ((l.drop (i + 1)).map pr) n) := rfl
    rw [e2]
    have := ih (i + 1) (by omega)
    refine Ev.ite (fun h => ?_) (fun h => ?_)
    · refine Ev.ite (fun h2 => ?_) (fun h2 => ?_)
      · rw [decide_eq_true ⟨h, h2⟩]; exact Ev.now _
      · rw [decide_eq_false (by omega), Bool.false_or]; exact this
    · rw [decide_eq_false (by omega), Bool.false_or]; exact this
theorem spec_SetHas_ev (l : List S45) (hl : l.length ≤ 1048576) (n : Int) : Ev (fun k => spec_SetHas.f k l n) (hasL (l.map pr) n) := spec_SetHas_l0 l hl n l.length 0 (by omega)

theorem impl_SetHas_l0 (l : List S45) (hl : l.length ≤ 1048576) (n : Int) : ∀ (d i : Nat), i + d = l.length → Ev (fun k => impl_SetHas.l0 k n l (l.length : Int) (i : Int)) (hasL ((l.drop i).map pr) n) := by
  intro d
  induction d with
  | zero =>
    intro i hi
    refine Ev.step (impl_SetHas.l0.eq_2 n l (l.length : Int) (i : Int)) (Ev.no (by omega) (Ev.const ?_))
    rw [List.drop_eq_nil_of_le (by omega)]; rfl
  | succ d ih =>
    intro i hi
    have hlt : i < l.length := by omega
    have e := rd45_at l i hlt
    refine Ev.step (impl_SetHas.l0.eq_2 n l (l.length : Int) (i : Int)) (Ev.yes (by omega) (Ev.yes (by omega) (Ev.yes (by omega) (Ev.bindc (impl_within_ev _ _ _) ?_))))
    rw [w64 (by omega) (by omega), List.drop_eq_getElem_cons hlt, ← e]
    generalize rd_T45 l (i : Int) = x
    have e2 : hasL ((x :: l.drop (i + 1)).map pr) n = (decide (x.f0 ≤ n ∧ n ≤ x.f1) || hasL ((l.drop (i + 1)).map pr) n) := rfl
    rw [e2]
    have := ih (i + 1) (by omega)
    refine Ev.ite (fun h => ?_) (fun h => ?_)
    · rw [h]; exact Ev.now _
    · rw [Bool.not_eq_true] at h
      rw [h, Bool.false_or]; exact this
theorem impl_SetHas_ev (l : List S45) (hl : l.length ≤ 1048576) (n : Int) : Ev (fun k => impl_SetHas.f k l n) (hasL (l.map pr) n) := impl_SetHas_l0 l hl n l.length 0 (by omega)


theorem FnExactSetHas : ∀ (l0 : List S47) (a1 : Int), l0.length ≤ 9223372036854775807 → (∀ x ∈ l0, (Lit.int .i64 x.f0).wf = true ∧ (Lit.int .i64 x.f1).wf = true) → (Lit.int .i64 a1).wf = true → ∃ k, laws_FnExactSetHas.f k l0 a1 = some true := by
  intro l n hl hw _
  apply Ev.rounds
  unfold laws_FnExactSetHas.f
  refine Ev.bindc (laws_szRangeS_ev l 1048576 hl (by omega) (by omega)) ?_
  by_cases hbig : (1048576 : Int) - (l.length : Int) < 0
  · rw [if_pos hbig]; exact Ev.yes (by omega) (Ev.now _)
  rw [if_neg hbig]
  have hl2 : l.length ≤ 1048576 := by omega
  have hm : (l.map to45).length ≤ 1048576 := by rw [List.length_map]; exact hl2
  have ht := laws_toRangeS_ev l hl2
  refine Ev.no hbig (Ev.bind ht (Ev.bind (spec_SetHas_ev _ hm n) (Ev.bind ht (Ev.bind (impl_SetHas_ev _ hm n) ?_))))
  refine Ev.no (by simp) (Ev.bind ht (Ev.bind (laws_eqRangeS_ev _ hm) ?_))
  exact Ev.yes rfl (Ev.now _)

end Go.Proofs.Ythngecooaddddaa.Pure
