/- BodyOf returns what the reference returns, for every text. No condition. -/
import Derived.Test.YtpeifbiboghceaaGen
import Derived.Lib.IndexMore
import Derived.Test.YtpeifbiboghceaaQFnExactBodyOfx1
namespace Go.Proofs.Ytpeifbiboghceaa.Pure
open Go.RowKit Go.Proofs.Ytpeifbiboghceaa.PFnExactBodyOf Go.Proofs.YtpeifbiboghceaaW.PrintWords Go.Proofs.YtpeifbiboghceaaW.PrintLast Go.Proofs.YtpeifbiboghceaaW.PrintMore Go.Proofs.Ytpeifbiboghceaa.Gen
set_option linter.unusedVariables false

/-- what stands behind the first empty line's end -/
def body : List Nat → List Nat
  | [] => []
  | [_] => []
  | x :: y :: l => if x = 10 ∧ y = 10 then l else body (y :: l)
/-- the same from the beginning of a line on -/
def resL : List Nat → List Nat
  | [] => []
  | x :: l => if x = 10 then l else body (x :: l)
theorem body_ten (r : List Nat) : body (10 :: r) = resL r := by
  cases r with
  | nil => rfl
  | cons y r =>
    simp only [body, resL]
    by_cases h : y = 10
    · rw [if_pos ⟨trivial, h⟩, if_pos h]
    · rw [if_neg (fun h2 => h h2.2), if_neg h]
theorem body_pre (r : List Nat) : ∀ p : List Nat, 10 ∉ p → body (p ++ 10 :: r) = resL r
  | [], _ => body_ten r
  | x :: p, h => by
    simp only [List.mem_cons, not_or] at h
    have ih := body_pre r p h.2
    rw [List.cons_append]
    cases hp : p ++ 10 :: r with
    | nil => simp at hp
    | cons y l =>
      rw [hp] at ih
      simp only [body]
      rw [if_neg (fun h2 => h.1 h2.1.symm)]
      exact ih
theorem body_none : ∀ p : List Nat, 10 ∉ p → body p = []
  | [], _ => rfl
  | [_], _ => rfl
  | x :: y :: p, h => by
    have h2 : 10 ∉ y :: p := fun hm => h (List.mem_cons_of_mem _ hm)
    simp only [List.mem_cons, not_or] at h
    simp only [body]
    rw [if_neg (fun h3 => h.1 h3.1.symm)]
    exact body_none (y :: p) h2
theorem cut_body : ∀ s : List UInt8, ((Lib.cut s [10, 10]).2.1).map UInt8.toNat = body (s.map UInt8.toNat)
  | [] => rfl
  | [x] => by
    have e : Lib.index [x] [10, 10] = -1 := by simp [Lib.index, List.isPrefixOf]
    unfold Lib.cut
    rw [e]; rfl
  | x :: y :: l => by
    have ih := cut_body (y :: l)
    simp only [List.map_cons, body]
    by_cases h : x = 10 ∧ y = 10
    · obtain ⟨rfl, rfl⟩ := h
      have e : Lib.index (10 :: 10 :: l) [10, 10] = 0 := by simp [Lib.index, List.isPrefixOf]
      unfold Lib.cut
      rw [e, if_pos (by omega), if_pos (by decide)]
      rfl
    · have hp : List.isPrefixOf [10, 10] (x :: y :: l) = false := by
        simp only [List.isPrefixOf, Bool.and_true, Bool.and_eq_false_iff, beq_eq_false_iff_ne]
        by_cases h1 : x = 10
        · exact .inr (fun h2 => h ⟨h1, h2.symm⟩)
        · exact .inl (fun h2 => h1 h2.symm)
      have e : Lib.index (x :: y :: l) [10, 10] = if Lib.index (y :: l) [10, 10] == -1 then -1 else Lib.index (y :: l) [10, 10] + 1 := by
        rw [Lib.index, hp]; simp
      have hn : ¬ (x.toNat = 10 ∧ y.toNat = 10) := fun h2 => h ⟨UInt8.toNat_inj.1 h2.1, UInt8.toNat_inj.1 h2.2⟩
      rw [if_neg hn]
      simp only [List.map_cons] at ih
      rw [← ih]
      have hge := Lib.index_ge (y :: l) [10, 10]
      unfold Lib.cut
      rw [e]
      by_cases h1 : Lib.index (y :: l) [10, 10] = -1
      · rw [h1]; rfl
      · have h2 : ¬ ((Lib.index (y :: l) [10, 10] == -1) = true) := by simpa using h1
        rw [if_neg h2, if_pos (by omega), if_pos (by omega)]
        show List.map _ (List.drop _ (x :: y :: l)) = List.map _ (List.drop _ (y :: l))
        have e3 : (Lib.index (y :: l) [10, 10] + 1).toNat + [(10 : UInt8), 10].length = ((Lib.index (y :: l) [10, 10]).toNat + [(10 : UInt8), 10].length) + 1 := by
          simp only [List.length_cons, List.length_nil]; omega
        rw [e3, List.drop_succ_cons]
theorem line_l0 (x : ByteArray) (hx : x.size ≤ 1048576) (at' : Nat) : ∀ (d i : Nat), i + d = x.size → at' ≤ i →
    (∃ (j : Nat) (h : j < (bs x).length), i ≤ j ∧ (bs x)[j] = 10 ∧ (∀ (q : Nat) (h : q < (bs x).length), i ≤ q → q < j → (bs x)[q] ≠ 10) ∧ Ev (fun k => spec_l07Line.l0 k x (at' : Int) (i : Int)) (x.extract at' j, (j : Int) + 1))
    ∨ ((∀ (q : Nat) (h : q < (bs x).length), i ≤ q → (bs x)[q] ≠ 10) ∧ Ev (fun k => spec_l07Line.l0 k x (at' : Int) (i : Int)) (x.extract at' x.size, (x.size : Int))) := by
  intro d
  induction d with
  | zero =>
    intro i hi ha
    refine .inr ⟨fun q h hq => ?_, ?_⟩
    · rw [bs_length] at h; omega
    · refine Ev.step (spec_l07Line.l0.eq_2 x (at' : Int) (i : Int)) (Ev.no (by omega) (Ev.yes (by omega) (Ev.yes (by omega) (Ev.const ?_))))
      rw [Int.toNat_natCast]
  | succ d ih =>
    intro i hi ha
    have hlt : i < (bs x).length := by rw [bs_length]; omega
    have eb := bt_eq hlt
    by_cases h : (bs x)[i] = 10
    · refine .inl ⟨i, hlt, Nat.le_refl _, h, fun q _ h1 h2 => by omega, ?_⟩
      refine Ev.step (spec_l07Line.l0.eq_2 x (at' : Int) (i : Int)) (Ev.yes (by omega) (Ev.yes (by omega) (Ev.yes (by rw [eb, h]; rfl) (Ev.yes (by omega) (Ev.yes (by omega) (Ev.yes (by omega) (Ev.const ?_)))))))
      rw [Int.toNat_natCast, Int.toNat_natCast, w64 (by omega) (by omega)]
    · have w4 : wrap64 ((i : Int) + 1) = ((i + 1 : Nat) : Int) := by rw [w64 (by omega) (by omega)]; omega
      have hstep : ∀ R, Ev (fun k => spec_l07Line.l0 k x (at' : Int) ((i + 1 : Nat) : Int)) R → Ev (fun k => spec_l07Line.l0 k x (at' : Int) (i : Int)) R := by
        intro R hR
        refine Ev.step (spec_l07Line.l0.eq_2 x (at' : Int) (i : Int)) (Ev.yes (by omega) (Ev.yes (by omega) (Ev.no (by rw [eb]; omega) ?_)))
        rw [w4]; exact hR
      rcases ih (i + 1) (by omega) (by omega) with ⟨j, hj, h1, h2, h3, h4⟩ | ⟨h1, h2⟩
      · refine .inl ⟨j, hj, by omega, h2, fun q hq h5 h6 => ?_, hstep _ h4⟩
        by_cases e : q = i
        · subst e; exact h
        · exact h3 q hq (by omega) h6
      · refine .inr ⟨fun q hq h5 => ?_, hstep _ h2⟩
        by_cases e : q = i
        · subst e; exact h
        · exact h1 q hq (by omega)
theorem spec_BodyOf_l0 (x : ByteArray) (hx : x.size ≤ 1048576) : ∀ (d at' : Nat), x.size - at' ≤ d → at' ≤ x.size → ∃ r : ByteArray, Ev (fun k => spec_BodyOf.l0 k x (at' : Int)) r ∧ bs r = resL ((bs x).drop at') := by
  intro d
  induction d with
  | zero =>
    intro at' hd ha
    have e : spec_l07Line.f 0 x (at' : Int) = some ((⟨#[]⟩ : ByteArray), -1) := by unfold spec_l07Line.f; rw [if_pos (by omega)]
    refine ⟨⟨#[]⟩, Ev.step (spec_BodyOf.l0.eq_2 x (at' : Int)) (Ev.bind (a := ((⟨#[]⟩ : ByteArray), (-1 : Int))) ?_ (Ev.yes (by decide) (Ev.now _))), ?_⟩
    · unfold spec_l07Line.f
      exact Ev.yes (by omega) (Ev.now _)
    · rw [List.drop_eq_nil_of_le (by rw [bs_length]; omega)]; rfl
  | succ d ih =>
    intro at' hd ha
    by_cases hz : at' = x.size
    · exact ih at' (by omega) ha
    have hl : (bs x).length = x.size := bs_length x
    rcases line_l0 x hx at' (x.size - at') at' (by omega) (Nat.le_refl _) with ⟨j, hj, h1, h2, h3, h4⟩ | ⟨h1, h2⟩
    · have hline : Ev (fun k => spec_l07Line.f k x (at' : Int)) (x.extract at' j, (j : Int) + 1) := by
        unfold spec_l07Line.f; exact Ev.no (by omega) h4
      have hdrop : (bs x).drop at' = ((bs x).drop at').take (j - at') ++ 10 :: (bs x).drop (j + 1) := by
        have e1 := (List.take_append_drop (j - at') ((bs x).drop at')).symm
        rw [List.drop_drop, show at' + (j - at') = j by omega, List.drop_eq_getElem_cons hj, h2] at e1
        exact e1
      have hpre : 10 ∉ ((bs x).drop at').take (j - at') := by
        intro hm
        obtain ⟨q, hq, e⟩ := List.getElem_of_mem hm
        rw [List.length_take, List.length_drop] at hq
        rw [List.getElem_take, List.getElem_drop] at e
        exact h3 (at' + q) (by omega) (by omega) (by omega) e
      by_cases he : j = at'
      · subst he
        refine ⟨x.extract (j + 1) x.size, Ev.step (spec_BodyOf.l0.eq_2 x (j : Int)) (Ev.bind hline (Ev.no (by show ¬ ((j : Int) + 1 < 0); omega) (Ev.yes ?_ (Ev.yes (by show 0 ≤ (j : Int) + 1; omega) (Ev.yes (by show (j : Int) + 1 ≤ _; omega) (Ev.const ?_)))))), ?_⟩
        · show (x.extract j j).toList = []
          rw [show ([] : List UInt8) = (⟨#[]⟩ : ByteArray).toList from by rw [ByteArray.toList_eq], toList_iff]
          apply bs_inj
          rw [bs_extract, Nat.sub_self, List.take_zero]; rfl
        · show some (x.extract ((j : Int) + 1).toNat x.size) = _
          rw [show ((j : Int) + 1).toNat = j + 1 by omega]
        · rw [bs_extract, hdrop, Nat.sub_self, List.take_zero, List.nil_append, resL, if_pos rfl]
          rw [List.take_of_length_le (by rw [List.length_drop]; omega)]
      · obtain ⟨r, hr, er⟩ := ih (j + 1) (by omega) (by omega)
        refine ⟨r, Ev.step (spec_BodyOf.l0.eq_2 x (at' : Int)) (Ev.bind hline (Ev.no (by show ¬ ((j : Int) + 1 < 0); omega) (Ev.no ?_ ?_))), ?_⟩
        · show ¬ (x.extract at' j).toList = []
          rw [show ([] : List UInt8) = (⟨#[]⟩ : ByteArray).toList from by rw [ByteArray.toList_eq], toList_iff]
          intro e
          have := size_extract x at' j (by omega)
          rw [e] at this
          have e0 : (⟨#[]⟩ : ByteArray).size = 0 := rfl
          omega
        · have e : ((j : Int) + 1) = ((j + 1 : Nat) : Int) := by omega
          show Ev (fun k => spec_BodyOf.l0 k x ((j : Int) + 1)) r
          rw [e]; exact hr
        · rw [er, hdrop]
          generalize hp : ((bs x).drop at').take (j - at') = p at hpre
          have hne : p ≠ [] := by
            rintro rfl
            have := congrArg List.length hp
            rw [List.length_take, List.length_drop, List.length_nil] at this
            omega
          cases p with
          | nil => exact absurd rfl hne
          | cons y p =>
            rw [List.cons_append, resL, if_neg (fun h => hpre (by simp [h])), ← List.cons_append, body_pre _ _ hpre]
    · have hline : Ev (fun k => spec_l07Line.f k x (at' : Int)) (x.extract at' x.size, (x.size : Int)) := by
        unfold spec_l07Line.f; exact Ev.no (by omega) h2
      obtain ⟨r, hr, er⟩ := ih x.size (by omega) (Nat.le_refl _)
      refine ⟨r, Ev.step (spec_BodyOf.l0.eq_2 x (at' : Int)) (Ev.bind hline (Ev.no (by show ¬ ((x.size : Int) < 0); omega) (Ev.no ?_ hr))), ?_⟩
      · show ¬ (x.extract at' x.size).toList = []
        rw [show ([] : List UInt8) = (⟨#[]⟩ : ByteArray).toList from by rw [ByteArray.toList_eq], toList_iff]
        intro e
        have := size_extract x at' x.size (by omega)
        rw [e] at this
        have e0 : (⟨#[]⟩ : ByteArray).size = 0 := rfl
        omega
      · rw [er, List.drop_eq_nil_of_le (by omega)]
        have hno : 10 ∉ (bs x).drop at' := by
          intro hm
          obtain ⟨q, hq, e⟩ := List.getElem_of_mem hm
          rw [List.length_drop] at hq
          rw [List.getElem_drop] at e
          exact h1 (at' + q) (by omega) (by omega) e
        generalize (bs x).drop at' = L at hno ⊢
        cases L with
        | nil => rfl
        | cons y L =>
          have e5 : resL (y :: L) = if y = 10 then L else body (y :: L) := rfl
          rw [e5, if_neg (fun h => hno (by rw [h]; exact List.mem_cons_self)), body_none _ hno]; rfl
theorem cutprefix_nl (a : ByteArray) : ∃ r b, strings_CutPrefix.f a (⟨#[10]⟩ : ByteArray) = some (r, b) ∧ ((b = true ∧ ∃ l, bs a = 10 :: l ∧ bs r = l) ∨ (b = false ∧ ∀ l, bs a ≠ 10 :: l)) := by
  have e1 : (⟨#[10]⟩ : ByteArray).size = 1 := rfl
  unfold strings_CutPrefix.f stringslite_CutPrefix.f stringslite_HasPrefix.f
  rw [e1]
  by_cases h : 1 ≤ a.size
  · rw [if_pos (by omega), if_pos (by omega), if_pos (by omega)]
    simp only [Option.bind_some]
    rw [show ((1 : Nat) : Int).toNat = 1 from rfl]
    by_cases h2 : a.extract 0 1 = ⟨#[10]⟩
    · have hb : ((a.extract 0 1).toList == (⟨#[10]⟩ : ByteArray).toList) = true := by rw [beq_iff_eq, toList_iff]; exact h2
      rw [if_pos hb, if_pos (by omega), if_pos (by omega)]
      refine ⟨_, _, rfl, .inl ⟨rfl, bs (a.extract 1 a.size), ?_, rfl⟩⟩
      have h3 := extract_join a 1 h
      rw [h2] at h3
      rw [← h3, bs_append]
      rw [h3]
      rfl
    · have hb : ¬ ((a.extract 0 1).toList == (⟨#[10]⟩ : ByteArray).toList) = true := by rw [beq_iff_eq, toList_iff]; exact h2
      rw [if_neg hb]
      refine ⟨_, _, rfl, .inr ⟨rfl, fun l hl => h2 ?_⟩⟩
      apply bs_inj
      rw [bs_extract, hl]; rfl
  · rw [if_neg (by omega)]
    refine ⟨_, _, rfl, .inr ⟨rfl, fun l hl => ?_⟩⟩
    have := congrArg List.length hl
    rw [bs_length, List.length_cons] at this
    omega
theorem impl_BodyOf_ev (a : ByteArray) (ha : a.size ≤ 1048576) : ∃ r, impl_BodyOf.f a = some r ∧ bs r = resL (bs a) := by
  unfold impl_BodyOf.f
  obtain ⟨r, b, e, h⟩ := cutprefix_nl a
  rw [e]
  simp only [Option.bind_some]
  rcases h with ⟨rfl, l, h1, h2⟩ | ⟨rfl, h1⟩
  · rw [if_pos rfl]
    exact ⟨_, rfl, by rw [h1, h2]; rfl⟩
  · rw [if_neg (by simp)]
    unfold strings_Cut.f
    rw [if_pos (by omega)]
    refine ⟨_, rfl, ?_⟩
    show (((Lib.cut a.data.toList [10, 10]).2.1).toArray.toList).map UInt8.toNat = _
    rw [cut_body]
    show body (bs a) = _
    cases hb : bs a with
    | nil => rfl
    | cons y l => rw [resL, if_neg (fun h => h1 l (by rw [hb, h]))]

theorem FnExactBodyOf : laws_FnExactBodyOf.Pure := by
  intro a _
  apply Ev.rounds
  unfold laws_FnExactBodyOf.f
  refine Ev.ite (fun _ => Ev.now _) (fun h => ?_)
  obtain ⟨r, e, h1⟩ := impl_BodyOf_ev a (by omega)
  obtain ⟨s, e2, h2⟩ := spec_BodyOf_l0 a (by omega) a.size 0 (by omega) (by omega)
  rw [List.drop_zero] at h2
  have : r = s := bs_inj (h1.trans h2.symm)
  subst this
  exact Ev.bind (show Ev (fun k => spec_BodyOf.f k a) r from e2) (Ev.bindc e (Ev.yes rfl (Ev.now _)))
end Go.Proofs.Ytpeifbiboghceaa.Pure
