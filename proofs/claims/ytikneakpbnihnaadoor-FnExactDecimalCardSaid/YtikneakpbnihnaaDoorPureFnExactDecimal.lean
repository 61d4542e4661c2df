/- Decimal returns what the reference returns, for every int. No condition. -/
import Derived.Test.YtikneakpbnihnaaDoorDec
import Derived.Test.YtikneakpbnihnaaDoorQFnExactDecimalx1
namespace Go.Proofs.YtikneakpbnihnaaDoor.Pure
open Go.RowKit Go.Proofs.YtikneakpbnihnaaDoor.PFnExactDecimal Go.Proofs.YtikneakpbnihnaaDoorW.PrintWords Go.Proofs.YtikneakpbnihnaaDoorW.PrintLast Go.Proofs.YtikneakpbnihnaaDoorW.PrintMore Go.Proofs.YtikneakpbnihnaaDoor.Gen
set_option linter.unusedVariables false

/-! decimal figures -/
theorem figure_ev (d : Int) (h0 : 0 ≤ d) (h1 : d < 10) : spec_l01Figure.f d = some (48 + d) := by
  unfold spec_l01Figure.f
  rw [if_pos h1, w64 (x := 48 + d) (by omega) (by omega)]
  congr 1; omega
theorem bs_fig (d : Nat) (h : d < 10) : bs (strOfNums [48 + (d : Int)]) = [48 + d] := by
  rw [bs_nums [48 + (d : Int)] (by simp; omega)]
  simp; omega
theorem spec_Decimal_l0 (neg : Bool) : ∀ (m u : Nat) (x : Int) (acc : ByteArray), u ≤ m → ((neg = true ∧ x = -(u : Int)) ∨ (neg = false ∧ x = (u : Int))) → u ≤ 9223372036854775808 → (u = 0 → acc.size ≤ 4611686018427387905) → (0 < u → acc.size + u / 2 ≤ 4611686018427387904) →
    ∃ r, Ev (fun k => spec_Decimal.l0 k x neg acc) r ∧ bs r = (if neg = true then [45] else []) ++ (digs u ++ bs acc) := by
  intro m
  induction m with
  | zero =>
    intro u x acc hu hx hb h0 _
    have hu0 : u = 0 := by omega
    subst hu0
    have hx0 : x = 0 := by omega
    subst hx0
    cases neg
    · exact ⟨acc, Ev.step (spec_Decimal.l0.eq_2 0 false acc) (Ev.yes rfl (Ev.no (by simp) (Ev.now _))), by rw [digs]; simp⟩
    · refine ⟨(⟨#[45]⟩ : ByteArray) ++ acc, Ev.step (spec_Decimal.l0.eq_2 0 true acc) (Ev.yes rfl (Ev.yes rfl (Ev.yes (by have := h0 rfl; omega) (Ev.now _)))), ?_⟩
      rw [bs_append, digs]; rfl
  | succ m ih =>
    intro u x acc hu hx hb h0 h1
    by_cases hz : u = 0
    · exact ih u x acc (by omega) hx hb h0 h1
    have hpos : 0 < u := by omega
    have h2 := h1 hpos
    clear h0 h1
    have hd : u % 10 < 10 := Nat.mod_lt _ (by omega)
    have tm : (neg = true ∧ Int.tmod x 10 = -((u % 10 : Nat) : Int)) ∨ (neg = false ∧ Int.tmod x 10 = ((u % 10 : Nat) : Int)) := by
      rcases hx with ⟨h, rfl⟩ | ⟨h, rfl⟩
      · exact .inl ⟨h, by rw [Int.neg_tmod, tm10]⟩
      · exact .inr ⟨h, tm10 u⟩
    have td : (neg = true ∧ Int.tdiv x 10 = -((u / 10 : Nat) : Int)) ∨ (neg = false ∧ Int.tdiv x 10 = ((u / 10 : Nat) : Int)) := by
      rcases hx with ⟨h, rfl⟩ | ⟨h, rfl⟩
      · exact .inl ⟨h, by rw [Int.neg_tdiv, td10]⟩
      · exact .inr ⟨h, td10 u⟩
    have hx0 : x ≠ 0 := by omega
    have hsz : (strOfNums [48 + ((u % 10 : Nat) : Int)]).size = 1 := by rw [size_nums]; rfl
    obtain ⟨r, hr, er⟩ := ih (u / 10) (Int.tdiv x 10) (strOfNums [48 + ((u % 10 : Nat) : Int)] ++ acc) (by omega) (by rcases td with h | h <;> simp [h]) (by omega)
      (fun h => by rw [size_append, hsz]; omega) (fun h => by rw [size_append, hsz]; omega)
    have er2 : bs r = (if neg = true then [45] else []) ++ (digs u ++ bs acc) := by
      rw [er, bs_append, bs_fig _ hd, digs.eq_def u, dif_neg hz, List.append_assoc]
    refine ⟨r, Ev.step (spec_Decimal.l0.eq_2 x neg acc) (Ev.no hx0 ?_), er2⟩
    have hq : -9223372036854775808 ≤ Int.tdiv x 10 ∧ Int.tdiv x 10 ≤ 9223372036854775807 := by omega
    rw [w64 (x := Int.tdiv x 10) hq.1 hq.2]
    have fin : Ev (fun k => ((some (([48 + ((u % 10 : Nat) : Int)] : List Int) : List Int)).bind fun y => (if (strOfNums y).size + acc.size ≤ 9223372036854775807 then (spec_Decimal.l0 k (Int.tdiv x 10) neg ((strOfNums y) ++ acc)) else (none)))) r :=
      Ev.bindc rfl (Ev.yes (by rw [hsz]; omega) hr)
    refine Ev.ite (fun h => ?_) (fun h => ?_)
    · have e1 : -(Int.tmod x 10) = ((u % 10 : Nat) : Int) := by omega
      rw [e1, w64 (by omega) (by omega)]
      exact Ev.bindc (figure_ev _ (by omega) (by omega)) fin
    · have e1 : Int.tmod x 10 = ((u % 10 : Nat) : Int) := by omega
      rw [e1]
      exact Ev.bindc (figure_ev _ (by omega) (by omega)) fin
/-- the numeral of an int -/
theorem spec_Decimal_ev (a : Int) (h1 : -9223372036854775808 ≤ a) (h2 : a ≤ 9223372036854775807) : Ev (fun k => spec_Decimal.f k a) ⟨(Lib.itoa a).toArray⟩ := by
  unfold spec_Decimal.f
  by_cases h0 : a = 0
  · subst h0
    exact Ev.yes rfl (Ev.const (by congr 1; apply bs_inj; rw [bs_itoa]; rfl))
  · refine Ev.no h0 ?_
    obtain ⟨r, hr, er⟩ := spec_Decimal_l0 (decide (a < 0)) a.natAbs a.natAbs a (⟨#[]⟩ : ByteArray) (Nat.le_refl _) (by
      by_cases h : a < 0
      · exact .inl ⟨decide_eq_true h, by omega⟩
      · exact .inr ⟨decide_eq_false h, by omega⟩) (by omega) (fun _ => by show 0 ≤ _; omega) (fun _ => by show 0 + _ ≤ _; omega)
    have : r = ⟨(Lib.itoa a).toArray⟩ := by
      apply bs_inj
      rw [er, bs_itoa]
      by_cases h : a < 0
      · rw [if_pos (decide_eq_true h)]; unfold numeral figs; rw [if_pos h, if_neg (by omega)]; simp [bs_empty]
      · rw [if_neg (by simp [h])]; unfold numeral figs; rw [if_neg h, if_neg (by omega), show a.toNat = a.natAbs by omega]; simp [bs_empty]
    rw [← this]; exact hr

theorem FnExactDecimal : laws_FnExactDecimal.Pure := by
  intro a hw
  have h := wf_i64 hw
  apply Ev.rounds
  unfold laws_FnExactDecimal.f
  have e : impl_Decimal.f a = some ⟨(Lib.itoa a).toArray⟩ := by
    unfold impl_Decimal.f strconv_Itoa.f
    rw [if_pos h]; rfl
  exact Ev.bind (spec_Decimal_ev a h.1 h.2) (Ev.bindc e (Ev.yes rfl (Ev.now _)))
end Go.Proofs.YtikneakpbnihnaaDoor.Pure
