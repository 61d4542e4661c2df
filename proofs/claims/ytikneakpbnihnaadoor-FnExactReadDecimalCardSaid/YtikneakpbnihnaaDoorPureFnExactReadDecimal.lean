/- ReadDecimal returns what the reference returns, for every text. No condition. -/
import Derived.Test.YtikneakpbnihnaaDoorDec
import Derived.Test.YtikneakpbnihnaaDoorQFnExactReadDecimalx1
namespace Go.Proofs.YtikneakpbnihnaaDoor.Pure
open Go.RowKit Go.Proofs.YtikneakpbnihnaaDoor.PFnExactReadDecimal Go.Proofs.YtikneakpbnihnaaDoorW.PrintWords Go.Proofs.YtikneakpbnihnaaDoorW.PrintLast Go.Proofs.YtikneakpbnihnaaDoorW.PrintMore Go.Proofs.YtikneakpbnihnaaDoor.Gen
set_option linter.unusedVariables false

/-! decimal figures -/
theorem figure_ev (d : Int) (h0 : 0 ≤ d) (h1 : d < 10) : spec_l01Figure.f d = some (48 + d) := by
  unfold spec_l01Figure.f
  rw [if_pos h1, w64 (x := 48 + d) (by omega) (by omega)]
  congr 1; omega
theorem bs_fig (d : Nat) (h : d < 10) : bs (strOfNums [48 + (d : Int)]) = [48 + d] := by
  rw [bs_nums [48 + (d : Int)] (by simp; omega)]
  simp; omega
theorem spec_Decimal_l0 (neg : Bool) : ∀ (m u : Nat) (x : Int) (acc : ByteArray), u ≤ m → ((neg = true ∧ x = -(u : Int)) ∨ (neg = false ∧ x = (u : Int))) → u ≤ 9223372036854775808 → (u = 0 → acc.size ≤ 4611686018427387905) → (0 < u → acc.size + u / 2 ≤ 4611686018427387904) →
    ∃ r, Ev (fun k => spec_Decimal.l0 k x neg acc) r ∧ bs r = (if neg = true then [45] else []) ++ (digs u ++ bs acc) := by
  intro m
  induction m with
  | zero =>
    intro u x acc hu hx hb h0 _
    have hu0 : u = 0 := by omega
    subst hu0
    have hx0 : x = 0 := by omega
    subst hx0
    cases neg
    · exact ⟨acc, Ev.step (spec_Decimal.l0.eq_2 0 false acc) (Ev.yes rfl (Ev.no (by simp) (Ev.now _))), by rw [digs]; simp⟩
    · refine ⟨(⟨#[45]⟩ : ByteArray) ++ acc, Ev.step (spec_Decimal.l0.eq_2 0 true acc) (Ev.yes rfl (Ev.yes rfl (Ev.yes (by have := h0 rfl; omega) (Ev.now _)))), ?_⟩
      rw [bs_append, digs]; rfl
  | succ m ih =>
    intro u x acc hu hx hb h0 h1
    by_cases hz : u = 0
    · exact ih u x acc (by omega) hx hb h0 h1
    have hpos : 0 < u := by omega
    have h2 := h1 hpos
    clear h0 h1
    have hd : u % 10 < 10 := Nat.mod_lt _ (by omega)
    have tm : (neg = true ∧ Int.tmod x 10 = -((u % 10 : Nat) : Int)) ∨ (neg = false ∧ Int.tmod x 10 = ((u % 10 : Nat) : Int)) := by
      rcases hx with ⟨h, rfl⟩ | ⟨h, rfl⟩
      · exact .inl ⟨h, by rw [Int.neg_tmod, tm10]⟩
      · exact .inr ⟨h, tm10 u⟩
    have td : (neg = true ∧ Int.tdiv x 10 = -((u / 10 : Nat) : Int)) ∨ (neg = false ∧ Int.tdiv x 10 = ((u / 10 : Nat) : Int)) := by
      rcases hx with ⟨h, rfl⟩ | ⟨h, rfl⟩
      · exact .inl ⟨h, by rw [Int.neg_tdiv, td10]⟩
      · exact .inr ⟨h, td10 u⟩
    have hx0 : x ≠ 0 := by omega
    have hsz : (strOfNums [48 + ((u % 10 : Nat) : Int)]).size = 1 := by rw [size_nums]; rfl
    obtain ⟨r, hr, er⟩ := ih (u / 10) (Int.tdiv x 10) (strOfNums [48 + ((u % 10 : Nat) : Int)] ++ acc) (by omega) (by rcases td with h | h <;> simp [h]) (by omega)
      (fun h => by rw [size_append, hsz]; omega) (fun h => by rw [size_append, hsz]; omega)
    have er2 : bs r = (if neg = true then [45] else []) ++ (digs u ++ bs acc) := by
      rw [er, bs_append, bs_fig _ hd, digs.eq_def u, dif_neg hz, List.append_assoc]
    refine ⟨r, Ev.step (spec_Decimal.l0.eq_2 x neg acc) (Ev.no hx0 ?_), er2⟩
    have hq : -9223372036854775808 ≤ Int.tdiv x 10 ∧ Int.tdiv x 10 ≤ 9223372036854775807 := by omega
    rw [w64 (x := Int.tdiv x 10) hq.1 hq.2]
    have fin : Ev (fun k => ((some (([48 + ((u % 10 : Nat) : Int)] : List Int) : List Int)).bind fun y => (if (strOfNums y).size + acc.size ≤ 9223372036854775807 then (spec_Decimal.l0 k (Int.tdiv x 10) neg ((strOfNums y) ++ acc)) else (none)))) r :=
      Ev.bindc rfl (Ev.yes (by rw [hsz]; omega) hr)
    refine Ev.ite (fun h => ?_) (fun h => ?_)
    · have e1 : -(Int.tmod x 10) = ((u % 10 : Nat) : Int) := by omega
      rw [e1, w64 (by omega) (by omega)]
      exact Ev.bindc (figure_ev _ (by omega) (by omega)) fin
    · have e1 : Int.tmod x 10 = ((u % 10 : Nat) : Int) := by omega
      rw [e1]
      exact Ev.bindc (figure_ev _ (by omega) (by omega)) fin
/-- the numeral of an int -/
theorem spec_Decimal_ev (a : Int) (h1 : -9223372036854775808 ≤ a) (h2 : a ≤ 9223372036854775807) : Ev (fun k => spec_Decimal.f k a) ⟨(Lib.itoa a).toArray⟩ := by
  unfold spec_Decimal.f
  by_cases h0 : a = 0
  · subst h0
    exact Ev.yes rfl (Ev.const (by congr 1; apply bs_inj; rw [bs_itoa]; rfl))
  · refine Ev.no h0 ?_
    obtain ⟨r, hr, er⟩ := spec_Decimal_l0 (decide (a < 0)) a.natAbs a.natAbs a (⟨#[]⟩ : ByteArray) (Nat.le_refl _) (by
      by_cases h : a < 0
      · exact .inl ⟨decide_eq_true h, by omega⟩
      · exact .inr ⟨decide_eq_false h, by omega⟩) (by omega) (fun _ => by show 0 ≤ _; omega) (fun _ => by show 0 + _ ≤ _; omega)
    have : r = ⟨(Lib.itoa a).toArray⟩ := by
      apply bs_inj
      rw [er, bs_itoa]
      by_cases h : a < 0
      · rw [if_pos (decide_eq_true h)]; unfold numeral figs; rw [if_pos h, if_neg (by omega)]; simp [bs_empty]
      · rw [if_neg (by simp [h])]; unfold numeral figs; rw [if_neg h, if_neg (by omega), show a.toNat = a.natAbs by omega]; simp [bs_empty]
    rw [← this]; exact hr

/-! decimal numerals read -/
theorem num_some {l : List UInt8} {v : Int} (h0 : 0 ≤ v) (h1 : v ≤ 1000000000) (h : Lib.itoa v = l) : impl_ReadDecimal.num l = some v := by
  subst h
  unfold impl_ReadDecimal.num
  rw [atoi_itoa v h0 h1]
  simp only
  rw [if_pos ⟨h0, h1, trivial⟩]
theorem num_none {l : List UInt8} (h : ∀ v : Int, 0 ≤ v → v ≤ 1000000000 → Lib.itoa v ≠ l) : impl_ReadDecimal.num l = none := by
  unfold impl_ReadDecimal.num
  split
  · rw [if_neg (fun e => h _ e.1 e.2.1 e.2.2)]
  · rfl
def res : Option Int → Int × Bool
  | some v => (v, true)
  | none => (0, false)
theorem impl_ReadDecimal_eq (a : ByteArray) (h : a.size ≤ 281474976710656) : impl_ReadDecimal.f a = some (res (impl_ReadDecimal.num a.data.toList)) := by
  unfold impl_ReadDecimal.f
  rw [if_pos h]
  cases impl_ReadDecimal.num a.data.toList <;> rfl
def fin (a : ByteArray) : Option Nat → Int × Bool
  | none => (0, false)
  | some n => if n > 1000000000 then (0, false) else if Lib.itoa n = a.data.toList then ((n : Int), true) else (0, false)
theorem spec_ReadDecimal_l0 (a : ByteArray) : ∀ (m i n : Nat), m + i = a.size → a.size ≤ 10 → n < 10 ^ i → Ev (fun k => spec_ReadDecimal.l0 k a (n : Int) (i : Int)) (fin a (decVal n ((bs a).drop i))) := by
  intro m
  induction m with
  | zero =>
    intro i n hm hs hn
    have hp : 10 ^ i ≤ 10 ^ 10 := Nat.pow_le_pow_right (by omega) (by omega)
    have h10 : (10 : Nat) ^ 10 = 10000000000 := by decide
    refine Ev.step (spec_ReadDecimal.l0.eq_2 a n i) (Ev.no (by omega) ?_)
    rw [List.drop_of_length_le (by rw [bs_length]; omega)]
    show Ev _ (fin a (some n))
    unfold fin
    simp only
    by_cases h : (n : Int) > 1000000000
    · rw [if_pos (by omega)]; exact Ev.yes h (Ev.now _)
    · rw [if_neg (by omega)]
      refine Ev.no h (Ev.bind (spec_Decimal_ev n (by omega) (by omega)) ?_)
      by_cases h2 : Lib.itoa n = a.data.toList
      · rw [if_pos h2]; exact Ev.yes (by rw [toList_iff, h2]) (Ev.now _)
      · rw [if_neg h2]; exact Ev.no (fun e => h2 (by rw [toList_iff] at e; rw [← e])) (Ev.now _)
  | succ m ih =>
    intro i n hm hs hn
    have hp : 10 ^ i ≤ 10 ^ 10 := Nat.pow_le_pow_right (by omega) (by omega)
    have h10 : (10 : Nat) ^ 10 = 10000000000 := by decide
    have hi : i < (bs a).length := by rw [bs_length]; omega
    have hc := bs_lt a _ (List.getElem_mem hi)
    refine Ev.step (spec_ReadDecimal.l0.eq_2 a n i) (Ev.yes (by omega) (Ev.yes (by omega) ?_))
    rw [List.drop_eq_getElem_cons hi, decVal, bt_eq hi]
    generalize (bs a)[i] = c at hc
    refine Ev.ite (fun h => ?_) (fun h => Ev.ite (fun h2 => ?_) (fun h2 => ?_))
    · rw [if_neg (by omega)]; exact Ev.now _
    · rw [if_neg (by omega)]; exact Ev.now _
    · rw [if_pos (by omega)]
      have e1 : wrap64 ((wrap64 ((wrap64 (10 * (n : Int))) + (wrap64 (c : Int)))) - 48) = ((10 * n + (c - 48) : Nat) : Int) := by
        rw [w64 (x := 10 * (n : Int)) (by omega) (by omega), w64 (x := (c : Int)) (by omega) (by omega), w64 (x := 10 * (n : Int) + c) (by omega) (by omega), w64 (by omega) (by omega)]
        omega
      have e2 : wrap64 ((i : Int) + 1) = ((i + 1 : Nat) : Int) := by rw [w64 (by omega) (by omega)]; rfl
      rw [e1, e2]
      exact ih (i + 1) _ (by omega) hs (by rw [Nat.pow_succ]; omega)
theorem fin_res (a : ByteArray) : fin a (decVal 0 (bs a)) = res (impl_ReadDecimal.num a.data.toList) := by
  have key : ∀ v : Int, 0 ≤ v → Lib.itoa v = a.data.toList → decVal 0 (bs a) = some v.toNat := fun v h0 h => by
    unfold bs; rw [← h, itoa_figs v h0]; exact decVal_figs _
  cases hv : decVal 0 (bs a) with
  | none => rw [num_none fun v h0 h1 h => by rw [key v h0 h] at hv; cases hv]; rfl
  | some n =>
    unfold fin
    simp only
    split
    · rw [num_none fun v h0 h1 h => by rw [key v h0 h] at hv; cases hv; omega]; rfl
    · split
      · rename_i h1 h2
        rw [num_some (by omega) (by omega) h2]; rfl
      · rename_i h1 h2
        rw [num_none fun v h0 h1 h => by
          rw [key v h0 h] at hv
          cases hv
          exact h2 (by rw [show ((v.toNat : Nat) : Int) = v by omega]; exact h)]
        rfl
theorem spec_ReadDecimal_ev (a : ByteArray) : Ev (fun k => spec_ReadDecimal.f k a) (res (impl_ReadDecimal.num a.data.toList)) := by
  unfold spec_ReadDecimal.f
  refine Ev.ite (fun h => ?_) (fun h => ?_)
  · rw [num_none fun v h0 h1 e => by
      have hl := figs_len 10 v.toNat (by omega) (by omega)
      rw [← itoa_figs v h0, e] at hl
      have : (a.data.toList.map UInt8.toNat).length = a.size := bs_length a
      omega]
    exact Ev.now _
  · have := spec_ReadDecimal_l0 a a.size 0 0 (by omega) (by omega) (by omega)
    rw [List.drop_zero, fin_res] at this
    exact this

theorem FnExactReadDecimal : laws_FnExactReadDecimal.Pure := by
  intro a ha
  apply Ev.rounds
  unfold laws_FnExactReadDecimal.f
  refine Ev.ite (fun _ => Ev.now _) (fun h => ?_)
  refine Ev.bind (spec_ReadDecimal_ev a) (Ev.bindc (impl_ReadDecimal_eq a (by omega)) ?_)
  exact Ev.yes rfl (Ev.no (by simp) (Ev.now _))
end Go.Proofs.YtikneakpbnihnaaDoor.Pure
