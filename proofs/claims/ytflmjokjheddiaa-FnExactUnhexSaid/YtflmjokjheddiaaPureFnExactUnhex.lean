/- Unhex returns what the reference returns, for every text. No condition. -/
import Derived.Test.YtflmjokjheddiaaHex
import Derived.Test.YtflmjokjheddiaaQFnExactUnhexx1
namespace Go.Proofs.Ytflmjokjheddiaa.Pure
open Go.RowKit Go.Proofs.Ytflmjokjheddiaa.PFnExactUnhex Go.Proofs.YtflmjokjheddiaaW.PrintWords Go.Proofs.YtflmjokjheddiaaW.PrintLast Go.Proofs.Ytflmjokjheddiaa.Gen
set_option linter.unusedVariables false

theorem spec_l01Value_fin : ∀ c : Fin 256, spec_l01Value.f 1 ((c.val : Nat) : Int) = some (unfig c.val) := by decide +kernel
theorem spec_l01Value_ev {c : Nat} (h : c < 256) : Ev (fun k => spec_l01Value.f k (c : Int)) (unfig c) := Ev.of (fun k => spec_l01Value.mono _ k) (spec_l01Value_fin ⟨c, h⟩)
theorem strings_IndexByte_ev {c : Nat} (h : c < 256) : strings_IndexByte.f (⟨#[48, 49, 50, 51, 52, 53, 54, 55, 56, 57, 97, 98, 99, 100, 101, 102]⟩ : ByteArray) (c : Int) = some (unfig c) := congrArg some (unfig_index h)
theorem spec_Unhex_l0 (s : ByteArray) (hs : s.size ≤ 140737488351232) (h2 : s.size % 2 = 0) : ∀ (d i : Nat) (xs : List Int), i + 2 * d = s.size → xs.length ≤ i →
    Ev (fun k => spec_Unhex.l0 k s xs (i : Int)) (match unhexN ((bs s).drop i) with | none => (⟨#[]⟩, false) | some ys => (strOfNums (xs ++ ys), true)) := by
  intro d
  induction d with
  | zero =>
    intro i xs hi hx
    refine Ev.step (spec_Unhex.l0.eq_2 s xs (i : Int)) ?_
    refine Ev.no (by omega) (Ev.const ?_)
    rw [List.drop_eq_nil_of_le (by rw [bs_length]; omega)]; simp [unhexN]
  | succ d ih =>
    intro i xs hi hx
    refine Ev.step (spec_Unhex.l0.eq_2 s xs (i : Int)) ?_
    refine Ev.yes (by omega) (Ev.yes (by omega) ?_)
    have hlt : i < (bs s).length := by rw [bs_length]; omega
    have hlt2 : i + 1 < (bs s).length := by rw [bs_length]; omega
    have ha := bs_lt s _ (List.getElem_mem hlt)
    have hb := bs_lt s _ (List.getElem_mem hlt2)
    have hd := List.drop_eq_getElem_cons hlt
    rw [List.drop_eq_getElem_cons hlt2] at hd
    have ea := bt_eq hlt
    have eb := bt_eq hlt2
    generalize (bs s)[i] = a at ha hd ea
    generalize (bs s)[i + 1] = b at hb hd eb
    have e1 : wrap64 ((i : Int) + 1) = ((i + 1 : Nat) : Int) := by rw [w64 (by omega) (by omega)]; omega
    have e2 : wrap64 ((i : Int) + 2) = ((i + 2 : Nat) : Int) := by rw [w64 (by omega) (by omega)]; omega
    rw [e1, e2, ea, eb, hd]
    have ra := unfig_range a
    have rb := unfig_range b
    refine Ev.bind (spec_l01Value_ev ha) (Ev.yes (by omega) (Ev.yes (by omega) (Ev.bind (spec_l01Value_ev hb) ?_)))
    simp only [unhexN]
    refine Ev.ite (fun h => ?_) (fun h => ?_)
    · rw [if_pos (Or.inl h)]; exact Ev.now _
    refine Ev.ite (fun h3 => ?_) (fun h3 => ?_)
    · rw [if_pos (Or.inr h3)]; exact Ev.now _
    rw [if_neg (by omega)]
    refine Ev.yes (by omega) ?_
    have e3 : wrap64 (wrap64 (16 * unfig a) + unfig b) % 256 = 16 * unfig a + unfig b := by rw [w64 (x := 16 * unfig a) (by omega) (by omega), w64 (by omega) (by omega)]; omega
    rw [e3]
    have := ih (i + 2) (xs ++ [16 * unfig a + unfig b]) (by omega) (by rw [List.length_append, List.length_singleton]; omega)
    cases hu : unhexN ((bs s).drop (i + 2)) with
    | none => rw [hu] at this; simp only [Option.map_none]; exact this
    | some ys => rw [hu] at this; simp only [Option.map_some]; simpa using this

theorem impl_Unhex_l0 (s : ByteArray) (hs : s.size ≤ 140737488351232) (h2 : s.size % 2 = 0) : ∀ (d i : Nat) (xs : List Int), i + 2 * d = s.size → xs.length ≤ i →
    Ev (fun k => impl_Unhex.l0 k s xs (i : Int)) (match unhexN ((bs s).drop i) with | none => (⟨#[]⟩, false) | some ys => (strOfNums (xs ++ ys), true)) := by
  intro d
  induction d with
  | zero =>
    intro i xs hi hx
    refine Ev.step (impl_Unhex.l0.eq_2 s xs (i : Int)) ?_
    refine Ev.no (by omega) (Ev.const ?_)
    rw [List.drop_eq_nil_of_le (by rw [bs_length]; omega)]; simp [unhexN]
  | succ d ih =>
    intro i xs hi hx
    refine Ev.step (impl_Unhex.l0.eq_2 s xs (i : Int)) ?_
    refine Ev.yes (by omega) (Ev.yes (by omega) ?_)
    have hlt : i < (bs s).length := by rw [bs_length]; omega
    have hlt2 : i + 1 < (bs s).length := by rw [bs_length]; omega
    have ha := bs_lt s _ (List.getElem_mem hlt)
    have hb := bs_lt s _ (List.getElem_mem hlt2)
    have hd := List.drop_eq_getElem_cons hlt
    rw [List.drop_eq_getElem_cons hlt2] at hd
    have ea := bt_eq hlt
    have eb := bt_eq hlt2
    generalize (bs s)[i] = a at ha hd ea
    generalize (bs s)[i + 1] = b at hb hd eb
    have e1 : wrap64 ((i : Int) + 1) = ((i + 1 : Nat) : Int) := by rw [w64 (by omega) (by omega)]; omega
    have e2 : wrap64 ((i : Int) + 2) = ((i + 2 : Nat) : Int) := by rw [w64 (by omega) (by omega)]; omega
    rw [e1, e2, ea, eb, hd]
    have ra := unfig_range a
    have rb := unfig_range b
    refine Ev.bindc (strings_IndexByte_ev ha) (Ev.yes (by omega) (Ev.yes (by omega) (Ev.bindc (strings_IndexByte_ev hb) ?_)))
    simp only [unhexN]
    refine Ev.ite (fun h => ?_) (fun h => ?_)
    · rw [if_pos (Or.inl h)]; exact Ev.now _
    refine Ev.ite (fun h3 => ?_) (fun h3 => ?_)
    · rw [if_pos (Or.inr h3)]; exact Ev.now _
    rw [if_neg (by omega)]
    refine Ev.yes (by omega) ?_
    have e3 : wrap64 (wrap64 (16 * unfig a) + unfig b) % 256 = 16 * unfig a + unfig b := by rw [w64 (x := 16 * unfig a) (by omega) (by omega), w64 (by omega) (by omega)]; omega
    rw [e3]
    have := ih (i + 2) (xs ++ [16 * unfig a + unfig b]) (by omega) (by rw [List.length_append, List.length_singleton]; omega)
    cases hu : unhexN ((bs s).drop (i + 2)) with
    | none => rw [hu] at this; simp only [Option.map_none]; exact this
    | some ys => rw [hu] at this; simp only [Option.map_some]; simpa using this

theorem spec_Unhex_ev (s : ByteArray) (hs : s.size ≤ 140737488351232) : Ev (fun k => spec_Unhex.f k s) (unhexOut s) := by
  unfold spec_Unhex.f unhexOut
  refine Ev.ite (fun h => ?_) (fun h => ?_)
  · rw [if_neg (by omega)]
    exact Ev.step (spec_Unhex.j0.eq_2 _ _) (Ev.yes rfl (Ev.now _))
  · refine Ev.step (spec_Unhex.j0.eq_2 _ _) ?_
    by_cases h2 : s.size % 2 = 0
    · rw [if_pos ⟨h2, by omega⟩]
      refine Ev.no (by have : (s.size : Int) % 2 = 0 := by omega
                       rw [this]; decide) ?_
      have := spec_Unhex_l0 s hs h2 (s.size / 2) 0 [] (by omega) (by simp)
      simp only [List.drop_zero, List.nil_append] at this
      exact this
    · rw [if_neg (by omega)]
      exact Ev.yes (by have : (s.size : Int) % 2 = 1 := by omega
                       rw [this]; decide) (Ev.now _)
theorem impl_Unhex_ev (s : ByteArray) (hs : s.size ≤ 140737488351232) : Ev (fun k => impl_Unhex.f k s) (unhexOut s) := by
  unfold impl_Unhex.f unhexOut
  refine Ev.ite (fun h => ?_) (fun h => ?_)
  · refine Ev.step (impl_Unhex.j0.eq_2 _ _) ?_
    by_cases h2 : (s.size : Int) > 40000
    · rw [if_neg (by omega)]
      exact Ev.yes (decide_eq_true h2) (Ev.now _)
    · rw [if_pos (by omega)]
      refine Ev.no (by rw [decide_eq_true_eq]; exact h2) ?_
      have := impl_Unhex_l0 s hs (by omega) (s.size / 2) 0 [] (by omega) (by simp)
      simp only [List.drop_zero, List.nil_append] at this
      exact this
  · rw [if_neg (by omega)]
    exact Ev.step (impl_Unhex.j0.eq_2 _ _) (Ev.yes rfl (Ev.now _))


theorem FnExactUnhex : laws_FnExactUnhex.Pure := by
  intro a ha
  apply Ev.rounds
  unfold laws_FnExactUnhex.f
  refine Ev.ite (fun _ => Ev.now _) (fun h => ?_)
  refine Ev.bind (spec_Unhex_ev a ha) ?_
  refine Ev.bind (impl_Unhex_ev a ha) ?_
  refine Ev.const ?_
  simp

end Go.Proofs.Ytflmjokjheddiaa.Pure
