/- Hex returns what the reference returns, for every text. No condition. -/
import Derived.Test.YtflmjokjheddiaaHex
import Derived.Test.YtflmjokjheddiaaQFnExactHexx1
namespace Go.Proofs.Ytflmjokjheddiaa.Pure
open Go.RowKit Go.Proofs.Ytflmjokjheddiaa.PFnExactHex Go.Proofs.YtflmjokjheddiaaW.PrintWords Go.Proofs.YtflmjokjheddiaaW.PrintLast Go.Proofs.Ytflmjokjheddiaa.Gen
set_option linter.unusedVariables false

theorem spec_l01Figure_ev (x : Nat) (h : x < 16) : spec_l01Figure.f (x : Int) = some (fig x : Int) := by
  unfold spec_l01Figure.f fig
  by_cases hc : x < 10
  · rw [if_pos (by omega), if_pos hc, w64 (by omega) (by omega)]; congr 1; omega
  · rw [if_neg (by omega), if_neg hc, w64 (x := 97 + (x : Int)) (by omega) (by omega), w64 (by omega) (by omega)]; congr 1; omega
theorem spec_Hex_l0 (s : ByteArray) (hs : s.size ≤ 140737488351232) : ∀ (d i : Nat) (xs : List Int), i + d = s.size → xs.length + 2 * d < 140737488355328 →
    Ev (fun k => spec_Hex.l0 k s xs (i : Int)) (strOfNums (xs ++ (hexN ((bs s).drop i)).map Int.ofNat), true) := by
  intro d
  induction d with
  | zero =>
    intro i xs hi hx
    refine Ev.step (spec_Hex.l0.eq_2 s xs (i : Int)) ?_
    refine Ev.no (by omega) (Ev.const ?_)
    rw [List.drop_eq_nil_of_le (by rw [bs_length]; omega)]; simp [hexN]
  | succ d ih =>
    intro i xs hi hx
    refine Ev.step (spec_Hex.l0.eq_2 s xs (i : Int)) ?_
    refine Ev.yes (by omega) (Ev.yes (by omega) ?_)
    have hlt : i < (bs s).length := by rw [bs_length]; omega
    have hb := bs_lt s _ (List.getElem_mem hlt)
    have hd := List.drop_eq_getElem_cons hlt
    have eb := bt_eq hlt
    generalize (bs s)[i] = c at hb hd eb
    rw [eb, hd, hexN_cons, w64 (x := (c : Int)) (by omega) (by omega), td16, tm16, w64 (by omega) (by omega)]
    refine Ev.bindc (spec_l01Figure_ev _ (by omega)) (Ev.bindc (spec_l01Figure_ev _ (by omega)) (Ev.bindc rfl ?_))
    refine Ev.yes (by simp; omega) ?_
    rw [w64 (by omega) (by omega)]
    have := ih (i + 1) (xs ++ [(fig (c / 16) : Int), (fig (c % 16) : Int)]) (by omega) (by simp; omega)
    simpa using this
/-- what Hex tells -/
def hexOut (s : ByteArray) : ByteArray × Bool := if (s.size : Int) > 20000 then (⟨#[]⟩, false) else (strOfNums ((hexN (bs s)).map Int.ofNat), true)
theorem spec_Hex_ev (s : ByteArray) (hs : s.size ≤ 140737488351232) : Ev (fun k => spec_Hex.f k s) (hexOut s) := by
  unfold spec_Hex.f hexOut
  refine Ev.ite (fun h => ?_) (fun h => ?_)
  · rw [if_pos h]; exact Ev.now _
  · rw [if_neg h]
    have := spec_Hex_l0 s hs s.size 0 [] (by omega) (by simp; omega)
    simpa using this

theorem impl_Hex_l0 (s : ByteArray) (hs : s.size ≤ 140737488351232) : ∀ (d i : Nat) (xs : List Int), i + d = s.size → xs.length + 2 * d < 140737488355328 →
    Ev (fun k => impl_Hex.l0 k s xs (i : Int)) (strOfNums (xs ++ (hexN ((bs s).drop i)).map Int.ofNat), true) := by
  intro d
  induction d with
  | zero =>
    intro i xs hi hx
    refine Ev.step (impl_Hex.l0.eq_2 s xs (i : Int)) ?_
    refine Ev.no (by omega) (Ev.const ?_)
    rw [List.drop_eq_nil_of_le (by rw [bs_length]; omega)]; simp [hexN]
  | succ d ih =>
    intro i xs hi hx
    refine Ev.step (impl_Hex.l0.eq_2 s xs (i : Int)) ?_
    refine Ev.yes (by omega) (Ev.yes (by omega) ?_)
    have hlt : i < (bs s).length := by rw [bs_length]; omega
    have hb := bs_lt s _ (List.getElem_mem hlt)
    have hd := List.drop_eq_getElem_cons hlt
    have eb := bt_eq hlt
    generalize (bs s)[i] = c at hb hd eb
    have e1 : Int.tdiv (c : Int) 16 % 256 = ((c / 16 : Nat) : Int) := by rw [td16]; omega
    rw [eb, hd, hexN_cons, e1, tm16, fig_bt (by omega), fig_bt (by omega)]
    refine Ev.yes (by omega) (Ev.yes (by omega) (Ev.yes (by omega) (Ev.yes (by omega) (Ev.bindc rfl ?_))))
    refine Ev.yes (by simp; omega) ?_
    rw [w64 (by omega) (by omega)]
    have := ih (i + 1) (xs ++ [(fig (c / 16) : Int), (fig (c % 16) : Int)]) (by omega) (by simp; omega)
    simpa using this
theorem impl_Hex_ev (s : ByteArray) (hs : s.size ≤ 140737488351232) : Ev (fun k => impl_Hex.f k s) (hexOut s) := by
  unfold impl_Hex.f hexOut
  refine Ev.ite (fun h => ?_) (fun h => ?_)
  · rw [if_pos h]; exact Ev.now _
  · rw [if_neg h]
    have := impl_Hex_l0 s hs s.size 0 [] (by omega) (by simp; omega)
    simpa using this

theorem FnExactHex : laws_FnExactHex.Pure := by
  intro s hs
  apply Ev.rounds
  unfold laws_FnExactHex.f
  refine Ev.ite (fun _ => Ev.now _) (fun h => ?_)
  refine Ev.bind (spec_Hex_ev s hs) ?_
  refine Ev.bind (impl_Hex_ev s hs) ?_
  refine Ev.const ?_
  simp

end Go.Proofs.Ytflmjokjheddiaa.Pure
