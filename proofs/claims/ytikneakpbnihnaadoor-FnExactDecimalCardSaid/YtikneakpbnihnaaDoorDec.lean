/- Decimal numerals as lists of bytes. No program. -/
import Derived.Test.YtikneakpbnihnaaDoorGen
import Derived.Lib.ItoaNum
set_option linter.unusedVariables false
namespace Go.Proofs.YtikneakpbnihnaaDoor.Gen
open Go.RowKit
/-- a number's figures; none of 0 -/
def digs (u : Nat) : List Nat := if h : u = 0 then [] else digs (u / 10) ++ [48 + u % 10]
termination_by u
decreasing_by omega
/-- a number's figures; one of 0 -/
def figs (u : Nat) : List Nat := if u = 0 then [48] else digs u
def numeral (a : Int) : List Nat := if a < 0 then 45 :: figs a.natAbs else figs a.toNat
theorem digs_dec : ∀ (m u : Nat), u ≤ m → 0 < u → (Lib.decDigits u).map UInt8.toNat = digs u := by
  intro m
  induction m with
  | zero => intro u h h0; omega
  | succ m ih =>
    intro u h h0
    have e : ∀ n : Nat, n < 10 → (UInt8.ofNat (48 + n)).toNat = 48 + n := fun n hn => by rw [UInt8.toNat_ofNat']; omega
    rw [digs, dif_neg (show ¬ u = 0 by omega), Lib.decDigits]
    by_cases h1 : u < 10
    · have z : digs 0 = [] := by rw [digs]; rfl
      rw [dif_pos h1, show u / 10 = 0 by omega, show u % 10 = u by omega, z]
      simp only [List.map_cons, List.map_nil, List.nil_append]
      rw [e u h1]
    · rw [dif_neg h1, List.map_append, ih (u / 10) (by omega) (by omega)]
      simp only [List.map_cons, List.map_nil]
      rw [e _ (Nat.mod_lt _ (by omega))]
theorem figs_dec (u : Nat) : (Lib.decDigits u).map UInt8.toNat = figs u := by
  unfold figs
  by_cases h : u = 0
  · subst h; rw [if_pos rfl, Lib.decDigits]; rfl
  · rw [if_neg h]; exact digs_dec u u (Nat.le_refl _) (by omega)
theorem bs_itoa (a : Int) : bs (⟨(Lib.itoa a).toArray⟩ : ByteArray) = numeral a := by
  show (Lib.itoa a).map UInt8.toNat = _
  unfold Lib.itoa numeral
  split
  · rw [List.map_cons, figs_dec]; rfl
  · exact figs_dec _
end Go.Proofs.YtikneakpbnihnaaDoor.Gen
