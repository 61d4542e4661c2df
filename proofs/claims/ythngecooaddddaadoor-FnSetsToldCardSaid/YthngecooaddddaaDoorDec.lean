/- Decimal numerals as lists of bytes. No program. -/
import Derived.Test.YthngecooaddddaaDoorGen
import Derived.Lib.ItoaNum
import Derived.Lib.AtoiAllCases
set_option linter.unusedVariables false
namespace Go.Proofs.YthngecooaddddaaDoor.Gen
open Go.RowKit
/-- a number's figures; none of 0 -/
def digs (u : Nat) : List Nat := if h : u = 0 then [] else digs (u / 10) ++ [48 + u % 10]
termination_by u
decreasing_by omega
/-- a number's figures; one of 0 -/
def figs (u : Nat) : List Nat := if u = 0 then [48] else digs u
def numeral (a : Int) : List Nat := if a < 0 then 45 :: figs a.natAbs else figs a.toNat
theorem digs_dec : ∀ (m u : Nat), u ≤ m → 0 < u → (Lib.decDigits u).map UInt8.toNat = digs u := by
  intro m
  induction m with
  | zero => intro u h h0; omega
  | succ m ih =>
    intro u h h0
    have e : ∀ n : Nat, n < 10 → (UInt8.ofNat (48 + n)).toNat = 48 + n := fun n hn => by rw [UInt8.toNat_ofNat']; omega
    rw [digs, dif_neg (show ¬ u = 0 by omega), Lib.decDigits]
    by_cases h1 : u < 10
    · have z : digs 0 = [] := by rw [digs]; rfl
      rw [dif_pos h1, show u / 10 = 0 by omega, show u % 10 = u by omega, z]
      simp only [List.map_cons, List.map_nil, List.nil_append]
      rw [e u h1]
    · rw [dif_neg h1, List.map_append, ih (u / 10) (by omega) (by omega)]
      simp only [List.map_cons, List.map_nil]
      rw [e _ (Nat.mod_lt _ (by omega))]
theorem figs_dec (u : Nat) : (Lib.decDigits u).map UInt8.toNat = figs u := by
  unfold figs
  by_cases h : u = 0
  · subst h; rw [if_pos rfl, Lib.decDigits]; rfl
  · rw [if_neg h]; exact digs_dec u u (Nat.le_refl _) (by omega)
theorem bs_itoa (a : Int) : bs (⟨(Lib.itoa a).toArray⟩ : ByteArray) = numeral a := by
  show (Lib.itoa a).map UInt8.toNat = _
  unfold Lib.itoa numeral
  split
  · rw [List.map_cons, figs_dec]; rfl
  · exact figs_dec _
/-- the number that the bytes spell behind n -/
def decVal : Nat → List Nat → Option Nat
  | n, [] => some n
  | n, c :: r => if 48 ≤ c ∧ c ≤ 57 then decVal (10 * n + (c - 48)) r else none
theorem decVal_append (d : Nat) (hd : d < 10) : ∀ (l : List Nat) (n u : Nat), decVal n l = some u → decVal n (l ++ [48 + d]) = some (10 * u + d)
  | [], n, u, h => by
    obtain rfl := Option.some.inj h
    show decVal n [48 + d] = _
    rw [decVal, if_pos (by omega), decVal]; congr 1; omega
  | c :: r, n, u, h => by
    rw [decVal] at h
    split at h
    case isFalse => cases h
    case isTrue hc => rw [List.cons_append, decVal, if_pos hc]; exact decVal_append d hd r _ u h
theorem decVal_le : ∀ (l : List Nat) (n u : Nat), decVal n l = some u → n ≤ u
  | [], n, u, h => by obtain rfl := Option.some.inj h; omega
  | c :: r, n, u, h => by
    rw [decVal] at h
    split at h
    · have := decVal_le r _ u h; omega
    · cases h
theorem decVal_digs : ∀ (m u : Nat), u ≤ m → decVal 0 (digs u) = some u := by
  intro m
  induction m with
  | zero => intro u h; have : u = 0 := by omega
            subst this; rw [digs]; rfl
  | succ m ih =>
    intro u h
    by_cases h0 : u = 0
    · subst h0; rw [digs]; rfl
    · rw [digs, dif_neg h0, decVal_append (u % 10) (Nat.mod_lt _ (by omega)) _ _ _ (ih (u / 10) (by omega))]
      congr 1; omega
theorem decVal_figs (u : Nat) : decVal 0 (figs u) = some u := by
  unfold figs
  split
  · subst_vars; rfl
  · exact decVal_digs u u (Nat.le_refl _)
theorem digs_len : ∀ (k u : Nat), u < 10 ^ k → (digs u).length ≤ k := by
  intro k
  induction k with
  | zero => intro u h; have : u = 0 := by simpa using h
            subst this; rw [digs]; exact Nat.le_refl _
  | succ k ih =>
    intro u h
    by_cases h0 : u = 0
    · subst h0; rw [digs]; exact Nat.zero_le _
    · rw [digs, dif_neg h0, List.length_append]
      have := ih (u / 10) (by rw [Nat.pow_succ] at h; omega)
      simp only [List.length_cons, List.length_nil]; omega
theorem figs_len (k u : Nat) (hk : 1 ≤ k) (h : u < 10 ^ k) : (figs u).length ≤ k := by
  unfold figs
  split
  · exact hk
  · exact digs_len k u h
theorem figs_ne (u : Nat) : figs u ≠ [] := by
  unfold figs
  split
  · simp
  · rename_i h; rw [digs, dif_neg h]; simp
/-- what strconv.Atoi reads of figures -/
theorem parse_decVal : ∀ (l : List UInt8) (n u : Nat), u ≤ 1000000000 → decVal n (l.map UInt8.toNat) = some u → Lib.parseUint10 n l = .ok u
  | [], n, u, hu, h => by obtain rfl := Option.some.inj h; rfl
  | c :: r, n, u, hu, h => by
    rw [List.map_cons, decVal] at h
    split at h
    case isFalse => cases h
    case isTrue hc =>
      have hle := decVal_le _ _ _ h
      rw [Lib.parseUint10, if_pos hc, if_neg (by omega), if_neg (by omega), Nat.mul_comm n 10]
      exact parse_decVal r _ u hu h
theorem itoa_figs (v : Int) (h : 0 ≤ v) : (Lib.itoa v).map UInt8.toNat = figs v.toNat := by
  unfold Lib.itoa
  rw [if_neg (by omega)]; exact figs_dec _
theorem atoi_itoa (v : Int) (h0 : 0 ≤ v) (h1 : v ≤ 1000000000) : Lib.atoiAll (Lib.itoa v) = .ok v := by
  have hf := itoa_figs v h0
  have hv := decVal_figs v.toNat
  rw [← hf] at hv
  cases hc : Lib.itoa v with
  | nil => rw [hc] at hf; exact absurd hf.symm (figs_ne _)
  | cons c r =>
    rw [hc] at hv
    have hd : 48 ≤ c.toNat ∧ c.toNat ≤ 57 := by
      rw [List.map_cons, decVal] at hv
      split at hv
      · assumption
      · cases hv
    have hp := parse_decVal (c :: r) 0 v.toNat (by omega) hv
    rw [Lib.atoiAll_plain c r (by omega) (by omega), Lib.parseMag, if_neg (by simp), hp]
    unfold Lib.signless
    simp only
    rw [if_neg (by omega)]
    congr 1; omega
end Go.Proofs.YthngecooaddddaaDoor.Gen
