/- Texts cut at one byte: strings.Split and strings.Cut as the shelf has them, told as plain lists. No program. -/
import Derived.Test.YthngecooaddddaaDoorGen
import Derived.Lib.Split
import Derived.Lib.SplitLaws
import Derived.Lib.CountLaws
import Derived.Lib.CutLaws
import Derived.Lib.IndexMore
import Derived.Lib.IndexBytes
import Derived.Lib.IndexLaws
set_option linter.unusedVariables false
namespace Go.Proofs.YthngecooaddddaaDoor.Gen
open Go.RowKit Go.Lib

/-- the pieces between the bytes c -/
def pieces (c : Nat) : List Nat → List (List Nat)
  | [] => [[]]
  | b :: l => if b = c then [] :: pieces c l else match pieces c l with
    | [] => [[b]]
    | h :: t => (b :: h) :: t
theorem pieces_ne (c : Nat) (l : List Nat) : pieces c l ≠ [] := by
  cases l with
  | nil => simp [pieces]
  | cons b l => unfold pieces; split <;> (try split) <;> simp
theorem pieces_cons (c b : Nat) (l : List Nat) : ∃ h t, pieces c l = h :: t ∧ pieces c (b :: l) = if b = c then [] :: h :: t else (b :: h) :: t := by
  cases e : pieces c l with
  | nil => exact absurd e (pieces_ne c l)
  | cons h t => exact ⟨h, t, rfl, by simp only [pieces, e]⟩
/-- where the first byte c stands -/
theorem indexByte_cases (c : UInt8) : ∀ l : List UInt8, (indexByte l c = -1 ∧ c ∉ l) ∨ ∃ a r, l = a ++ c :: r ∧ c ∉ a ∧ indexByte l c = (a.length : Int)
  | [] => .inl ⟨rfl, by simp⟩
  | b :: l => by
    by_cases h : b = c
    · subst h
      exact .inr ⟨[], l, rfl, by simp, by simp [indexByte]⟩
    · rcases indexByte_cases c l with ⟨h1, h2⟩ | ⟨a, r, rfl, h2, h3⟩
      · refine .inl ⟨by simp [indexByte, h, h1], ?_⟩
        simp only [List.mem_cons, not_or]
        exact ⟨fun e => h e.symm, h2⟩
      · refine .inr ⟨b :: a, r, rfl, ?_, ?_⟩
        · simp only [List.mem_cons, not_or]
          exact ⟨fun e => h e.symm, h2⟩
        · have hn : ¬ ((a.length : Int) = -1) := by omega
          simp [indexByte, h, h3, hn]
theorem pieces_none (c : Nat) : ∀ l : List Nat, c ∉ l → pieces c l = [l]
  | [], _ => rfl
  | b :: l, h => by
    simp only [List.mem_cons, not_or] at h
    rw [pieces, if_neg (fun e => h.1 e.symm), pieces_none c l h.2]
theorem pieces_hit (c : Nat) (r : List Nat) : ∀ a : List Nat, c ∉ a → pieces c (a ++ c :: r) = a :: pieces c r
  | [], _ => by simp [pieces]
  | b :: a, h => by
    simp only [List.mem_cons, not_or] at h
    rw [List.cons_append, pieces, if_neg (fun e => h.1 e.symm), pieces_hit c r a h.2]
theorem not_mem_nat {c : UInt8} {a : List UInt8} (h : c ∉ a) : c.toNat ∉ a.map UInt8.toNat := by
  intro hm
  obtain ⟨x, hx, e⟩ := List.mem_map.1 hm
  exact h (UInt8.toNat_inj.1 e ▸ hx)
theorem indexB_one (c : UInt8) (s : ByteArray) : indexB s ⟨#[c]⟩ = indexByte s.data.toList c := by
  unfold indexB
  exact index_one _ c
/-- strings.Split at one byte -/
theorem split_pieces (c : UInt8) : ∀ (k : Nat) (s : ByteArray), s.size ≤ k → (splitB ⟨#[c]⟩ 0 (countB s ⟨#[c]⟩) s).map bs = pieces c.toNat (bs s) := by
  intro k
  induction k with
  | zero =>
    intro s hs
    have h0 : indexB s ⟨#[c]⟩ = -1 := by
      rw [indexB_one]
      have : s.data.toList = [] := by
        apply List.eq_nil_of_length_eq_zero
        have := size_eq s; omega
      rw [this]; rfl
    rw [countB_miss s _ h0]
    have : bs s = [] := by
      apply List.eq_nil_of_length_eq_zero
      rw [bs_length]; omega
    simp [splitB, this, pieces]
  | succ k ih =>
    intro s hs
    rcases indexByte_cases c s.data.toList with ⟨h1, h2⟩ | ⟨a, r, h1, h2, h3⟩
    · have h0 : indexB s ⟨#[c]⟩ = -1 := by rw [indexB_one]; exact h1
      rw [countB_miss s _ h0]
      show [bs s] = _
      rw [pieces_none c.toNat (bs s) (not_mem_nat h2)]
    · have h0 : indexB s ⟨#[c]⟩ = (a.length : Int) := by rw [indexB_one]; exact h3
      have e1 : (⟨#[c]⟩ : ByteArray).size = 1 := rfl
      have hlen : s.size = a.length + 1 + r.length := by
        have := size_eq s
        rw [h1, List.length_append, List.length_cons] at this
        omega
      have eb : bs s = a.map UInt8.toNat ++ c.toNat :: r.map UInt8.toNat := by unfold bs; rw [h1]; simp
      rw [countB_hit s _ a.length (by rw [e1]; exact Nat.le_refl 1) h0, Nat.add_comm 1, splitB_hit _ 0 _ s a.length h0, e1]
      have er : bs (s.extract (a.length + 1) s.size) = r.map UInt8.toNat := by
        rw [bs_extract, eb]
        have : a.map UInt8.toNat ++ c.toNat :: r.map UInt8.toNat = (a.map UInt8.toNat ++ [c.toNat]) ++ r.map UInt8.toNat := by simp
        rw [this, List.drop_left' (by simp), List.take_of_length_le (by simp; omega)]
      have ea : bs (s.extract 0 (a.length + 0)) = a.map UInt8.toNat := by
        rw [bs_extract, eb, List.drop_zero, Nat.add_zero, Nat.sub_zero, List.take_left' (by simp)]
      have hsz : (s.extract (a.length + 1) s.size).size ≤ k := by
        rw [← bs_length, er, List.length_map]; omega
      rw [List.map_cons, ea, ih _ hsz, er, eb, pieces_hit c.toNat _ _ (not_mem_nat h2)]
theorem pieces_len (c : Nat) : ∀ l : List Nat, (pieces c l).length ≤ l.length + 1
  | [] => Nat.le_refl _
  | b :: l => by
    obtain ⟨h, t, e1, e2⟩ := pieces_cons c b l
    have := pieces_len c l
    rw [e2]; rw [e1] at this
    simp only [List.length_cons] at this ⊢
    split <;> simp only [List.length_cons] <;> omega
/-- the words between the bytes c, none of them empty; cur: the word under way -/
def wordsOf (c : Nat) : List Nat → List Nat → List (List Nat)
  | cur, [] => if cur = [] then [] else [cur]
  | cur, b :: l => if b = c then (if cur = [] then wordsOf c [] l else cur :: wordsOf c [] l) else wordsOf c (cur ++ [b]) l
def full (l : List (List Nat)) : List (List Nat) := l.filter fun x => !x.isEmpty
theorem words_pieces (c : Nat) : ∀ (l cur h : List Nat) (t : List (List Nat)), pieces c l = h :: t → wordsOf c cur l = full ((cur ++ h) :: t)
  | [], cur, h, t, e => by
    cases e
    cases cur <;> simp [wordsOf, full]
  | b :: l, cur, h, t, e => by
    obtain ⟨h1, t1, e1, e2⟩ := pieces_cons c b l
    rw [e2] at e
    by_cases hb : b = c
    · rw [if_pos hb] at e
      have ih := words_pieces c l [] h1 t1 e1
      obtain ⟨rfl, rfl⟩ := List.cons.inj e
      rw [wordsOf, if_pos hb, ih]
      cases cur <;> simp [full]
    · rw [if_neg hb] at e
      have ih := words_pieces c l (cur ++ [b]) h1 t1 e1
      obtain ⟨rfl, rfl⟩ := List.cons.inj e
      rw [wordsOf, if_neg hb, ih]
      simp
theorem words_full (c : Nat) (l : List Nat) : wordsOf c [] l = full (pieces c l) := by
  cases e : pieces c l with
  | nil => exact absurd e (pieces_ne c l)
  | cons h t => rw [words_pieces c l [] h t e]; rfl
theorem toList_nil (t : ByteArray) : t.toList = [] ↔ bs t = [] := by
  rw [ByteArray.toList_eq]; unfold bs; simp
end Go.Proofs.YthngecooaddddaaDoor.Gen
