/- Strings in order, as the walk's rules: >=, <=, > told by one word, 'bytesLess'. No program. -/
import Derived.Laws.Strings
namespace Go.Proofs.Ytdiecogmaiglaaa.StrOrd
open Go
theorem less_total : ∀ a b : List UInt8, (Op.bytesLess a b || a == b) = !(Op.bytesLess b a)
  | [], [] => rfl
  | [], _ :: _ => rfl
  | _ :: _, [] => rfl
  | x :: a, y :: b => by
    have ih := less_total a b
    simp only [Op.bytesLess]
    by_cases h1 : x < y
    · have h2 : ¬ y < x := UInt8.not_lt.2 (UInt8.le_of_lt h1)
      have h3 : (y == x) = false := by
        rw [beq_eq_false_iff_ne]; intro e; subst e; exact UInt8.lt_irrefl _ h1
      rw [decide_eq_true h1, decide_eq_false h2, h3]; rfl
    · by_cases h2 : y < x
      · have h3 : (x == y) = false := by
          rw [beq_eq_false_iff_ne]; intro e; subst e; exact UInt8.lt_irrefl _ h2
        have h4 : (x :: a == y :: b) = false := by
          rw [List.cons_beq_cons, h3, Bool.false_and]
        rw [decide_eq_false h1, decide_eq_true h2, h3, h4]; rfl
      · have e : x = y := UInt8.le_antisymm (UInt8.not_lt.1 h2) (UInt8.not_lt.1 h1)
        subst e
        have h5 : (x == x) = true := beq_self_eq_true x
        rw [decide_eq_false h1, List.cons_beq_cons, h5, Bool.false_or, Bool.true_and, Bool.true_and, Bool.false_or]
        exact ih
@[go_sem] theorem string_leq (t : TypeId) (a b : ByteArray) : binOp .leq t (.string a) (.string b) = pure (.bool !(Op.bytesLess b.toList a.toList)) := by
  rw [← less_total]; simp [binOp, Op.stringOp]
@[go_sem] theorem string_gtr (t : TypeId) (a b : ByteArray) : binOp .gtr t (.string a) (.string b) = pure (.bool (Op.bytesLess b.toList a.toList)) := by
  have h := less_total a.toList b.toList
  have e : Op.bytesLess b.toList a.toList = !(Op.bytesLess a.toList b.toList || a.toList == b.toList) := by rw [h, Bool.not_not]
  rw [e]; simp [binOp, Op.stringOp]
@[go_sem] theorem string_geq (t : TypeId) (a b : ByteArray) : binOp .geq t (.string a) (.string b) = pure (.bool !(Op.bytesLess a.toList b.toList)) := by simp [binOp, Op.stringOp]
end Go.Proofs.Ytdiecogmaiglaaa.StrOrd
