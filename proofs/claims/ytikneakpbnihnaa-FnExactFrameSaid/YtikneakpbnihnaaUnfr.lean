/- Frames, and what is read back of a file of frames. -/
import Derived.Test.YtikneakpbnihnaaVar
import Derived.Test.YtikneakpbnihnaaSum
set_option linter.unusedVariables false
namespace Go.Proofs.Ytikneakpbnihnaa.Gen
open Go.RowKit Go.Proofs.YtikneakpbnihnaaW.PrintWords Go.Proofs.YtikneakpbnihnaaW.PrintLast

/-- what Frame tells -/
def frameOut (s : ByteArray) : ByteArray × Bool := if 1 ≤ (s.size : Int) ∧ (s.size : Int) ≤ 9000 then (varT s.size ++ fourT (sumT s) ++ s, true) else (⟨#[]⟩, false)
/-- the frame at a place of a file: its text, and the place behind it -/
def next (s : ByteArray) (a : Nat) : Option (ByteArray × Nat) :=
  match readN ((bs s).drop a) with
  | none => none
  | some (n, len) =>
    if 1 ≤ n ∧ n ≤ 9000 ∧ a + len + 4 + n ≤ s.size ∧ fourT (sumT (s.extract (a + len + 4) (a + len + 4 + n))) = s.extract (a + len) (a + len + 4) then
      some (s.extract (a + len + 4) (a + len + 4 + n), a + len + 4 + n)
    else none
theorem next_lt {s : ByteArray} {a m : Nat} {t : ByteArray} (h : next s a = some (t, m)) : a < m ∧ m ≤ s.size := by
  unfold next at h
  split at h
  · cases h
  · rename_i n len hr
    have := readN_len hr
    split at h
    · rename_i hc
      simp only [Option.some.injEq, Prod.mk.injEq] at h
      omega
    · cases h
/-- the texts of the frames from a place on, behind others; the place behind the last of them -/
def unfr (s : ByteArray) (acc : List ByteArray) (a : Nat) : List ByteArray × Nat :=
  match h : next s a with
  | none => (acc, a)
  | some (t, m) => unfr s (acc ++ [t]) m
termination_by s.size - a
decreasing_by
  have := next_lt h
  omega
theorem unfr_none {s : ByteArray} {acc : List ByteArray} {a : Nat} (h : next s a = none) : unfr s acc a = (acc, a) := by
  rw [unfr]; split
  · rfl
  · rename_i h2; rw [h] at h2; cases h2
theorem unfr_some {s : ByteArray} {acc : List ByteArray} {a m : Nat} {t : ByteArray} (h : next s a = some (t, m)) : unfr s acc a = unfr s (acc ++ [t]) m := by
  rw [unfr]; split
  · rename_i h2; rw [h] at h2; cases h2
  · rename_i h2; rw [h] at h2; cases h2; rfl
/-- what Unframe tells -/
def unfrOut (s : ByteArray) : List ByteArray × Int := if (s.size : Int) ≤ 20000 then ((unfr s [] 0).1, ((unfr s [] 0).2 : Int)) else ([], 0)
end Go.Proofs.Ytikneakpbnihnaa.Gen
