/- Frames, and what is read back of a file of frames. -/
import Derived.Test.YtikneakpbnihnaaVar
import Derived.Test.YtikneakpbnihnaaSum
set_option linter.unusedVariables false
namespace Go.Proofs.Ytikneakpbnihnaa.Gen
open Go.RowKit Go.Proofs.YtikneakpbnihnaaW.PrintWords Go.Proofs.YtikneakpbnihnaaW.PrintLast

/-- what Frame tells -/
def frameOut (s : ByteArray) : ByteArray × Bool := if 1 ≤ (s.size : Int) ∧ (s.size : Int) ≤ 9000 then (varT s.size ++ fourT (sumT s) ++ s, true) else (⟨#[]⟩, false)
/-- the frame at a place of a file: its text, and the place behind it -/
def next (s : ByteArray) (a : Nat) : Option (ByteArray × Nat) :=
  match readN ((bs s).drop a) with
  | none => none
  | some (n, len) =>
    if 1 ≤ n ∧ n ≤ 9000 ∧ a + len + 4 + n ≤ s.size ∧ fourT (sumT (s.extract (a + len + 4) (a + len + 4 + n))) = s.extract (a + len) (a + len + 4) then
      some (s.extract (a + len + 4) (a + len + 4 + n), a + len + 4 + n)
    else none
theorem next_lt {s : ByteArray} {a m : Nat} {t : ByteArray} (h : next s a = some (t, m)) : a < m ∧ m ≤ s.size := by
  unfold next at h
  split at h
  · cases h
  · rename_i n len hr
    have := readN_len hr
    split at h
    · rename_i hc
      simp only [Option.some.injEq, Prod.mk.injEq] at h
      omega
    · cases h
/-- the texts of the frames from a place on, behind others; the place behind the last of them -/
def unfr (s : ByteArray) (acc : List ByteArray) (a : Nat) : List ByteArray × Nat :=
  match h : next s a with
  | none => (acc, a)
  | some (t, m) => unfr s (acc ++ [t]) m
termination_by s.size - a
decreasing_by
  have := next_lt h
  omega
theorem unfr_none {s : ByteArray} {acc : List ByteArray} {a : Nat} (h : next s a = none) : unfr s acc a = (acc, a) := by
  rw [unfr]; split
  · rfl
  · rename_i h2; rw [h] at h2; cases h2
theorem unfr_some {s : ByteArray} {acc : List ByteArray} {a m : Nat} {t : ByteArray} (h : next s a = some (t, m)) : unfr s acc a = unfr s (acc ++ [t]) m := by
  rw [unfr]; split
  · rename_i h2; rw [h] at h2; cases h2
  · rename_i h2; rw [h] at h2; cases h2; rfl
/-- what Unframe tells -/
def unfrOut (s : ByteArray) : List ByteArray × Int := if (s.size : Int) ≤ 20000 then ((unfr s [] 0).1, ((unfr s [] 0).2 : Int)) else ([], 0)
theorem readN_nil : readN [] = none := rfl
theorem next_end {s : ByteArray} {a : Nat} (h : s.size ≤ a) : next s a = none := by
  unfold next
  rw [List.drop_eq_nil_of_le (by rw [bs_length]; omega), readN_nil]
theorem readN_take {l : List Nat} {n m : Nat} (hb : ∀ x ∈ l, x < 256) (h : readN l = some (n, m)) : l.take m = varN n := by
  unfold readN at h
  split at h
  · cases h
  · rename_i ds e
    obtain ⟨h1, h2, h3, h4⟩ := rvd_len 5 l ds e
    split at h
    · rename_i hc
      simp only [Option.some.injEq, Prod.mk.injEq] at h
      obtain ⟨rfl, rfl⟩ := h
      rw [← h3]
      exact ((varN_val 5 l ds hb e).2 hc.1).symm
    · cases h
theorem extract_split (s : ByteArray) {a b c : Nat} (h1 : a ≤ b) (h2 : b ≤ c) : s.extract a c = s.extract a b ++ s.extract b c := by
  apply bs_inj
  rw [bs_append, bs_extract, bs_extract, bs_extract]
  have e : (bs s).drop b = ((bs s).drop a).drop (b - a) := by rw [List.drop_drop]; congr 1; omega
  rw [e, show c - a = (b - a) + (c - b) by omega, List.take_add]
theorem extract_var {s : ByteArray} {a n len : Nat} (h : readN ((bs s).drop a) = some (n, len)) : s.extract a (a + len) = varT n := by
  apply bs_inj
  rw [bs_varT, bs_extract, show a + len - a = len by omega]
  exact readN_take (fun x hx => bs_lt s x (List.mem_of_mem_drop hx)) h
/-- a frame at a place: what stands there is the frame of its text, just if the sums agree -/
theorem frame_iff {s : ByteArray} {a n len : Nat} (h : readN ((bs s).drop a) = some (n, len)) (hs : a + len + 4 + n ≤ s.size) (t : ByteArray) (ht : t = s.extract (a + len + 4) (a + len + 4 + n)) :
    varT n ++ fourT (sumT t) ++ t = s.extract a (a + len + 4 + n) ↔ fourT (sumT t) = s.extract (a + len) (a + len + 4) := by
  rw [extract_split s (show a ≤ a + len + 4 by omega) (show a + len + 4 ≤ a + len + 4 + n by omega), ← ht, extract_split s (show a ≤ a + len by omega) (show a + len ≤ a + len + 4 by omega), extract_var h]
  constructor
  · intro h1
    have h2 : bs (varT n ++ fourT (sumT t)) = bs (varT n ++ s.extract (a + len) (a + len + 4)) := by
      have := congrArg bs h1
      rw [bs_append _ t, bs_append _ t] at this
      exact List.append_cancel_right this
    exact append_left_cancel (bs_inj h2)
  · intro h1; rw [h1]
theorem readOut_none {s : ByteArray} {a : Nat} (ha : a ≤ s.size) (h : readN ((bs s).drop a) = none) : readOut s (a : Int) = (0, 0, false) := by
  unfold readOut; rw [if_pos (by omega), Int.toNat_natCast, h]
theorem readOut_some {s : ByteArray} {a n len : Nat} (ha : a ≤ s.size) (h : readN ((bs s).drop a) = some (n, len)) : readOut s (a : Int) = ((n : Int), ((a + len : Nat) : Int), true) := by
  unfold readOut; rw [if_pos (by omega), Int.toNat_natCast, h]; simp
theorem unfr_len (s : ByteArray) : ∀ (d a : Nat) (acc : List ByteArray), s.size - a ≤ d → (unfr s acc a).1.length ≤ acc.length + (s.size - a) := by
  intro d
  induction d with
  | zero => intro a acc h; rw [unfr_none (next_end (by omega))]; simp
  | succ d ih =>
    intro a acc h
    cases hn : next s a with
    | none => rw [unfr_none hn]; simp
    | some p =>
      obtain ⟨t, m⟩ := p
      have := next_lt hn
      rw [unfr_some hn]
      have h2 := ih m (acc ++ [t]) (by omega)
      rw [List.length_append, List.length_singleton] at h2
      omega
theorem unfrOut_len (s : ByteArray) : (unfrOut s).1.length ≤ 20000 := by
  unfold unfrOut
  split
  · have := unfr_len s s.size 0 [] (by omega)
    simp only [List.length_nil] at this
    simp only; omega
  · simp
end Go.Proofs.Ytikneakpbnihnaa.Gen
