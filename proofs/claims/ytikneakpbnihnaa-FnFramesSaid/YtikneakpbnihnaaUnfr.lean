/- Frames, and what is read back of a file of frames. -/
import Derived.Test.YtikneakpbnihnaaVar
import Derived.Test.YtikneakpbnihnaaSum
set_option linter.unusedVariables false
namespace Go.Proofs.Ytikneakpbnihnaa.Gen
open Go.RowKit Go.Proofs.YtikneakpbnihnaaW.PrintWords Go.Proofs.YtikneakpbnihnaaW.PrintLast

/-- what Frame tells -/
def frameOut (s : ByteArray) : ByteArray × Bool := if 1 ≤ (s.size : Int) ∧ (s.size : Int) ≤ 9000 then (varT s.size ++ fourT (sumT s) ++ s, true) else (⟨#[]⟩, false)
/-- the frame at a place of a file: its text, and the place behind it -/
def next (s : ByteArray) (a : Nat) : Option (ByteArray × Nat) :=
  match readN ((bs s).drop a) with
  | none => none
  | some (n, len) =>
    if 1 ≤ n ∧ n ≤ 9000 ∧ a + len + 4 + n ≤ s.size ∧ fourT (sumT (s.extract (a + len + 4) (a + len + 4 + n))) = s.extract (a + len) (a + len + 4) then
      some (s.extract (a + len + 4) (a + len + 4 + n), a + len + 4 + n)
    else none
theorem next_lt {s : ByteArray} {a m : Nat} {t : ByteArray} (h : next s a = some (t, m)) : a < m ∧ m ≤ s.size := by
  unfold next at h
  split at h
  · cases h
  · rename_i n len hr
    have := readN_len hr
    split at h
    · rename_i hc
      simp only [Option.some.injEq, Prod.mk.injEq] at h
      omega
    · cases h
/-- the texts of the frames from a place on, behind others; the place behind the last of them -/
def unfr (s : ByteArray) (acc : List ByteArray) (a : Nat) : List ByteArray × Nat :=
  match h : next s a with
  | none => (acc, a)
  | some (t, m) => unfr s (acc ++ [t]) m
termination_by s.size - a
decreasing_by
  have := next_lt h
  omega
theorem unfr_none {s : ByteArray} {acc : List ByteArray} {a : Nat} (h : next s a = none) : unfr s acc a = (acc, a) := by
  rw [unfr]; split
  · rfl
  · rename_i h2; rw [h] at h2; cases h2
theorem unfr_some {s : ByteArray} {acc : List ByteArray} {a m : Nat} {t : ByteArray} (h : next s a = some (t, m)) : unfr s acc a = unfr s (acc ++ [t]) m := by
  rw [unfr]; split
  · rename_i h2; rw [h] at h2; cases h2
  · rename_i h2; rw [h] at h2; cases h2; rfl
/-- what Unframe tells -/
def unfrOut (s : ByteArray) : List ByteArray × Int := if (s.size : Int) ≤ 20000 then ((unfr s [] 0).1, ((unfr s [] 0).2 : Int)) else ([], 0)
theorem readN_nil : readN [] = none := rfl
theorem next_end {s : ByteArray} {a : Nat} (h : s.size ≤ a) : next s a = none := by
  unfold next
  rw [List.drop_eq_nil_of_le (by rw [bs_length]; omega), readN_nil]
theorem readN_take {l : List Nat} {n m : Nat} (hb : ∀ x ∈ l, x < 256) (h : readN l = some (n, m)) : l.take m = varN n := by
  unfold readN at h
  split at h
  · cases h
  · rename_i ds e
    obtain ⟨h1, h2, h3, h4⟩ := rvd_len 5 l ds e
    split at h
    · rename_i hc
      simp only [Option.some.injEq, Prod.mk.injEq] at h
      obtain ⟨rfl, rfl⟩ := h
      rw [← h3]
      exact ((varN_val 5 l ds hb e).2 hc.1).symm
    · cases h
theorem extract_split (s : ByteArray) {a b c : Nat} (h1 : a ≤ b) (h2 : b ≤ c) : s.extract a c = s.extract a b ++ s.extract b c := by
  apply bs_inj
  rw [bs_append, bs_extract, bs_extract, bs_extract]
  have e : (bs s).drop b = ((bs s).drop a).drop (b - a) := by rw [List.drop_drop]; congr 1; omega
  rw [e, show c - a = (b - a) + (c - b) by omega, List.take_add]
theorem extract_var {s : ByteArray} {a n len : Nat} (h : readN ((bs s).drop a) = some (n, len)) : s.extract a (a + len) = varT n := by
  apply bs_inj
  rw [bs_varT, bs_extract, show a + len - a = len by omega]
  exact readN_take (fun x hx => bs_lt s x (List.mem_of_mem_drop hx)) h
/-- a frame at a place: what stands there is the frame of its text, just if the sums agree -/
theorem frame_iff {s : ByteArray} {a n len : Nat} (h : readN ((bs s).drop a) = some (n, len)) (hs : a + len + 4 + n ≤ s.size) (t : ByteArray) (ht : t = s.extract (a + len + 4) (a + len + 4 + n)) :
    varT n ++ fourT (sumT t) ++ t = s.extract a (a + len + 4 + n) ↔ fourT (sumT t) = s.extract (a + len) (a + len + 4) := by
  rw [extract_split s (show a ≤ a + len + 4 by omega) (show a + len + 4 ≤ a + len + 4 + n by omega), ← ht, extract_split s (show a ≤ a + len by omega) (show a + len ≤ a + len + 4 by omega), extract_var h]
  constructor
  · intro h1
    have h2 : bs (varT n ++ fourT (sumT t)) = bs (varT n ++ s.extract (a + len) (a + len + 4)) := by
      have := congrArg bs h1
      rw [bs_append _ t, bs_append _ t] at this
      exact List.append_cancel_right this
    exact append_left_cancel (bs_inj h2)
  · intro h1; rw [h1]
theorem readOut_none {s : ByteArray} {a : Nat} (ha : a ≤ s.size) (h : readN ((bs s).drop a) = none) : readOut s (a : Int) = (0, 0, false) := by
  unfold readOut; rw [if_pos (by omega), Int.toNat_natCast, h]
theorem readOut_some {s : ByteArray} {a n len : Nat} (ha : a ≤ s.size) (h : readN ((bs s).drop a) = some (n, len)) : readOut s (a : Int) = ((n : Int), ((a + len : Nat) : Int), true) := by
  unfold readOut; rw [if_pos (by omega), Int.toNat_natCast, h]; simp
theorem unfr_len (s : ByteArray) : ∀ (d a : Nat) (acc : List ByteArray), s.size - a ≤ d → (unfr s acc a).1.length ≤ acc.length + (s.size - a) := by
  intro d
  induction d with
  | zero => intro a acc h; rw [unfr_none (next_end (by omega))]; simp
  | succ d ih =>
    intro a acc h
    cases hn : next s a with
    | none => rw [unfr_none hn]; simp
    | some p =>
      obtain ⟨t, m⟩ := p
      have := next_lt hn
      rw [unfr_some hn]
      have h2 := ih m (acc ++ [t]) (by omega)
      rw [List.length_append, List.length_singleton] at h2
      omega
theorem unfrOut_len (s : ByteArray) : (unfrOut s).1.length ≤ 20000 := by
  unfold unfrOut
  split
  · have := unfr_len s s.size 0 [] (by omega)
    simp only [List.length_nil] at this
    simp only; omega
  · simp

/-! ### files of frames -/
def frameL (t : ByteArray) : List Nat := varN t.size ++ (four (sumT t) ++ bs t)
def frameT (t : ByteArray) : ByteArray := varT t.size ++ fourT (sumT t) ++ t
theorem bs_frameT (t : ByteArray) : bs (frameT t) = frameL t := by
  unfold frameT frameL
  rw [bs_append, bs_append, bs_varT, bs_fourT, List.append_assoc]
def filesL (ts : List ByteArray) : List Nat := ts.flatMap frameL
theorem filesL_cons (t : ByteArray) (ts : List ByteArray) : filesL (t :: ts) = frameL t ++ filesL ts := rfl
theorem four_len (x : Nat) : (four x).length = 4 := rfl
theorem frameL_len (t : ByteArray) : (frameL t).length = (varN t.size).length + 4 + t.size := by
  unfold frameL
  rw [List.length_append, List.length_append, four_len, bs_length]; omega
def okText (t : ByteArray) : Prop := 1 ≤ t.size ∧ t.size ≤ 9000
theorem varN_high (n : Nat) : ∀ j, j < (varN n).length → ∀ x ∈ (varN n).take j, 128 ≤ x := by
  induction n using Nat.strongRecOn with
  | _ n ih =>
    intro j hj x hx
    by_cases h : n > 127
    · rw [varN_big h] at hj hx
      cases j with
      | zero => simp at hx
      | succ j =>
        rw [List.take_succ_cons] at hx
        rw [List.length_cons] at hj
        rcases List.mem_cons.1 hx with rfl | hx
        · omega
        · exact ih (n / 128) (by omega) j (by omega) x hx
    · rw [varN_small h] at hj hx
      simp only [List.length_singleton] at hj
      obtain rfl : j = 0 := by omega
      simp at hx
theorem next_full {s : ByteArray} {a : Nat} {t : ByteArray} {rest : List Nat} (ht : okText t) (h : (bs s).drop a = frameL t ++ rest) : next s a = some (t, a + (frameL t).length) := by
  have hr : readN ((bs s).drop a) = some (t.size, (varN t.size).length) := by
    rw [h]; unfold frameL; rw [List.append_assoc]
    exact readN_varN t.size (by have := ht.2; omega) _
  have hl := congrArg List.length h
  rw [List.length_drop, bs_length, List.length_append] at hl
  have hfl := frameL_len t
  have hp := varN_pos t.size
  have h1 : s.extract (a + (varN t.size).length) (a + (varN t.size).length + 4) = fourT (sumT t) := by
    apply bs_inj
    rw [bs_extract, bs_fourT, ← List.drop_drop, h]
    unfold frameL
    rw [List.append_assoc, List.drop_left, List.append_assoc, show a + (varN t.size).length + 4 - (a + (varN t.size).length) = 4 by omega, List.take_left' (four_len _)]
  have h2 : s.extract (a + (varN t.size).length + 4) (a + (varN t.size).length + 4 + t.size) = t := by
    apply bs_inj
    rw [bs_extract, show a + (varN t.size).length + 4 = a + ((varN t.size).length + 4) by omega, ← List.drop_drop, h]
    unfold frameL
    rw [List.append_assoc, ← List.drop_drop, List.drop_left, List.append_assoc, List.drop_left' (four_len _), show a + ((varN t.size).length + 4) + t.size - (a + ((varN t.size).length + 4)) = t.size by omega, List.take_left' (bs_length t)]
  unfold next
  rw [hr]
  simp only
  rw [h1, h2, if_pos ⟨ht.1, ht.2, by omega, rfl⟩, hfl]
  congr 2
  omega
theorem next_part {s : ByteArray} {a j : Nat} {t : ByteArray} (ht : okText t) (ha : a ≤ s.size) (h : (bs s).drop a = (frameL t).take j) (hj : j < (frameL t).length) : next s a = none := by
  have hl := congrArg List.length h
  rw [List.length_drop, bs_length, List.length_take] at hl
  have hfl := frameL_len t
  have h5 := varN_len5 (n := t.size) (by have := ht.2; omega)
  by_cases hc : j < (varN t.size).length
  · have e : (frameL t).take j = (varN t.size).take j := by
      unfold frameL
      rw [List.take_append_of_le_length (by omega)]
    have hr : readN ((bs s).drop a) = none := by
      rw [h, e]
      have hlen : ((varN t.size).take j).length = j := by rw [List.length_take]; omega
      refine rd_end (t := j) (by omega) hlen.symm ?_
      intro x hx
      rw [List.take_of_length_le (by omega)] at hx
      exact varN_high t.size j hc x hx
    unfold next
    rw [hr]
  · have e : (frameL t).take j = varN t.size ++ (four (sumT t) ++ bs t).take (j - (varN t.size).length) := by
      unfold frameL
      rw [List.take_append, List.take_of_length_le (l := varN t.size) (by omega)]
    have hr : readN ((bs s).drop a) = some (t.size, (varN t.size).length) := by
      rw [h, e]
      exact readN_varN t.size (by have := ht.2; omega) _
    unfold next
    rw [hr]
    simp only
    rw [if_neg (by omega)]
/-- of a file of frames, cut behind j bytes: just the whole ones -/
theorem unfr_files : ∀ (ts : List ByteArray) (s : ByteArray) (acc : List ByteArray) (a j : Nat), (∀ t ∈ ts, okText t) → a ≤ s.size → (bs s).drop a = (filesL ts).take j → j ≤ (filesL ts).length →
    ∃ m, m ≤ ts.length ∧ unfr s acc a = (acc ++ ts.take m, a + (filesL (ts.take m)).length) ∧ (filesL (ts.take m)).length ≤ j ∧ (m = ts.length ∨ j < (filesL (ts.take (m + 1))).length)
  | [], s, acc, a, j, _, ha, h, _ => by
    have hl := congrArg List.length h
    rw [List.length_drop, bs_length] at hl
    simp only [filesL, List.flatMap_nil, List.take_nil, List.length_nil] at hl
    refine ⟨0, Nat.le_refl _, ?_, by simp [filesL], Or.inl rfl⟩
    rw [unfr_none (next_end (by omega))]
    simp [filesL]
  | t :: ts, s, acc, a, j, hok, ha, h, hj => by
    have ht := hok t (by simp)
    rw [filesL_cons] at h hj
    by_cases hc : (frameL t).length ≤ j
    · rw [List.take_append, List.take_of_length_le hc] at h
      have hn := next_full ht h
      have h2 := next_lt hn
      have hd : (bs s).drop (a + (frameL t).length) = (filesL ts).take (j - (frameL t).length) := by
        rw [← List.drop_drop, h, List.drop_left]
      rw [List.length_append] at hj
      obtain ⟨m, h3, h4, h5, h6⟩ := unfr_files ts s (acc ++ [t]) (a + (frameL t).length) (j - (frameL t).length) (fun u hu => hok u (by simp [hu])) h2.2 hd (by omega)
      refine ⟨m + 1, by simp; omega, ?_, ?_, ?_⟩
      · rw [unfr_some hn, h4, List.take_succ_cons, filesL_cons, List.length_append]
        simp only [List.append_assoc, List.singleton_append]
        congr 1; omega
      · rw [List.take_succ_cons, filesL_cons, List.length_append]; omega
      · rcases h6 with h6 | h6
        · exact Or.inl (by rw [List.length_cons]; omega)
        · refine Or.inr ?_
          rw [List.take_succ_cons, filesL_cons, List.length_append]; omega
    · have e : (frameL t ++ filesL ts).take j = (frameL t).take j := by rw [List.take_append_of_le_length (by omega)]
      rw [e] at h
      refine ⟨0, by simp, ?_, by simp [filesL], Or.inr ?_⟩
      · rw [unfr_none (next_part ht ha h (by omega))]
        simp [filesL]
      · rw [List.take_succ_cons, List.take_zero, filesL_cons, List.length_append]; omega
theorem filesL_take_le (ts : List ByteArray) (m : Nat) : (filesL (ts.take m)).length ≤ (filesL ts).length := by
  have := congrArg (fun l => (filesL l).length) (List.take_append_drop m ts)
  simp only [filesL, List.flatMap_append, List.length_append] at this ⊢
  omega
/-- a file of frames, whole -/
theorem unfr_whole (ts : List ByteArray) (s : ByteArray) (hok : ∀ t ∈ ts, okText t) (h : bs s = filesL ts) : unfr s [] 0 = (ts, s.size) := by
  have hs : s.size = (filesL ts).length := by rw [← bs_length, h]
  obtain ⟨m, h1, h2, h3, h4⟩ := unfr_files ts s [] 0 (filesL ts).length hok (by omega) (by rw [List.drop_zero, List.take_length]; exact h) (Nat.le_refl _)
  have hm : m = ts.length := by
    rcases h4 with h4 | h4
    · exact h4
    · have := filesL_take_le ts (m + 1); omega
  rw [h2, hm, List.take_length, hs]
  simp
end Go.Proofs.Ytikneakpbnihnaa.Gen
