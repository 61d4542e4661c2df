/- Drawn records come back from their frames, and of frames that are cut anywhere just the whole ones do: for every draw. No condition. -/
import Derived.Test.YtikneakpbnihnaaUnfr
import Derived.Test.YtikneakpbnihnaaQFnFramesx4
namespace Go.Proofs.Ytikneakpbnihnaa.Pure
open Go.RowKit Go.Proofs.Ytikneakpbnihnaa.PFnFrames Go.Proofs.YtikneakpbnihnaaW.PrintWords Go.Proofs.YtikneakpbnihnaaW.PrintLast Go.Proofs.YtikneakpbnihnaaW.PrintMore Go.Proofs.Ytikneakpbnihnaa.Gen
set_option linter.unusedVariables false

theorem impl_within_ev (a b c : Int) : impl_within.f a b c = some (decide (b ≤ a ∧ a ≤ c)) := by
  unfold impl_within.f
  by_cases h : a ≥ b
  · rw [if_pos h]; congr 1; simp; omega
  · rw [if_neg h]; congr 1; simp; omega

theorem impl_VarText_l0 : ∀ (n : Nat), n < 9223372036854775808 → ∀ (xs : List Int), xs.length + (varN n).length ≤ 140737488355328 →
    Ev (fun k => impl_VarText.l0 k (n : Int) xs) (strOfNums (xs ++ (varN n).map Int.ofNat), true) := by
  intro n
  induction n using Nat.strongRecOn with
  | _ n ih =>
    intro hn xs hx
    refine Ev.step (impl_VarText.l0.eq_2 (n : Int) xs) ?_
    have hp := varN_pos n
    refine Ev.ite (fun h => ?_) (fun h => ?_)
    · have h' : n > 127 := by omega
      have e := varN_big h'
      rw [e, List.length_cons] at hx
      refine Ev.yes (by omega) ?_
      have e1 : wrap64 (Int.tdiv (n : Int) 128) = ((n / 128 : Nat) : Int) := by rw [td128, w64] <;> omega
      have e2 : wrap64 (Int.tmod (n : Int) 128 + 128) % 256 = ((n % 128 + 128 : Nat) : Int) := by rw [tm128, w64] <;> omega
      rw [e1, e2, e]
      have := ih (n / 128) (by omega) (by omega) (xs ++ [((n % 128 + 128 : Nat) : Int)]) (by simp; omega)
      simpa using this
    · have h' : ¬ n > 127 := by omega
      have e := varN_small h'
      rw [e] at hx ⊢
      simp at hx
      refine Ev.yes (by omega) (Ev.const ?_)
      rw [show (n : Int) % 256 = n by omega]
      rfl

/-- what VarText tells -/
def varOut (a : Int) : ByteArray × Bool := if 0 ≤ a ∧ a ≤ 1000000000 then (varT a.toNat, true) else (⟨#[]⟩, false)
theorem impl_VarText_ev (a : Int) : Ev (fun k => impl_VarText.f k a) (varOut a) := by
  unfold impl_VarText.f varOut
  rw [impl_within_ev]
  simp only [Option.bind_some, decide_eq_true_eq]
  refine Ev.ite (fun h => ?_) (fun h => ?_)
  · rw [if_pos h]
    obtain ⟨n, rfl⟩ := Int.eq_ofNat_of_zero_le h.1
    have := varN_len10 (n := n) (by omega)
    exact impl_VarText_l0 n (by omega) [] (by simp; omega)
  · rw [if_neg h]; exact Ev.now _

/-! impl_SumMore: what it computes -/
theorem impl_SumMore_l1 (a : ByteArray) (i : Int) (r : Int) : ∀ (m : Nat) (j : Int) (s : Nat), j + m = 8 → 0 ≤ j → s < 4294967296 → Ev (fun k => impl_SumMore.l0 k ((stepN m s : Nat) : Int) a (wrap64 (i + 1))) r →
    Ev (fun k => impl_SumMore.l1 k (s : Int) a i j) r := by
  intro m
  induction m with
  | zero =>
    intro j s hj h0 hs h
    refine Ev.step (impl_SumMore.l1.eq_2 (s : Int) a i j) ?_
    exact Ev.no (by omega) h
  | succ m ih =>
    intro j s hj h0 hs h
    refine Ev.step (impl_SumMore.l1.eq_2 (s : Int) a i j) ?_
    refine Ev.yes (by omega) ?_
    have ej : wrap64 (j + 1) = j + 1 := w64 (by omega) (by omega)
    have e1 := tm2 s
    have e2 : Int.tdiv (s : Int) 2 % 4294967296 = ((s / 2 : Nat) : Int) := by rw [td2]; omega
    rw [e1, e2, ej]
    refine Ev.ite (fun hc => ?_) (fun hc => ?_)
    · rw [show (3558460437 : Int) = ((3558460437 : Nat) : Int) from rfl, xor_u32 _ _ (by omega) (by omega)]
      refine ih (j + 1) _ (by omega) (by omega) (Nat.xor_lt_two_pow (n := 32) (by omega) (by omega)) ?_
      have e : step1 s = (s / 2) ^^^ 3558460437 := by unfold step1; rw [if_pos (by omega)]
      rw [stepN, e] at h; exact h
    · refine ih (j + 1) _ (by omega) (by omega) (by omega) ?_
      have e : step1 s = s / 2 := by unfold step1; rw [if_neg (by omega)]
      rw [stepN, e] at h; exact h
theorem impl_SumMore_l0 (a : ByteArray) (ha : a.size ≤ 140737488351232) : ∀ (d i : Nat) (s : Nat), i + d = a.size → s < 4294967296 →
    Ev (fun k => impl_SumMore.l0 k (s : Int) a (i : Int)) ((sumN s ((bs a).drop i) : Nat) : Int) := by
  intro d
  induction d with
  | zero =>
    intro i s hi hs
    refine Ev.step (impl_SumMore.l0.eq_2 (s : Int) a (i : Int)) ?_
    refine Ev.no (by omega) (Ev.const ?_)
    rw [List.drop_eq_nil_of_le (by rw [bs_length]; omega)]; rfl
  | succ d ih =>
    intro i s hi hs
    refine Ev.step (impl_SumMore.l0.eq_2 (s : Int) a (i : Int)) ?_
    refine Ev.yes (by omega) (Ev.yes (by omega) ?_)
    have hlt : i < (bs a).length := by rw [bs_length]; omega
    have eb : bt a i % 4294967296 = (((bs a)[i] : Nat) : Int) := by
      have h1 := bt_lo a i
      have h2 := bt_hi a i
      rw [bt_eq hlt] at *
      omega
    have hb := bs_lt a _ (List.getElem_mem hlt)
    rw [eb, xor_u32 _ _ hs (by omega), List.drop_eq_getElem_cons hlt, sumN_cons]
    have hx := xor_lt32 hs hb
    refine impl_SumMore_l1 a (i : Int) _ 8 0 _ (by omega) (by omega) hx ?_
    rw [w64 (by omega) (by omega)]
    exact ih (i + 1) _ (by omega) (stepN_lt 8 hx)
theorem impl_SumMore_f (s : Nat) (a : ByteArray) (hs : s < 4294967296) (ha : a.size ≤ 140737488351232) : Ev (fun k => impl_SumMore.f k (s : Int) a) ((sumN s (bs a) : Nat) : Int) := by
  have h := impl_SumMore_l0 a ha a.size 0 s (by omega) hs
  simpa [impl_SumMore.f] using h

theorem impl_SumOf_ev (a : ByteArray) (ha : a.size ≤ 140737488351232) : Ev (fun k => impl_SumOf.f k a) ((sumN 4294967295 (bs a) : Nat) : Int) := by
  unfold impl_SumOf.f
  exact Ev.bind (impl_SumMore_f 4294967295 a (by omega) ha) (Ev.now _)

theorem impl_SumOf_t (a : ByteArray) (ha : a.size ≤ 140737488351232) : Ev (fun k => impl_SumOf.f k a) ((sumT a : Nat) : Int) := impl_SumOf_ev a ha

theorem impl_sumText_ev (s : ByteArray) (hs : s.size ≤ 140737488351232) : Ev (fun k => impl_sumText.f k s) (fourT (sumT s)) := by
  unfold impl_sumText.f
  refine Ev.bind (impl_SumOf_t s hs) ?_
  rw [four_nums]
  exact Ev.now _

theorem impl_Frame_ev (s : ByteArray) (hs : s.size ≤ 140737488351232) : Ev (fun k => impl_Frame.f k s) (frameOut s) := by
  unfold impl_Frame.f frameOut
  rw [impl_within_ev]
  simp only [Option.bind_some, decide_eq_true_eq]
  refine Ev.ite (fun h => ?_) (fun h => ?_)
  · rw [if_pos h]
    have h5 := varN_len10 (n := s.size) (by omega)
    have e : varOut (s.size : Int) = (varT s.size, true) := by unfold varOut; rw [if_pos (by omega)]; rfl
    refine Ev.bind (impl_VarText_ev s.size) ?_
    rw [e]
    refine Ev.bind (impl_sumText_ev s hs) ?_
    exact Ev.yes (by simp only [fourT_size, varT_size]; omega) (Ev.yes (by simp only [size_append, fourT_size, varT_size]; omega) (Ev.now _))
  · rw [if_neg h]; exact Ev.now _

theorem impl_ReadVar_l0 (s : ByteArray) (hs : s.size ≤ 140737488351232) (a : Nat) (ha : a ≤ s.size) (L : List Nat) (hL : L = (bs s).drop a) : ∀ (m t : Nat), t + m = 5 → t ≤ L.length → (∀ x ∈ L.take t, 128 ≤ x) →
    Ev (fun k => impl_ReadVar.l0 k s (a : Int) ((val (L.take t) : Nat) : Int) (t : Int)) (readOut s a) := by
  have hlen : L.length = s.size - a := by rw [hL, List.length_drop, bs_length]
  have hb : ∀ x ∈ L, x < 256 := fun x hx => bs_lt s x (List.mem_of_mem_drop (hL ▸ hx))
  have hout : readOut s a = (match readN L with | none => (0, 0, false) | some (n, len) => ((n : Int), (a : Int) + len, true)) := by
    unfold readOut; rw [if_pos (by omega), Int.toNat_natCast, ← hL]; rfl
  have hget : ∀ t (h : t < L.length), bt s ((a + t : Nat) : Int) = ((L[t] : Nat) : Int) := by
    intro t h
    subst hL
    rw [bt_eq (by rw [bs_length]; omega)]
    simp
  intro m
  induction m with
  | zero =>
    intro t ht hl hP
    obtain rfl : t = 5 := by omega
    rw [hout, rd_five hl hP]
    refine Ev.step (impl_ReadVar.l0.eq_2 _ _ _ _) ?_
    refine Ev.no (by omega) ?_
    refine Ev.step (impl_ReadVar.j1.eq_2 _ _ _ _ _) ?_
    exact Ev.no (by simp) (Ev.now _)
  | succ m ih =>
    intro t ht hl hP
    refine Ev.step (impl_ReadVar.l0.eq_2 _ _ _ _) ?_
    refine Ev.yes (by omega) ?_
    refine Ev.step (impl_ReadVar.j1.eq_2 _ _ _ _ _) ?_
    have hat : wrap64 ((a : Int) + (t : Int)) = ((a + t : Nat) : Int) := by rw [w64 (by omega) (by omega)]; omega
    have h7 : wrap64 (7 * (t : Int)) = ((7 * t : Nat) : Int) := by rw [w64 (by omega) (by omega)]; omega
    rw [hat, h7]
    by_cases hlt : t < L.length
    · refine Ev.yes (by simp; omega) ?_
      refine Ev.yes (by omega) (Ev.yes (by omega) (Ev.yes (by omega) ?_))
      have hc := hb _ (List.getElem_mem hlt)
      have k1 : t < 5 := by omega
      have k2 : t + 1 + m = 5 := by omega
      rw [hget t hlt, w64 (x := ((L[t] : Nat) : Int)) (by omega) (by omega), tm128, scale_shl _ k1, acc_next k1 hlt]
      have hq1 : wrap64 (((a + t : Nat) : Int) + 1) = ((a + (t + 1) : Nat) : Int) := by rw [w64 (by omega) (by omega)]; omega
      rw [hq1]
      refine Ev.ite (fun h => ?_) (fun h => ?_)
      · have e5 : wrap64 ((t : Int) + 1) = ((t + 1 : Nat) : Int) := by rw [w64 (by omega) (by omega)]; omega
        rw [e5]
        refine ih (t + 1) k2 hlt ?_
        rw [take_next hlt]
        intro x hx
        rcases List.mem_append.1 hx with hx | hx
        · exact hP x hx
        · have := List.mem_singleton.1 hx; omega
      · have h' : L[t] < 128 := by omega
        have hd := readN_done k1 hlt hP h'
        rw [tight_next hlt] at hd
        rw [hout, hd]
        refine Ev.ite (fun h0 => ?_) (fun h0 => ?_)
        · refine Ev.ite (fun h1 => ?_) (fun h1 => ?_)
          · rw [if_neg (by intro hh; simp at hh; omega)]; exact Ev.now _
          · refine Ev.ite (fun h2 => ?_) (fun h2 => ?_)
            · rw [if_neg (by omega)]; exact Ev.now _
            · rw [if_pos ⟨by simp; omega, by omega⟩]; exact Ev.const (by simp)
        · obtain rfl : t = 0 := by omega
          refine Ev.ite (fun h2 => ?_) (fun h2 => ?_)
          · rw [if_neg (by omega)]; exact Ev.now _
          · rw [if_pos ⟨by simp, by omega⟩]; refine Ev.const ?_; simp
    · refine Ev.no (by simp; omega) ?_
      rw [hout, rd_end (by omega) (by omega) hP]
      exact Ev.now _
theorem impl_ReadVar_ev (s : ByteArray) (a : Int) (hs : s.size ≤ 140737488351232) : Ev (fun k => impl_ReadVar.f k s a) (readOut s a) := by
  unfold impl_ReadVar.f
  rw [impl_within_ev]
  simp only [Option.bind_some, decide_eq_true_eq]
  refine Ev.ite (fun h => ?_) (fun h => ?_)
  · obtain ⟨n, rfl⟩ := Int.eq_ofNat_of_zero_le h.1
    exact impl_ReadVar_l0 s hs n (by omega) _ rfl 5 0 rfl (by omega) (by simp)
  · unfold readOut; rw [if_neg h]; exact Ev.now _

theorem impl_Unframe_l0 (s : ByteArray) (hs : s.size ≤ 140737488351232) : ∀ (d a : Nat) (acc : List ByteArray), a + d = s.size → a ≤ 20000 → acc.length ≤ a → s.size ≤ 20000 →
    Ev (fun k => impl_Unframe.l0 k s acc (a : Int)) ((unfr s acc a).1, ((unfr s acc a).2 : Int)) := by
  intro d
  induction d using Nat.strongRecOn with
  | _ d ih =>
    intro a acc hd ha2 hacc hsz
    have ha : a ≤ s.size := by omega
    refine Ev.step (impl_Unframe.l0.eq_2 s acc (a : Int)) ?_
    refine Ev.yes (by omega) ?_
    refine Ev.bind (impl_ReadVar_ev s a hs) ?_
    cases hr : readN ((bs s).drop a) with
    | none =>
      have hn : next s a = none := by unfold next; rw [hr]
      rw [readOut_none ha hr, unfr_none hn]
      refine Ev.no (show ¬ (false = true) by decide) ?_
      refine Ev.step (impl_Unframe.j1.eq_2 _ _ _ _ _ _) ?_
      exact Ev.yes rfl (Ev.now _)
    | some p =>
      obtain ⟨n, len⟩ := p
      have hl := readN_len hr
      rw [List.length_drop, bs_length] at hl
      rw [readOut_some ha hr]
      refine Ev.yes rfl ?_
      refine Ev.bindc (impl_within_ev _ _ _) ?_
      by_cases hc : 1 ≤ (n : Int) ∧ (n : Int) ≤ 9000
      · refine Ev.yes (decide_eq_true hc) ?_
        refine Ev.step (impl_Unframe.j1.eq_2 _ _ _ _ _ _) ?_
        rw [w64 (x := (s.size : Int) - ((a + len : Nat) : Int)) (by omega) (by omega), w64 (x := (n : Int) + 4) (by omega) (by omega)]
        refine Ev.ite (fun h => ?_) (fun h => ?_)
        · have h' : (n : Int) + 4 > (s.size : Int) - ((a + len : Nat) : Int) := by simpa using h
          have hn : next s a = none := by unfold next; rw [hr]; simp only; rw [if_neg (by omega)]
          rw [unfr_none hn]; exact Ev.now _
        · have h' : ¬ (n : Int) + 4 > (s.size : Int) - ((a + len : Nat) : Int) := by simpa using h
          have e1 : wrap64 (((a + len : Nat) : Int) + 4) = ((a + len + 4 : Nat) : Int) := by rw [w64 (by omega) (by omega)]; omega
          have e2 : wrap64 (((a + len + 4 : Nat) : Int) + (n : Int)) = ((a + len + 4 + n : Nat) : Int) := by rw [w64 (by omega) (by omega)]; omega
          have k1 : a + len + 4 + n ≤ s.size := by omega
          rw [e1, e2]
          refine Ev.yes (by omega) (Ev.yes (by omega) (Ev.yes (by omega) ?_))
          simp only [Int.toNat_natCast]
          obtain ⟨t, ht⟩ : ∃ t, t = s.extract (a + len + 4) (a + len + 4 + n) := ⟨_, rfl⟩
          have hts : t.size = n := by rw [ht, size_extract _ _ _ k1]; omega
          rw [← ht]
          refine Ev.bind (impl_sumText_ev t (by omega)) ?_
          refine Ev.yes (by omega) (Ev.yes (by omega) (Ev.yes (by omega) ?_))
          simp only [toList_iff]
          refine Ev.ite (fun h3 => ?_) (fun h3 => ?_)
          · have hn : next s a = some (t, a + len + 4 + n) := by
              unfold next; rw [hr]; simp only; rw [← ht, if_pos ⟨by omega, by omega, k1, h3⟩]
            rw [unfr_some hn]
            refine Ev.yes (by omega) ?_
            exact ih (s.size - (a + len + 4 + n)) (by omega) (a + len + 4 + n) (acc ++ [t]) (by omega) (by omega) (by rw [List.length_append, List.length_singleton]; omega) hsz
          · have hn : next s a = none := by
              unfold next; rw [hr]; simp only; rw [← ht, if_neg (fun h4 => h3 h4.2.2.2)]
            rw [unfr_none hn]; exact Ev.now _
      · refine Ev.no (by rw [decide_eq_true_eq]; exact hc) ?_
        refine Ev.step (impl_Unframe.j1.eq_2 _ _ _ _ _ _) ?_
        have hn : next s a = none := by unfold next; rw [hr]; simp only; rw [if_neg (by omega)]
        rw [unfr_none hn]
        exact Ev.yes rfl (Ev.now _)
theorem impl_Unframe_ev (s : ByteArray) (hs : s.size ≤ 140737488351232) : Ev (fun k => impl_Unframe.f k s) (unfrOut s) := by
  unfold impl_Unframe.f unfrOut
  by_cases h : (s.size : Int) ≤ 20000
  · rw [if_pos h]
    exact impl_Unframe_l0 s hs s.size 0 [] (by omega) (by omega) (by simp) (by omega)
  · rw [if_neg h]
    refine Ev.step (impl_Unframe.l0.eq_2 s [] 0) ?_
    exact Ev.no h (Ev.now _)

theorem laws_sameTexts_l0 : ∀ (d i : Nat) (xs : List ByteArray), i + d = xs.length → xs.length ≤ 140737488351232 → Ev (fun k => laws_sameTexts.l0 k xs xs (i : Int)) true := by
  intro d
  induction d with
  | zero =>
    intro i xs hi hx
    refine Ev.step (laws_sameTexts.l0.eq_2 xs xs (i : Int)) ?_
    exact Ev.no (by omega) (Ev.now _)
  | succ d ih =>
    intro i xs hi hx
    refine Ev.step (laws_sameTexts.l0.eq_2 xs xs (i : Int)) ?_
    refine Ev.yes (by omega) (Ev.yes (by omega) (Ev.yes (by omega) (Ev.yes rfl ?_)))
    rw [w64 (by omega) (by omega)]
    exact ih (i + 1) xs (by omega) hx
theorem laws_sameTexts_ev (xs : List ByteArray) (hx : xs.length ≤ 140737488351232) : Ev (fun k => laws_sameTexts.f k xs xs) true := by
  unfold laws_sameTexts.f
  exact Ev.yes rfl (laws_sameTexts_l0 xs.length 0 xs (by omega) hx)

/-! the reader of draws: whatever it tells, it is in its range -/
theorem spec_l01Byte_ev (b : List Int) (i h : Int) (hb : b.length ≤ 140737488351232) (hi : 0 ≤ i) : ∃ r i' h', spec_l01Byte.f b i h = some (r, i', h') ∧ (0 ≤ r ∧ r ≤ 255) ∧ 0 ≤ i' := by
  unfold spec_l01Byte.f
  by_cases hc : i < (b.length : Int)
  · rw [if_pos hc, if_pos hi, w64 (x := i + 1) (by omega) (by omega)]
    exact ⟨_, _, _, rfl, and_255 _, by omega⟩
  · rw [if_neg hc]
    exact ⟨_, _, _, rfl, and_255 _, hi⟩
theorem spec_l01Below_ev (b : List Int) (i h n : Int) (hb : b.length ≤ 140737488351232) (hi : 0 ≤ i) (hn : n ≤ 4294967296) : ∃ r i' h', spec_l01Below.f b i h n = some (r, i', h') ∧ (0 ≤ r ∧ (r < n ∨ n ≤ 0 ∧ r = 0)) ∧ 0 ≤ i' := by
  unfold spec_l01Below.f
  by_cases h0 : n ≤ 0
  · rw [if_pos h0]; exact ⟨_, _, _, rfl, ⟨by omega, Or.inr ⟨h0, rfl⟩⟩, hi⟩
  rw [if_neg h0]
  by_cases h1 : n ≤ 256
  · rw [if_pos h1]
    obtain ⟨r, i1, g1, e1, r1, j1⟩ := spec_l01Byte_ev b i h hb hi
    rw [e1]
    simp only [Option.bind_some]
    rw [if_neg (by omega)]
    have := tmod_range r n r1.1 (by omega)
    exact ⟨_, _, _, rfl, ⟨this.1, Or.inl this.2⟩, j1⟩
  · rw [if_neg h1]
    obtain ⟨x1, i1, g1, e1, r1, j1⟩ := spec_l01Byte_ev b i h hb hi
    obtain ⟨x2, i2, g2, e2, r2, j2⟩ := spec_l01Byte_ev b i1 g1 hb j1
    obtain ⟨x3, i3, g3, e3, r3, j3⟩ := spec_l01Byte_ev b i2 g2 hb j2
    obtain ⟨x4, i4, g4, e4, r4, j4⟩ := spec_l01Byte_ev b i3 g3 hb j3
    rw [e1]; simp only [Option.bind_some]
    rw [e2]; simp only [Option.bind_some]
    rw [e3]; simp only [Option.bind_some]
    rw [e4]; simp only [Option.bind_some]
    rw [if_neg (by omega)]
    have ew : 0 ≤ wrap64 ((wrap64 ((wrap64 ((wrap64 (x1 * 16777216)) + (wrap64 (x2 * 65536)))) + (wrap64 (x3 * 256)))) + x4) := by
      rw [w64 (x := x1 * 16777216) (by omega) (by omega), w64 (x := x2 * 65536) (by omega) (by omega), w64 (x := x3 * 256) (by omega) (by omega), w64 (x := x1 * 16777216 + x2 * 65536) (by omega) (by omega), w64 (x := x1 * 16777216 + x2 * 65536 + x3 * 256) (by omega) (by omega), w64 (by omega) (by omega)]
      omega
    have := tmod_range _ n ew (by omega)
    exact ⟨_, _, _, rfl, ⟨this.1, Or.inl this.2⟩, j4⟩
theorem spec_l01New_l0 (l : List Int) (hl : l.length ≤ 140737488351232) : ∀ (d : Nat) (i h : Int), 0 ≤ i → (l.length : Int) - i ≤ d → ∃ h', Ev (fun k => spec_l01New.l0 k l h i) (l, 0, h') := by
  intro d
  induction d with
  | zero =>
    intro i h h0 hd
    exact ⟨h, Ev.step (spec_l01New.l0.eq_2 l h i) (Ev.no (by omega) (Ev.now _))⟩
  | succ d ih =>
    intro i h h0 hd
    by_cases h1 : i < (l.length : Int)
    · by_cases h2 : i < 4000
      · obtain ⟨h', e⟩ := ih (i + 1) (Go.bits .and .i64 (wrap64 ((wrap64 ((wrap64 (h * 131)) + (wrap64 (rd l i)))) + 7)) 1073741823) (by omega) (by omega)
        refine ⟨h', Ev.step (spec_l01New.l0.eq_2 l h i) (Ev.yes h1 (Ev.yes h2 (Ev.yes h0 ?_)))⟩
        rw [w64 (x := i + 1) (by omega) (by omega)]
        exact e
      · exact ⟨h, Ev.step (spec_l01New.l0.eq_2 l h i) (Ev.yes h1 (Ev.no h2 (Ev.now _)))⟩
    · exact ⟨h, Ev.step (spec_l01New.l0.eq_2 l h i) (Ev.no h1 (Ev.now _))⟩
theorem spec_l01New_ev (l : List Int) (hl : l.length ≤ 140737488351232) : ∃ h, Ev (fun k => spec_l01New.f k l) (l, 0, h) := by
  obtain ⟨h, e⟩ := spec_l01New_l0 l hl l.length 0 (wrap64 (35201 + (l.length : Int))) (by omega) (by omega)
  exact ⟨h, e⟩

theorem spec_DrawPlaces_l0 (b : List Int) (hb : b.length ≤ 140737488351232) : ∀ (d : Nat) (j : Int) (xs : List Int) (i h : Int), j + d = 12 → 0 ≤ j → 0 ≤ i → (xs.length : Int) = j → (∀ x ∈ xs, 0 ≤ x ∧ x < 10000) →
    ∃ ps : List Int, Ev (fun k => spec_DrawPlaces.l0 k xs j b i h) ps ∧ ps.length = 12 ∧ ∀ x ∈ ps, 0 ≤ x ∧ x < 10000 := by
  intro d
  induction d with
  | zero =>
    intro j xs i h hj h0 hi hx hr
    exact ⟨xs, Ev.step (spec_DrawPlaces.l0.eq_2 xs j b i h) (Ev.no (by omega) (Ev.now _)), by omega, hr⟩
  | succ d ih =>
    intro j xs i h hj h0 hi hx hr
    obtain ⟨r, i1, h1, e1, r1, j1⟩ := spec_l01Below_ev b i h 10000 hb hi (by omega)
    obtain ⟨ps, e, hl, hp⟩ := ih (j + 1) (xs ++ [r]) i1 h1 (by omega) (by omega) j1 (by rw [List.length_append, List.length_singleton]; omega) (by
      intro x hx'
      rcases List.mem_append.1 hx' with hx' | hx'
      · exact hr x hx'
      · have := List.mem_singleton.1 hx'; omega)
    refine ⟨ps, Ev.step (spec_DrawPlaces.l0.eq_2 xs j b i h) (Ev.yes (by omega) (Ev.bindc e1 (Ev.yes (by omega) ?_))), hl, hp⟩
    rw [w64 (x := j + 1) (by omega) (by omega)]
    exact e
theorem spec_DrawPlaces_ev (l : List Int) (hl : l.length ≤ 140737488351232) : ∃ ps : List Int, Ev (fun k => spec_DrawPlaces.f k l) ps ∧ ps.length = 12 ∧ ∀ x ∈ ps, 0 ≤ x ∧ x < 10000 := by
  obtain ⟨h, e⟩ := spec_l01New_ev l hl
  obtain ⟨r, i1, h1, e1, -, j1⟩ := spec_l01Byte_ev l 0 h hl (by omega)
  obtain ⟨ps, e2, h2, h3⟩ := spec_DrawPlaces_l0 l hl 12 0 [] i1 h1 (by omega) (by omega) j1 rfl (by simp)
  exact ⟨ps, Ev.bind e (Ev.bindc e1 e2), h2, h3⟩

theorem spec_l01Text_l0 (n : Int) (hn : n ≤ 5000) (b : List Int) (hb : b.length ≤ 140737488351232) : ∀ (d : Nat) (j : Int) (xs : List Int) (i h : Int), n - j ≤ d → 0 ≤ j → 0 ≤ i → (xs.length : Int) ≤ j → xs.length ≤ 5000 →
    ∃ t i' h', Ev (fun k => spec_l01Text.l0 k n xs j b i h) (t, i', h') ∧ t.size ≤ 5000 ∧ ((xs.length : Int) = j → j ≤ n → (t.size : Int) = n) ∧ 0 ≤ i' := by
  intro d
  induction d with
  | zero =>
    intro j xs i h hd h0 hi hx hx5
    exact ⟨_, _, _, Ev.step (spec_l01Text.l0.eq_2 n xs j b i h) (Ev.no (by omega) (Ev.now _)), by rw [size_nums]; exact hx5, by rw [size_nums]; omega, hi⟩
  | succ d ih =>
    intro j xs i h hd h0 hi hx hx5
    by_cases hc : j < n
    · obtain ⟨r, i1, h1, e1, r1, j1⟩ := spec_l01Byte_ev b i h hb hi
      obtain ⟨t, i2, h2, e, ht, ht2, hi2⟩ := ih (j + 1) (xs ++ [r % 256]) i1 h1 (by omega) (by omega) j1 (by rw [List.length_append, List.length_singleton]; omega) (by rw [List.length_append, List.length_singleton]; omega)
      refine ⟨t, i2, h2, Ev.step (spec_l01Text.l0.eq_2 n xs j b i h) (Ev.yes hc (Ev.bindc e1 (Ev.yes (by omega) ?_))), ht, ?_, hi2⟩
      · rw [w64 (x := j + 1) (by omega) (by omega)]
        exact e
      · intro h3 h4
        exact ht2 (by rw [List.length_append, List.length_singleton]; omega) (by omega)
    · exact ⟨_, _, _, Ev.step (spec_l01Text.l0.eq_2 n xs j b i h) (Ev.no hc (Ev.now _)), by rw [size_nums]; exact hx5, by rw [size_nums]; omega, hi⟩
theorem spec_l01Text_ev (n : Int) (b : List Int) (i h : Int) (hb : b.length ≤ 140737488351232) (hi : 0 ≤ i) (hn : n ≤ 1000000) :
    ∃ t i' h', Ev (fun k => spec_l01Text.f k b i h n) (t, i', h') ∧ t.size ≤ 5000 ∧ (0 ≤ n → n ≤ 5000 → (t.size : Int) = n) ∧ 0 ≤ i' := by
  unfold spec_l01Text.f
  by_cases hc : n > 5000
  · obtain ⟨t, i2, h2, e, ht, ht2, hi2⟩ := spec_l01Text_l0 5000 (by omega) b hb 5000 0 [] i h (by omega) (by omega) hi (by simp) (by simp)
    exact ⟨t, i2, h2, Ev.yes hc (Ev.step (spec_l01Text.j0.eq_2 _ b i h) e), ht, by omega, hi2⟩
  · obtain ⟨t, i2, h2, e, ht, ht2, hi2⟩ := spec_l01Text_l0 n (by omega) b hb 5000 0 [] i h (by omega) (by omega) hi (by simp) (by simp)
    exact ⟨t, i2, h2, Ev.no hc (Ev.step (spec_l01Text.j0.eq_2 _ b i h) e), ht, fun h3 _ => ht2 rfl h3, hi2⟩

theorem spec_l01Long_l0 (n x : Int) : ∀ (d : Nat) (j : Int) (xs : List Int), j + d = n → 0 ≤ j → n ≤ 1000000 → (xs.length : Int) = n → ∃ t : ByteArray, Ev (fun k => spec_l01Long.l0 k n x xs j) t ∧ (t.size : Int) = n := by
  intro d
  induction d with
  | zero =>
    intro j xs hj h0 hn hx
    exact ⟨_, Ev.step (spec_l01Long.l0.eq_2 n x xs j) (Ev.no (by omega) (Ev.now _)), by rw [size_nums]; exact hx⟩
  | succ d ih =>
    intro j xs hj h0 hn hx
    obtain ⟨t, e, ht⟩ := ih (j + 1) (xs.set j.toNat x) (by omega) (by omega) hn (by rw [List.length_set]; exact hx)
    refine ⟨t, Ev.step (spec_l01Long.l0.eq_2 n x xs j) (Ev.yes (by omega) (Ev.yes h0 (Ev.yes (by omega) ?_))), ht⟩
    rw [w64 (x := j + 1) (by omega) (by omega)]
    exact e
theorem spec_l01Long_ev (n x : Int) (h0 : 0 ≤ n) (hn : n ≤ 1000000) : ∃ t : ByteArray, Ev (fun k => spec_l01Long.f k n x) t ∧ (t.size : Int) = n := by
  unfold spec_l01Long.f
  obtain ⟨t, e, ht⟩ := spec_l01Long_l0 n x n.toNat 0 (List.replicate n.toNat 0) (by omega) (by omega) hn (by rw [List.length_replicate]; omega)
  exact ⟨t, Ev.yes h0 (Ev.yes (by omega) e), ht⟩
theorem spec_l01Once_ev (b : List Int) (i h n : Int) (hb : b.length ≤ 140737488351232) (hi : 0 ≤ i) (hn : n ≤ 4294967296) : ∃ r i' h', spec_l01Once.f b i h n = some (r, i', h') ∧ 0 ≤ i' := by
  obtain ⟨r, i1, h1, e1, -, j1⟩ := spec_l01Below_ev b i h n hb hi hn
  unfold spec_l01Once.f
  rw [e1]
  exact ⟨_, _, _, rfl, j1⟩

theorem spec_DrawHex_ev (l : List Int) (hl : l.length ≤ 140737488351232) : ∃ t : ByteArray, Ev (fun k => spec_DrawHex.f k l) t ∧ t.size ≤ 20001 := by
  obtain ⟨h, e⟩ := spec_l01New_ev l hl
  obtain ⟨o, i1, h1, e1, j1⟩ := spec_l01Once_ev l 0 h 60 hl (by omega) (by omega)
  cases o with
  | true =>
    obtain ⟨r, i2, h2, e2, r2, j2⟩ := spec_l01Below_ev l i1 h1 2 hl j1 (by omega)
    obtain ⟨t, e3, h3⟩ := spec_l01Long_ev (20000 + r) 200 (by omega) (by omega)
    refine ⟨t, Ev.bind e (Ev.bindc e1 (Ev.yes rfl (Ev.bindc e2 ?_))), by omega⟩
    simp only
    rw [w64 (x := 20000 + r) (by omega) (by omega)]
    exact Ev.bind e3 (Ev.now _)
  | false =>
    obtain ⟨r, i2, h2, e2, r2, j2⟩ := spec_l01Below_ev l i1 h1 30 hl j1 (by omega)
    obtain ⟨t, i3, h3, e3, ht, -, -⟩ := spec_l01Text_ev r l i2 h2 hl j2 (by omega)
    exact ⟨t, Ev.bind e (Ev.bindc e1 (Ev.no (show ¬ (false = true) by decide) (Ev.bindc e2 (Ev.bind e3 (Ev.now _))))), by omega⟩

theorem frameOut_ok {t : ByteArray} (h : okText t) : frameOut t = (frameT t, true) := by
  unfold frameOut frameT
  have := h.1
  have := h.2
  rw [if_pos (by omega)]
theorem frameT_size {t : ByteArray} (h1 : t.size ≤ 900) : (frameT t).size ≤ 909 := by
  rw [← bs_length, bs_frameT, frameL_len]
  have := varN_len5 (n := t.size) (by omega)
  omega
/-- the cut file -/
theorem law_cut (ps : List Int) (hp : ps.length = 12) (hr : ∀ x ∈ ps, 0 ≤ x ∧ x < 10000) (ts : List ByteArray) (hts : ts.length = 3) (file : ByteArray) (hsz : file.size ≤ 2727) (A : Nat → Nat)
    (hA0 : A 0 = 0) (hA3 : A 3 = file.size) (hcut : ∀ k, k ≤ file.size → ∃ m, m ≤ 3 ∧ unfrOut (file.extract 0 k) = (ts.take m, (A m : Int)) ∧ A m ≤ k ∧ (m = 3 ∨ k < A (m + 1))) :
    Ev (fun k => laws_FnFrames.j3 k ps ts file [0, (A 1 : Int), (A 2 : Int), (file.size : Int)] false) true := by
  refine Ev.step (laws_FnFrames.j3.eq_2 _ _ _ _ _) (Ev.no (by decide) (Ev.yes (by omega) ?_))
  rw [w64 (x := (file.size : Int) + 1) (by omega) (by omega)]
  refine Ev.no (by omega) ?_
  have hp0 : 0 ≤ rd ps 0 := by
    unfold rd
    rw [List.getD_eq_getElem?_getD, List.getElem?_eq_getElem (by simp; omega)]
    exact (hr _ (List.getElem_mem _)).1
  have hk := tmod_range (rd ps 0) ((file.size : Int) + 1) hp0 (by omega)
  generalize Int.tmod (rd ps 0) ((file.size : Int) + 1) = kk at hk ⊢
  obtain ⟨k, rfl⟩ := Int.eq_ofNat_of_zero_le hk.1
  refine Ev.yes hk.1 (Ev.yes (by omega) ?_)
  rw [Int.toNat_natCast]
  obtain ⟨m, m1, m2, m3, m4⟩ := hcut k (by omega)
  have hcs : (file.extract 0 k).size = k := by rw [size_extract _ _ _ (by omega)]; omega
  refine Ev.bind (impl_Unframe_ev _ (by omega)) ?_
  rw [m2]
  have hlen : (ts.take m).length = m := by rw [List.length_take]; omega
  have hends : ∀ j : Nat, j ≤ 3 → rd [0, (A 1 : Int), (A 2 : Int), (file.size : Int)] (j : Int) = (A j : Int) := by
    intro j hj
    rcases (by omega : j = 0 ∨ j = 1 ∨ j = 2 ∨ j = 3) with rfl | rfl | rfl | rfl
    · rw [hA0]; rfl
    · rfl
    · rfl
    · rw [hA3]; rfl
  simp only [hlen]
  refine Ev.yes (by omega) (Ev.yes (by omega) (Ev.yes (by simp only [List.length_cons, List.length_nil]; omega) ?_))
  rw [hends m m1]
  refine Ev.yes rfl (Ev.yes (by omega) (Ev.yes (by omega) ?_))
  rw [Int.toNat_natCast]
  refine Ev.bind (laws_sameTexts_ev _ (by rw [hlen]; omega)) (Ev.yes rfl ?_)
  refine Ev.ite (fun _ => Ev.now _) (fun h3 => ?_)
  have hm3 : m + 1 ≤ 3 := by omega
  have hm4 : k < A (m + 1) := by omega
  have ew : wrap64 ((m : Int) + 1) = ((m + 1 : Nat) : Int) := by rw [w64 (by omega) (by omega)]; omega
  rw [ew, hends (m + 1) hm3]
  clear ew hends m4
  refine Ev.yes (by omega) (Ev.yes (by simp only [List.length_cons, List.length_nil]; omega) (Ev.const ?_))
  congr 1
  exact decide_eq_true (by omega)
/-- behind the records' choice -/
theorem law_l0 (ps : List Int) (hp : ps.length = 12) (hr : ∀ x ∈ ps, 0 ≤ x ∧ x < 10000) (t0 t1 t2 : ByteArray) (h0 : okText t0) (h1 : okText t1) (h2 : okText t2) (b0 : t0.size ≤ 900) (b1 : t1.size ≤ 900) (b2 : t2.size ≤ 900) :
    Ev (fun k => laws_FnFrames.l0 k ps [t0, t1, t2] (⟨#[]⟩ : ByteArray) [0] 0) true := by
  have z0 := frameT_size b0
  have z1 := frameT_size b1
  have z2 := frameT_size b2
  have ze : (⟨#[]⟩ : ByteArray).size = 0 := rfl
  -- three rounds
  refine Ev.step (laws_FnFrames.l0.eq_2 _ _ _ _ _) (Ev.yes (by simp) (Ev.yes (by decide) (Ev.bind (impl_Frame_ev _ (by show t0.size ≤ _; omega)) ?_)))
  rw [show rdOf ByteArray.empty [t0, t1, t2] 0 = t0 from rfl, frameOut_ok h0]
  refine Ev.yes rfl (Ev.yes (by rw [ze]; show 0 + (frameT t0).size ≤ _; omega) (Ev.yes (by simp) ?_))
  rw [w64 (x := (0 : Int) + 1) (by omega) (by omega)]
  refine Ev.step (laws_FnFrames.l0.eq_2 _ _ _ _ _) (Ev.yes (by simp) (Ev.yes (by decide) (Ev.bind (impl_Frame_ev _ (by show t1.size ≤ _; omega)) ?_)))
  rw [show rdOf ByteArray.empty [t0, t1, t2] (0 + 1) = t1 from rfl, frameOut_ok h1]
  refine Ev.yes rfl (Ev.yes (by show (_ ++ frameT t0).size + (frameT t1).size ≤ _; rw [size_append, ze]; omega) (Ev.yes (by simp) ?_))
  rw [w64 (x := (0 : Int) + 1 + 1) (by omega) (by omega)]
  refine Ev.step (laws_FnFrames.l0.eq_2 _ _ _ _ _) (Ev.yes (by simp) (Ev.yes (by decide) (Ev.bind (impl_Frame_ev _ (by show t2.size ≤ _; omega)) ?_)))
  rw [show rdOf ByteArray.empty [t0, t1, t2] (0 + 1 + 1) = t2 from rfl, frameOut_ok h2]
  refine Ev.yes rfl (Ev.yes (by show ((_ ++ frameT t0) ++ frameT t1).size + (frameT t2).size ≤ _; rw [size_append, size_append, ze]; omega) (Ev.yes (by simp) ?_))
  rw [w64 (x := (0 : Int) + 1 + 1 + 1) (by omega) (by omega)]
  refine Ev.step (laws_FnFrames.l0.eq_2 _ _ _ _ _) (Ev.no (by simp) ?_)
  simp only
  -- the file
  obtain ⟨file, hf⟩ : ∃ f, f = (⟨#[]⟩ : ByteArray) ++ frameT t0 ++ frameT t1 ++ frameT t2 := ⟨_, rfl⟩
  have e1 : ((⟨#[]⟩ : ByteArray) ++ frameT t0).size = (filesL ([t0, t1, t2].take 1)).length := by
    rw [size_append, ze, ← bs_length, bs_frameT]; simp [filesL]
  have e2 : ((⟨#[]⟩ : ByteArray) ++ frameT t0 ++ frameT t1).size = (filesL ([t0, t1, t2].take 2)).length := by
    rw [size_append, size_append, ze, ← bs_length (frameT t0), ← bs_length (frameT t1), bs_frameT, bs_frameT]; simp [filesL]
  have hbf : bs file = filesL [t0, t1, t2] := by
    rw [hf, bs_append, bs_append, bs_append, bs_empty, bs_frameT, bs_frameT, bs_frameT]; simp [filesL]
  have hsz : file.size ≤ 2727 := by rw [hf, size_append, size_append, size_append, ze]; omega
  clear z0 z1 z2
  rw [← hf, e1, e2]
  have hok : ∀ t ∈ [t0, t1, t2], okText t := by
    intro t ht
    simp only [List.mem_cons, List.not_mem_nil, or_false] at ht
    rcases ht with rfl | rfl | rfl
    · exact h0
    · exact h1
    · exact h2
  have ho : unfrOut file = ([t0, t1, t2], (file.size : Int)) := by
    unfold unfrOut; rw [if_pos (by omega), unfr_whole [t0, t1, t2] file hok hbf]
  refine Ev.bind (impl_Unframe_ev file (by omega)) ?_
  rw [ho]
  refine Ev.yes rfl (Ev.bind (laws_sameTexts_ev _ (by simp)) ?_)
  have e3 : (filesL ([t0, t1, t2].take 3)).length = file.size := by rw [← bs_length, hbf]; rfl
  refine law_cut ps hp hr [t0, t1, t2] rfl file hsz (fun j => (filesL ([t0, t1, t2].take j)).length) rfl e3 ?_
  intro k hk
  have hcs : (file.extract 0 k).size = k := by rw [size_extract _ _ _ hk]; rfl
  obtain ⟨m, m1, m2, m3, m4⟩ := unfr_files [t0, t1, t2] (file.extract 0 k) [] 0 k hok (Nat.zero_le _) (by rw [List.drop_zero, bs_extract, List.drop_zero, Nat.sub_zero, hbf]) (by rw [← hbf, bs_length]; exact hk)
  refine ⟨m, m1, ?_, m3, m4⟩
  unfold unfrOut
  rw [hcs, if_pos (show (k : Int) ≤ 20000 by clear m2 m3 m4 e1 e2 e3; omega), m2]
  simp
theorem FnFrames : laws_FnFrames.Pure := by
  intro l hm hl hw
  have hl' : l.length ≤ 140737488351232 := by omega
  apply Ev.rounds
  unfold laws_FnFrames.f laws_big.f
  refine Ev.bindc rfl ?_
  refine Ev.ite (fun _ => Ev.now _) (fun _ => ?_)
  obtain ⟨ps, e1, hp, hr⟩ := spec_DrawPlaces_ev l hl'
  obtain ⟨t, e2, ht⟩ := spec_DrawHex_ev l hl'
  refine Ev.bind e1 (Ev.bind e2 (Ev.bindc rfl (Ev.yes (by simp) ?_)))
  rw [show rdOf ByteArray.empty [t, (⟨#[116, 119, 111]⟩ : ByteArray), (⟨#[116, 104, 114, 101, 101, 32, 97, 110, 100, 32, 109, 111, 114, 101]⟩ : ByteArray)] 0 = t from rfl]
  have o1 : okText (⟨#[116, 119, 111]⟩ : ByteArray) := ⟨by decide, by decide⟩
  have o2 : okText (⟨#[116, 104, 114, 101, 101, 32, 97, 110, 100, 32, 109, 111, 114, 101]⟩ : ByteArray) := ⟨by decide, by decide⟩
  have o3 : okText (⟨#[111, 110, 101]⟩ : ByteArray) := ⟨by decide, by decide⟩
  refine Ev.ite (fun h => ?_) (fun h => ?_)
  · refine Ev.step (laws_FnFrames.j0.eq_2 _ _ _) (Ev.yes rfl (Ev.yes (by simp) (Ev.step (laws_FnFrames.j1.eq_2 _ _) ?_)))
    exact law_l0 ps hp hr _ _ _ o3 o1 o2 (by decide) (by decide) (by decide)
  · refine Ev.step (laws_FnFrames.j0.eq_2 _ _ _) (Ev.ite (fun h2 => Ev.yes (by simp) (Ev.step (laws_FnFrames.j1.eq_2 _ _) ?_)) (fun h2 => Ev.step (laws_FnFrames.j1.eq_2 _ _) ?_))
    · exact law_l0 ps hp hr _ _ _ o3 o1 o2 (by decide) (by decide) (by decide)
    · have h3 : ¬ (t.size : Int) > 900 := by rw [decide_eq_true_eq] at h2; exact h2
      exact law_l0 ps hp hr _ _ _ ⟨by omega, by omega⟩ o1 o2 (by omega) (by decide) (by decide)

end Go.Proofs.Ytikneakpbnihnaa.Pure
