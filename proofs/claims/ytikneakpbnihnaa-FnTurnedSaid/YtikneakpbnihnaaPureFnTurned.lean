/- A drawn text, sealed, is unsealed; with one byte turned it is not: for every draw. No condition. -/
import Derived.Test.YtikneakpbnihnaaSum
import Derived.Test.YtikneakpbnihnaaQFnTurnedx3
namespace Go.Proofs.Ytikneakpbnihnaa.Pure
open Go.RowKit Go.Proofs.Ytikneakpbnihnaa.PFnTurned Go.Proofs.YtikneakpbnihnaaW.PrintWords Go.Proofs.YtikneakpbnihnaaW.PrintLast Go.Proofs.YtikneakpbnihnaaW.PrintMore Go.Proofs.Ytikneakpbnihnaa.Gen
set_option linter.unusedVariables false

/-! impl_SumMore: what it computes -/
theorem impl_SumMore_l1 (a : ByteArray) (i : Int) (r : Int) : ∀ (m : Nat) (j : Int) (s : Nat), j + m = 8 → 0 ≤ j → s < 4294967296 → Ev (fun k => impl_SumMore.l0 k ((stepN m s : Nat) : Int) a (wrap64 (i + 1))) r →
    Ev (fun k => impl_SumMore.l1 k (s : Int) a i j) r := by
  intro m
  induction m with
  | zero =>
    intro j s hj h0 hs h
    refine Ev.step (impl_SumMore.l1.eq_2 (s : Int) a i j) ?_
    exact Ev.no (by omega) h
  | succ m ih =>
    intro j s hj h0 hs h
    refine Ev.step (impl_SumMore.l1.eq_2 (s : Int) a i j) ?_
    refine Ev.yes (by omega) ?_
    have ej : wrap64 (j + 1) = j + 1 := w64 (by omega) (by omega)
    have e1 := tm2 s
    have e2 : Int.tdiv (s : Int) 2 % 4294967296 = ((s / 2 : Nat) : Int) := by rw [td2]; omega
    rw [e1, e2, ej]
    refine Ev.ite (fun hc => ?_) (fun hc => ?_)
    · rw [show (3558460437 : Int) = ((3558460437 : Nat) : Int) from rfl, xor_u32 _ _ (by omega) (by omega)]
      refine ih (j + 1) _ (by omega) (by omega) (Nat.xor_lt_two_pow (n := 32) (by omega) (by omega)) ?_
      have e : step1 s = (s / 2) ^^^ 3558460437 := by unfold step1; rw [if_pos (by omega)]
      rw [stepN, e] at h; exact h
    · refine ih (j + 1) _ (by omega) (by omega) (by omega) ?_
      have e : step1 s = s / 2 := by unfold step1; rw [if_neg (by omega)]
      rw [stepN, e] at h; exact h
theorem impl_SumMore_l0 (a : ByteArray) (ha : a.size ≤ 140737488351232) : ∀ (d i : Nat) (s : Nat), i + d = a.size → s < 4294967296 →
    Ev (fun k => impl_SumMore.l0 k (s : Int) a (i : Int)) ((sumN s ((bs a).drop i) : Nat) : Int) := by
  intro d
  induction d with
  | zero =>
    intro i s hi hs
    refine Ev.step (impl_SumMore.l0.eq_2 (s : Int) a (i : Int)) ?_
    refine Ev.no (by omega) (Ev.const ?_)
    rw [List.drop_eq_nil_of_le (by rw [bs_length]; omega)]; rfl
  | succ d ih =>
    intro i s hi hs
    refine Ev.step (impl_SumMore.l0.eq_2 (s : Int) a (i : Int)) ?_
    refine Ev.yes (by omega) (Ev.yes (by omega) ?_)
    have hlt : i < (bs a).length := by rw [bs_length]; omega
    have eb : bt a i % 4294967296 = (((bs a)[i] : Nat) : Int) := by
      have h1 := bt_lo a i
      have h2 := bt_hi a i
      rw [bt_eq hlt] at *
      omega
    have hb := bs_lt a _ (List.getElem_mem hlt)
    rw [eb, xor_u32 _ _ hs (by omega), List.drop_eq_getElem_cons hlt, sumN_cons]
    have hx := xor_lt32 hs hb
    refine impl_SumMore_l1 a (i : Int) _ 8 0 _ (by omega) (by omega) hx ?_
    rw [w64 (by omega) (by omega)]
    exact ih (i + 1) _ (by omega) (stepN_lt 8 hx)
theorem impl_SumMore_f (s : Nat) (a : ByteArray) (hs : s < 4294967296) (ha : a.size ≤ 140737488351232) : Ev (fun k => impl_SumMore.f k (s : Int) a) ((sumN s (bs a) : Nat) : Int) := by
  have h := impl_SumMore_l0 a ha a.size 0 s (by omega) hs
  simpa [impl_SumMore.f] using h

theorem impl_SumOf_ev (a : ByteArray) (ha : a.size ≤ 140737488351232) : Ev (fun k => impl_SumOf.f k a) ((sumN 4294967295 (bs a) : Nat) : Int) := by
  unfold impl_SumOf.f
  exact Ev.bind (impl_SumMore_f 4294967295 a (by omega) ha) (Ev.now _)

theorem impl_SumOf_t (a : ByteArray) (ha : a.size ≤ 140737488351232) : Ev (fun k => impl_SumOf.f k a) ((sumT a : Nat) : Int) := impl_SumOf_ev a ha

theorem impl_highFirst_ev (x : Nat) (hx : x < 4294967296) : Ev (fun k => impl_highFirst.f k (x : Int) 4) (fourT x) := by
  unfold impl_highFirst.f
  refine Ev.yes (by omega) (Ev.yes (by decide) ?_)
  have e0 : List.replicate ((4 : Int)).toNat (0 : Int) = [0, 0, 0, 0] := rfl
  rw [e0, w64 (by omega) (by omega)]
  refine Ev.step (impl_highFirst.l0.eq_2 _ _ _) ?_
  refine Ev.yes (by omega) (Ev.yes (by omega) (Ev.yes (by simp) ?_))
  rw [w64 (by omega) (by omega), and_low (x : Int) (by omega) (by omega)]
  refine Ev.step (impl_highFirst.l0.eq_2 _ _ _) ?_
  refine Ev.yes (by omega) (Ev.yes (by omega) (Ev.yes (by simp) ?_))
  rw [w64 (by omega) (by omega), and_low ((x : Int) / 256) (by omega) (by omega)]
  refine Ev.step (impl_highFirst.l0.eq_2 _ _ _) ?_
  refine Ev.yes (by omega) (Ev.yes (by omega) (Ev.yes (by simp) ?_))
  rw [w64 (by omega) (by omega), and_low ((x : Int) / 256 / 256) (by omega) (by omega)]
  refine Ev.step (impl_highFirst.l0.eq_2 _ _ _) ?_
  refine Ev.yes (by omega) (Ev.yes (by omega) (Ev.yes (by simp) ?_))
  rw [w64 (by omega) (by omega), and_low ((x : Int) / 256 / 256 / 256) (by omega) (by omega)]
  refine Ev.step (impl_highFirst.l0.eq_2 _ _ _) ?_
  refine Ev.no (by omega) (Ev.const ?_)
  rw [← four_nums]
  congr 2
  simp
  omega
theorem impl_Sealed_ev (s : ByteArray) (hs : s.size ≤ 140737488351232) : Ev (fun k => impl_Sealed.f k s) (sealedOut s) := by
  unfold impl_Sealed.f sealedOut
  refine Ev.ite (fun h => ?_) (fun h => ?_)
  · rw [if_pos h]; exact Ev.now _
  · rw [if_neg h]
    refine Ev.bind (impl_SumOf_t s hs) ?_
    have hl := sumT_lt s
    rw [w64 (by omega) (by omega)]
    refine Ev.bind (impl_highFirst_ev _ hl) ?_
    exact Ev.yes (by rw [fourT_size]; omega) (Ev.now _)

theorem impl_Unsealed_ev (s : ByteArray) (hs : s.size ≤ 140737488351232) : Ev (fun k => impl_Unsealed.f k s) (unsealedOut s) := by
  unfold impl_Unsealed.f unsealedOut
  have e : wrap64 ((s.size : Int) - 4) = (s.size : Int) - 4 := w64 (by omega) (by omega)
  rw [e]
  refine Ev.ite (fun h => ?_) (fun h => ?_)
  · rw [if_neg (by omega)]; exact Ev.now _
  refine Ev.yes (by omega) (Ev.yes (by omega) ?_)
  have e2 : ((s.size : Int) - 4).toNat = s.size - 4 := by omega
  rw [e2]
  have e3 := size_extract s 0 (s.size - 4) (by omega)
  refine Ev.bind (impl_Sealed_ev _ (by omega)) ?_
  unfold sealedOut
  rw [e3]
  by_cases h2 : ((s.size - 4 - 0 : Nat) : Int) > 20000
  · rw [if_pos h2, if_neg (show ¬ (4 ≤ s.size ∧ s.size ≤ 20004 ∧ s.extract (s.size - 4) s.size = fourT (sumT (s.extract 0 (s.size - 4)))) from fun h => by omega)]
    exact Ev.no (show ¬ (false = true) by decide) (Ev.now _)
  · rw [if_neg h2]
    refine Ev.yes rfl ?_
    simp only [toList_iff]
    have e4 := extract_join s (s.size - 4) (by omega)
    refine Ev.ite (fun h3 => ?_) (fun h3 => ?_)
    · have h5 := append_left_cancel (e4.trans h3.symm)
      rw [if_pos ⟨by omega, by omega, h5⟩]
      exact Ev.now _
    · have h5 : ¬ (4 ≤ s.size ∧ s.size ≤ 20004 ∧ s.extract (s.size - 4) s.size = fourT (sumT (s.extract 0 (s.size - 4)))) := by
        intro h4
        apply h3
        rw [← h4.2.2]; exact e4
      rw [if_neg h5]
      exact Ev.now _

/-! the reader of draws: whatever it tells, it is in its range -/
theorem spec_l01Byte_ev (b : List Int) (i h : Int) (hb : b.length ≤ 140737488351232) (hi : 0 ≤ i) : ∃ r i' h', spec_l01Byte.f b i h = some (r, i', h') ∧ (0 ≤ r ∧ r ≤ 255) ∧ 0 ≤ i' := by
  unfold spec_l01Byte.f
  by_cases hc : i < (b.length : Int)
  · rw [if_pos hc, if_pos hi, w64 (x := i + 1) (by omega) (by omega)]
    exact ⟨_, _, _, rfl, and_255 _, by omega⟩
  · rw [if_neg hc]
    exact ⟨_, _, _, rfl, and_255 _, hi⟩
theorem spec_l01Below_ev (b : List Int) (i h n : Int) (hb : b.length ≤ 140737488351232) (hi : 0 ≤ i) (hn : n ≤ 4294967296) : ∃ r i' h', spec_l01Below.f b i h n = some (r, i', h') ∧ (0 ≤ r ∧ (r < n ∨ n ≤ 0 ∧ r = 0)) ∧ 0 ≤ i' := by
  unfold spec_l01Below.f
  by_cases h0 : n ≤ 0
  · rw [if_pos h0]; exact ⟨_, _, _, rfl, ⟨by omega, Or.inr ⟨h0, rfl⟩⟩, hi⟩
  rw [if_neg h0]
  by_cases h1 : n ≤ 256
  · rw [if_pos h1]
    obtain ⟨r, i1, g1, e1, r1, j1⟩ := spec_l01Byte_ev b i h hb hi
    rw [e1]
    simp only [Option.bind_some]
    rw [if_neg (by omega)]
    have := tmod_range r n r1.1 (by omega)
    exact ⟨_, _, _, rfl, ⟨this.1, Or.inl this.2⟩, j1⟩
  · rw [if_neg h1]
    obtain ⟨x1, i1, g1, e1, r1, j1⟩ := spec_l01Byte_ev b i h hb hi
    obtain ⟨x2, i2, g2, e2, r2, j2⟩ := spec_l01Byte_ev b i1 g1 hb j1
    obtain ⟨x3, i3, g3, e3, r3, j3⟩ := spec_l01Byte_ev b i2 g2 hb j2
    obtain ⟨x4, i4, g4, e4, r4, j4⟩ := spec_l01Byte_ev b i3 g3 hb j3
    rw [e1]; simp only [Option.bind_some]
    rw [e2]; simp only [Option.bind_some]
    rw [e3]; simp only [Option.bind_some]
    rw [e4]; simp only [Option.bind_some]
    rw [if_neg (by omega)]
    have ew : 0 ≤ wrap64 ((wrap64 ((wrap64 ((wrap64 (x1 * 16777216)) + (wrap64 (x2 * 65536)))) + (wrap64 (x3 * 256)))) + x4) := by
      rw [w64 (x := x1 * 16777216) (by omega) (by omega), w64 (x := x2 * 65536) (by omega) (by omega), w64 (x := x3 * 256) (by omega) (by omega), w64 (x := x1 * 16777216 + x2 * 65536) (by omega) (by omega), w64 (x := x1 * 16777216 + x2 * 65536 + x3 * 256) (by omega) (by omega), w64 (by omega) (by omega)]
      omega
    have := tmod_range _ n ew (by omega)
    exact ⟨_, _, _, rfl, ⟨this.1, Or.inl this.2⟩, j4⟩
theorem spec_l01New_l0 (l : List Int) (hl : l.length ≤ 140737488351232) : ∀ (d : Nat) (i h : Int), 0 ≤ i → (l.length : Int) - i ≤ d → ∃ h', Ev (fun k => spec_l01New.l0 k l h i) (l, 0, h') := by
  intro d
  induction d with
  | zero =>
    intro i h h0 hd
    exact ⟨h, Ev.step (spec_l01New.l0.eq_2 l h i) (Ev.no (by omega) (Ev.now _))⟩
  | succ d ih =>
    intro i h h0 hd
    by_cases h1 : i < (l.length : Int)
    · by_cases h2 : i < 4000
      · obtain ⟨h', e⟩ := ih (i + 1) (Go.bits .and .i64 (wrap64 ((wrap64 ((wrap64 (h * 131)) + (wrap64 (rd l i)))) + 7)) 1073741823) (by omega) (by omega)
        refine ⟨h', Ev.step (spec_l01New.l0.eq_2 l h i) (Ev.yes h1 (Ev.yes h2 (Ev.yes h0 ?_)))⟩
        rw [w64 (x := i + 1) (by omega) (by omega)]
        exact e
      · exact ⟨h, Ev.step (spec_l01New.l0.eq_2 l h i) (Ev.yes h1 (Ev.no h2 (Ev.now _)))⟩
    · exact ⟨h, Ev.step (spec_l01New.l0.eq_2 l h i) (Ev.no h1 (Ev.now _))⟩
theorem spec_l01New_ev (l : List Int) (hl : l.length ≤ 140737488351232) : ∃ h, Ev (fun k => spec_l01New.f k l) (l, 0, h) := by
  obtain ⟨h, e⟩ := spec_l01New_l0 l hl l.length 0 (wrap64 (35201 + (l.length : Int))) (by omega) (by omega)
  exact ⟨h, e⟩

theorem spec_DrawPlaces_l0 (b : List Int) (hb : b.length ≤ 140737488351232) : ∀ (d : Nat) (j : Int) (xs : List Int) (i h : Int), j + d = 12 → 0 ≤ j → 0 ≤ i → (xs.length : Int) = j → (∀ x ∈ xs, 0 ≤ x ∧ x < 10000) →
    ∃ ps : List Int, Ev (fun k => spec_DrawPlaces.l0 k xs j b i h) ps ∧ ps.length = 12 ∧ ∀ x ∈ ps, 0 ≤ x ∧ x < 10000 := by
  intro d
  induction d with
  | zero =>
    intro j xs i h hj h0 hi hx hr
    exact ⟨xs, Ev.step (spec_DrawPlaces.l0.eq_2 xs j b i h) (Ev.no (by omega) (Ev.now _)), by omega, hr⟩
  | succ d ih =>
    intro j xs i h hj h0 hi hx hr
    obtain ⟨r, i1, h1, e1, r1, j1⟩ := spec_l01Below_ev b i h 10000 hb hi (by omega)
    obtain ⟨ps, e, hl, hp⟩ := ih (j + 1) (xs ++ [r]) i1 h1 (by omega) (by omega) j1 (by rw [List.length_append, List.length_singleton]; omega) (by
      intro x hx'
      rcases List.mem_append.1 hx' with hx' | hx'
      · exact hr x hx'
      · have := List.mem_singleton.1 hx'; omega)
    refine ⟨ps, Ev.step (spec_DrawPlaces.l0.eq_2 xs j b i h) (Ev.yes (by omega) (Ev.bindc e1 (Ev.yes (by omega) ?_))), hl, hp⟩
    rw [w64 (x := j + 1) (by omega) (by omega)]
    exact e
theorem spec_DrawPlaces_ev (l : List Int) (hl : l.length ≤ 140737488351232) : ∃ ps : List Int, Ev (fun k => spec_DrawPlaces.f k l) ps ∧ ps.length = 12 ∧ ∀ x ∈ ps, 0 ≤ x ∧ x < 10000 := by
  obtain ⟨h, e⟩ := spec_l01New_ev l hl
  obtain ⟨r, i1, h1, e1, -, j1⟩ := spec_l01Byte_ev l 0 h hl (by omega)
  obtain ⟨ps, e2, h2, h3⟩ := spec_DrawPlaces_l0 l hl 12 0 [] i1 h1 (by omega) (by omega) j1 rfl (by simp)
  exact ⟨ps, Ev.bind e (Ev.bindc e1 e2), h2, h3⟩

theorem spec_l01Text_l0 (n : Int) (hn : n ≤ 5000) (b : List Int) (hb : b.length ≤ 140737488351232) : ∀ (d : Nat) (j : Int) (xs : List Int) (i h : Int), n - j ≤ d → 0 ≤ j → 0 ≤ i → (xs.length : Int) ≤ j → xs.length ≤ 5000 →
    ∃ t i' h', Ev (fun k => spec_l01Text.l0 k n xs j b i h) (t, i', h') ∧ t.size ≤ 5000 ∧ ((xs.length : Int) = j → j ≤ n → (t.size : Int) = n) ∧ 0 ≤ i' := by
  intro d
  induction d with
  | zero =>
    intro j xs i h hd h0 hi hx hx5
    exact ⟨_, _, _, Ev.step (spec_l01Text.l0.eq_2 n xs j b i h) (Ev.no (by omega) (Ev.now _)), by rw [size_nums]; exact hx5, by rw [size_nums]; omega, hi⟩
  | succ d ih =>
    intro j xs i h hd h0 hi hx hx5
    by_cases hc : j < n
    · obtain ⟨r, i1, h1, e1, r1, j1⟩ := spec_l01Byte_ev b i h hb hi
      obtain ⟨t, i2, h2, e, ht, ht2, hi2⟩ := ih (j + 1) (xs ++ [r % 256]) i1 h1 (by omega) (by omega) j1 (by rw [List.length_append, List.length_singleton]; omega) (by rw [List.length_append, List.length_singleton]; omega)
      refine ⟨t, i2, h2, Ev.step (spec_l01Text.l0.eq_2 n xs j b i h) (Ev.yes hc (Ev.bindc e1 (Ev.yes (by omega) ?_))), ht, ?_, hi2⟩
      · rw [w64 (x := j + 1) (by omega) (by omega)]
        exact e
      · intro h3 h4
        exact ht2 (by rw [List.length_append, List.length_singleton]; omega) (by omega)
    · exact ⟨_, _, _, Ev.step (spec_l01Text.l0.eq_2 n xs j b i h) (Ev.no hc (Ev.now _)), by rw [size_nums]; exact hx5, by rw [size_nums]; omega, hi⟩
theorem spec_l01Text_ev (n : Int) (b : List Int) (i h : Int) (hb : b.length ≤ 140737488351232) (hi : 0 ≤ i) (hn : n ≤ 1000000) :
    ∃ t i' h', Ev (fun k => spec_l01Text.f k b i h n) (t, i', h') ∧ t.size ≤ 5000 ∧ (0 ≤ n → n ≤ 5000 → (t.size : Int) = n) ∧ 0 ≤ i' := by
  unfold spec_l01Text.f
  by_cases hc : n > 5000
  · obtain ⟨t, i2, h2, e, ht, ht2, hi2⟩ := spec_l01Text_l0 5000 (by omega) b hb 5000 0 [] i h (by omega) (by omega) hi (by simp) (by simp)
    exact ⟨t, i2, h2, Ev.yes hc (Ev.step (spec_l01Text.j0.eq_2 _ b i h) e), ht, by omega, hi2⟩
  · obtain ⟨t, i2, h2, e, ht, ht2, hi2⟩ := spec_l01Text_l0 n (by omega) b hb 5000 0 [] i h (by omega) (by omega) hi (by simp) (by simp)
    exact ⟨t, i2, h2, Ev.no hc (Ev.step (spec_l01Text.j0.eq_2 _ b i h) e), ht, fun h3 _ => ht2 rfl h3, hi2⟩

theorem spec_DrawSumOf_ev (l : List Int) (hl : l.length ≤ 140737488351232) : ∃ t : ByteArray, Ev (fun k => spec_DrawSumOf.f k l) t ∧ t.size ≤ 5000 := by
  obtain ⟨h, e⟩ := spec_l01New_ev l hl
  obtain ⟨r, i2, h2, e2, r2, j2⟩ := spec_l01Below_ev l 0 h 40 hl (by omega) (by omega)
  obtain ⟨t, i3, h3, e3, ht, -, -⟩ := spec_l01Text_ev r l i2 h2 hl j2 (by omega)
  exact ⟨t, Ev.bind e (Ev.bindc e2 (Ev.bind e3 (Ev.now _))), by omega⟩
theorem bytesOf_bs (s : ByteArray) : bytesOf s = (bs s).map Int.ofNat := by
  unfold bytesOf bs; rw [List.map_map]; rfl
theorem xor_u8 (a b : Nat) (ha : a < 256) (hb : b < 256) : Go.bits .xor .u8 (a : Int) (b : Int) = ((a ^^^ b : Nat) : Int) := by
  have e1 : a % 2 ^ 8 = a := Nat.mod_eq_of_lt ha
  have e2 : b % 2 ^ 8 = b := Nat.mod_eq_of_lt hb
  have h3 : a ^^^ b < 2 ^ 8 := Nat.xor_lt_two_pow ha hb
  have e3 : (BitVec.ofNat 8 a ^^^ BitVec.ofNat 8 b).toNat = a ^^^ b := by rw [BitVec.toNat_xor, BitVec.toNat_ofNat, BitVec.toNat_ofNat, e1, e2]
  have e4 : Go.bits .xor .u8 (a : Int) (b : Int) = IntKind.u8.wrap ((BitVec.ofInt 8 (a : Int) ^^^ BitVec.ofInt 8 (b : Int)).toNat : Int) := rfl
  rw [e4, BitVec.ofInt_natCast, BitVec.ofInt_natCast, e3, IntKind.wrap_u8]
  omega
theorem unsealed_back (s : ByteArray) (hs : s.size ≤ 5000) : unsealedOut (s ++ fourT (sumT s)) = (s, true) := by
  have hz : (s ++ fourT (sumT s)).size = s.size + 4 := by rw [size_append, fourT_size]
  have h1 : (s ++ fourT (sumT s)).extract 0 (s.size + 4 - 4) = s := by
    apply bs_inj; rw [bs_extract, bs_append, List.drop_zero, show s.size + 4 - 4 - 0 = s.size by omega, List.take_left' (bs_length s)]
  have h2 : (s ++ fourT (sumT s)).extract (s.size + 4 - 4) (s.size + 4) = fourT (sumT s) := by
    apply bs_inj
    rw [bs_extract, bs_append, show s.size + 4 - 4 = s.size by omega, List.drop_left' (bs_length s), List.take_of_length_le (by rw [bs_length, fourT_size]; omega)]
  unfold unsealedOut
  rw [hz, h1, h2, if_pos ⟨by omega, by omega, rfl⟩]
/-- one byte is another: no longer unsealed -/
theorem unsealed_turned (s t : ByteArray) (hs : s.size ≤ 5000) (i v : Nat) (hi : i < s.size + 4) (hv : v < 256) (ht : bs t = (bs (s ++ fourT (sumT s))).set i v) (hne : ∀ h : i < (bs (s ++ fourT (sumT s))).length, (bs (s ++ fourT (sumT s)))[i] ≠ v) : (unsealedOut t).2 = false := by
  have hz : (s ++ fourT (sumT s)).size = s.size + 4 := by rw [size_append, fourT_size]
  have hl : (bs (s ++ fourT (sumT s))).length = s.size + 4 := by rw [bs_length, hz]
  have htz : t.size = s.size + 4 := by rw [← bs_length, ht, List.length_set, hl]
  have hsl : (bs s).length = s.size := bs_length s
  have h4 : (four (sumT s)).length = 4 := rfl
  unfold unsealedOut
  rw [htz]
  refine (congrArg Prod.snd (if_neg fun h => ?_)).trans rfl
  have hx := congrArg bs h.2.2
  rw [bs_extract, bs_fourT, ht, show s.size + 4 - 4 = s.size by omega] at hx
  have hp : bs (t.extract 0 s.size) = ((bs (s ++ fourT (sumT s))).set i v).take s.size := by rw [bs_extract, ht, List.drop_zero, Nat.sub_zero]
  have hA : bs (s ++ fourT (sumT s)) = bs s ++ four (sumT s) := by rw [bs_append, bs_fourT]
  rw [hA] at hx hp hne
  have hne' := hne (by rw [List.length_append, hsl, h4]; omega)
  by_cases hc : i < s.size
  · rw [List.set_append_left _ _ (by omega)] at hx hp
    rw [List.drop_left' (by rw [List.length_set, hsl]), List.take_of_length_le (by rw [h4]; omega)] at hx
    rw [List.take_left' (by rw [List.length_set, hsl])] at hp
    have hq := four_inj (sumT_lt s) (sumT_lt _) hx
    unfold sumT at hq
    rw [hp] at hq
    have e1 : bs s = (bs s).take i ++ (bs s)[i]'(by omega) :: (bs s).drop (i + 1) := by rw [← List.drop_eq_getElem_cons (by omega), List.take_append_drop]
    have e2 : (bs s).set i v = (bs s).take i ++ v :: (bs s).drop (i + 1) := by rw [List.set_eq_take_append_cons_drop, if_pos (by omega)]
    rw [e2] at hq
    conv at hq => lhs; rw [e1]
    have := sumN_turned (s := 4294967295) (by omega) (fun z hz => bs_lt s z (List.mem_of_mem_take hz)) (fun z hz => bs_lt s z (List.mem_of_mem_drop hz)) (bs_lt s _ (List.getElem_mem _)) hv hq
    exact hne' (by rw [List.getElem_append_left (by omega)]; exact this)
  · rw [List.set_append_right _ _ (by omega)] at hx hp
    rw [List.drop_left' hsl, List.take_of_length_le (by rw [List.length_set, h4]; omega)] at hx
    rw [List.take_left' hsl] at hp
    have hs2 : t.extract 0 s.size = s := bs_inj hp
    rw [hs2] at hx
    have := congrArg (fun l : List Nat => l[i - (bs s).length]?) hx
    rw [List.getElem?_set_self (by rw [h4]; omega), List.getElem?_eq_getElem (by rw [h4]; omega)] at this
    refine hne' ?_
    rw [List.getElem_append_right (by omega)]
    exact (Option.some.inj this).symm
theorem unsealed_turned' (s t0 : ByteArray) (h0 : t0 = s ++ fourT (sumT s)) (t : ByteArray) (hs : s.size ≤ 5000) (i v : Nat) (hi : i < s.size + 4) (hv : v < 256) (ht : bs t = (bs t0).set i v) (hne : ∀ h : i < (bs t0).length, (bs t0)[i] ≠ v) : (unsealedOut t).2 = false := by
  subst h0
  exact unsealed_turned s t hs i v hi hv ht hne
theorem FnTurned : laws_FnTurned.Pure := by
  intro l hm hl hw
  have hl' : l.length ≤ 140737488351232 := by omega
  apply Ev.rounds
  unfold laws_FnTurned.f laws_big.f
  refine Ev.bindc rfl ?_
  refine Ev.ite (fun _ => Ev.now _) (fun _ => ?_)
  obtain ⟨s, es, hs⟩ := spec_DrawSumOf_ev l hl'
  obtain ⟨ps, ep, hp, hr⟩ := spec_DrawPlaces_ev l hl'
  have hz : (s ++ fourT (sumT s)).size = s.size + 4 := by rw [size_append, fourT_size]
  have hse : sealedOut s = (s ++ fourT (sumT s), true) := by unfold sealedOut; rw [if_neg (by omega)]
  have eseal := impl_Sealed_ev s (by omega)
  rw [hse] at eseal
  have eun := impl_Unsealed_ev (s ++ fourT (sumT s)) (by omega)
  rw [unsealed_back s hs] at eun
  refine Ev.bind es (Ev.bind ep (Ev.bind eseal (Ev.bind eun (Ev.yes rfl (Ev.yes rfl (Ev.yes rfl ?_))))))
  have hq : (((s ++ fourT (sumT s)).size : Int) != (wrap64 ((s.size : Int) + 4))) = false := by
    rw [w64 (by omega) (by omega)]
    exact bne_eq_false_iff_eq.mpr (by omega)
  simp only [hq]
  clear hq
  refine Ev.step (laws_FnTurned.j0.eq_2 s ps (s ++ fourT (sumT s)) false) (Ev.no (by simp) (Ev.yes (by omega) (Ev.bindc rfl ?_)))
  obtain ⟨t, hT⟩ : ∃ t, t = s ++ fourT (sumT s) := ⟨_, rfl⟩
  rw [← hT]
  have hbl : (bytesOf t).length = s.size + 4 := by rw [bytesOf_length, hT, hz]
  have hg : ∀ j : Nat, j < 12 → 0 ≤ rd ps (j : Int) := fun j hj => by
    unfold rd
    rw [Int.toNat_natCast, List.getD_eq_getElem?_getD, List.getElem?_eq_getElem (by omega)]
    exact (hr _ (List.getElem_mem _)).1
  have h0 := tmod_range (rd ps 0) ((bytesOf t).length : Int) (hg 0 (by omega)) (by omega)
  have h1 := tmod_range (rd ps 1) 255 (hg 1 (by omega)) (by omega)
  refine Ev.yes (by omega) (Ev.no (by omega) (Ev.yes h0.1 (Ev.yes h0.2 (Ev.yes (by omega) ?_))))
  generalize Int.tmod (rd ps 0) ((bytesOf t).length : Int) = i0 at h0 ⊢
  generalize Int.tmod (rd ps 1) 255 = d0 at h1 ⊢
  obtain ⟨i, rfl⟩ := Int.eq_ofNat_of_zero_le h0.1
  obtain ⟨d, rfl⟩ := Int.eq_ofNat_of_zero_le h1.1
  have hi : i < (bs t).length := by rw [bs_length, hT, hz]; omega
  have hrd : rd (bytesOf t) (i : Int) = (((bs t)[i] : Nat) : Int) := by
    unfold rd
    rw [Int.toNat_natCast, List.getD_eq_getElem?_getD, bytesOf_bs, List.getElem?_map, List.getElem?_eq_getElem hi]; rfl
  have hb := bs_lt t _ (List.getElem_mem hi)
  have hw1 : (wrap64 (1 + (d : Int))) % 256 = ((1 + d : Nat) : Int) := by rw [w64 (by omega) (by omega)]; omega
  rw [hrd, hw1, xor_u8 _ _ hb (by clear hw1 hrd; omega), Int.toNat_natCast]
  clear hw1 hrd
  have hv : (bs t)[i] ^^^ (1 + d) < 256 := Nat.xor_lt_two_pow (n := 8) hb (by omega)
  have hne : (bs t)[i] ≠ (bs t)[i] ^^^ (1 + d) := fun e => by
    have := xor_right_inj (c := (bs t)[i]) (a := 0) (b := 1 + d) (by rw [Nat.xor_zero]; exact e)
    omega
  have hset : (bytesOf t).set i (((bs t)[i] ^^^ (1 + d) : Nat) : Int) = ((bs t).set i ((bs t)[i] ^^^ (1 + d))).map Int.ofNat := by rw [bytesOf_bs, List.map_set]; rfl
  have hbt : bs (strOfNums ((bytesOf t).set i (((bs t)[i] ^^^ (1 + d) : Nat) : Int))) = (bs t).set i ((bs t)[i] ^^^ (1 + d)) := by
    rw [hset, bs_nums _ (by
      intro x hx
      obtain ⟨y, hy, rfl⟩ := List.mem_map.1 hx
      have hy2 : y < 256 := by
        rcases List.mem_or_eq_of_mem_set hy with h | h
        · exact bs_lt t y h
        · omega
      exact ⟨Int.natCast_nonneg y, by show (y : Int) < 256; omega⟩), List.map_map]
    exact List.map_id _
  have htz : (strOfNums ((bytesOf t).set i (((bs t)[i] ^^^ (1 + d) : Nat) : Int))).size = s.size + 4 := by rw [← bs_length, hbt, List.length_set, bs_length, hT, hz]
  have hun := unsealed_turned' s t hT _ hs i _ (by omega) hv hbt (fun h => hne)
  have ev := impl_Unsealed_ev (strOfNums ((bytesOf t).set i (((bs t)[i] ^^^ (1 + d) : Nat) : Int))) (by omega)
  refine Ev.bind ev (Ev.no (by rw [hun]; simp) ?_)
  have z1 : (⟨#[120]⟩ : ByteArray).size = 1 := rfl
  refine Ev.bind (impl_SumOf_t s (by omega)) (Ev.bind (impl_SumMore_f (sumT s) (⟨#[120]⟩ : ByteArray) (sumT_lt s) (by decide)) (Ev.yes (by omega) (Ev.bind (impl_SumOf_t (s ++ (⟨#[120]⟩ : ByteArray)) (by rw [size_append]; omega)) (Ev.const ?_))))
  have : sumT (s ++ (⟨#[120]⟩ : ByteArray)) = sumN (sumT s) (bs (⟨#[120]⟩ : ByteArray)) := by unfold sumT; rw [bs_append, sumN_append]
  rw [this, beq_self_eq_true]
end Go.Proofs.Ytikneakpbnihnaa.Pure
