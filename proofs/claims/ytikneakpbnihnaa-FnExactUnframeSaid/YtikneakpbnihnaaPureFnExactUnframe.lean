/- Unframe returns what the reference returns, for every text; its answer is new memory. No condition. -/
import Derived.Test.YtikneakpbnihnaaUnfr
import Derived.Test.YtikneakpbnihnaaPFnExactUnframex5
namespace Go.Proofs.Ytikneakpbnihnaa.Pure
open Go.RowKit Go.Proofs.Ytikneakpbnihnaa.PFnExactUnframe Go.Proofs.YtikneakpbnihnaaW.PrintWords Go.Proofs.YtikneakpbnihnaaW.PrintLast Go.Proofs.YtikneakpbnihnaaW.PrintMore Go.Proofs.Ytikneakpbnihnaa.Gen
set_option linter.unusedVariables false

theorem spec_l01In_ev (a b c : Int) : spec_l01In.f a b c = some (decide (b ≤ a ∧ a ≤ c)) := by
  unfold spec_l01In.f
  by_cases h : a ≥ b
  · rw [if_pos h]; congr 1; simp; omega
  · rw [if_neg h]; congr 1; simp; omega

theorem impl_within_ev (a b c : Int) : impl_within.f a b c = some (decide (b ≤ a ∧ a ≤ c)) := by
  unfold impl_within.f
  by_cases h : a ≥ b
  · rw [if_pos h]; congr 1; simp; omega
  · rw [if_neg h]; congr 1; simp; omega

theorem spec_l01Var_l0 : ∀ (n : Nat), n < 9223372036854775808 → ∀ (xs : List Int), xs.length + (varN n).length ≤ 140737488355328 →
    Ev (fun k => spec_l01Var.l0 k (n : Int) xs) (strOfNums (xs ++ (varN n).map Int.ofNat)) := by
  intro n
  induction n using Nat.strongRecOn with
  | _ n ih =>
    intro hn xs hx
    refine Ev.step (spec_l01Var.l0.eq_2 (n : Int) xs) ?_
    have hp := varN_pos n
    refine Ev.ite (fun h => ?_) (fun h => ?_)
    · have h' : n > 127 := by omega
      have e := varN_big h'
      rw [e, List.length_cons] at hx
      refine Ev.yes (by omega) ?_
      have e1 : wrap64 (Int.tdiv (n : Int) 128) = ((n / 128 : Nat) : Int) := by rw [td128, w64] <;> omega
      have e2 : wrap64 (Int.tmod (n : Int) 128 + 128) % 256 = ((n % 128 + 128 : Nat) : Int) := by rw [tm128, w64] <;> omega
      rw [e1, e2, e]
      have := ih (n / 128) (by omega) (by omega) (xs ++ [((n % 128 + 128 : Nat) : Int)]) (by simp; omega)
      simpa using this
    · have h' : ¬ n > 127 := by omega
      have e := varN_small h'
      rw [e] at hx ⊢
      simp at hx
      refine Ev.yes (by omega) (Ev.const ?_)
      rw [show (n : Int) % 256 = n by omega]
      rfl

theorem spec_l01Var_ev (n : Nat) (hn : n < 9223372036854775808) : Ev (fun k => spec_l01Var.f k (n : Int)) (varT n) := by
  have := varN_len10 hn
  exact spec_l01Var_l0 n hn [] (by simp; omega)

/-! spec_SumMore: what it computes -/
theorem spec_SumMore_l1 (a : ByteArray) (i : Int) (r : Int) : ∀ (m : Nat) (j : Int) (s : Nat), j + m = 8 → 0 ≤ j → s < 4294967296 → Ev (fun k => spec_SumMore.l0 k ((stepN m s : Nat) : Int) a (wrap64 (i + 1))) r →
    Ev (fun k => spec_SumMore.l1 k (s : Int) a i j) r := by
  intro m
  induction m with
  | zero =>
    intro j s hj h0 hs h
    refine Ev.step (spec_SumMore.l1.eq_2 (s : Int) a i j) ?_
    exact Ev.no (by omega) h
  | succ m ih =>
    intro j s hj h0 hs h
    refine Ev.step (spec_SumMore.l1.eq_2 (s : Int) a i j) ?_
    refine Ev.yes (by omega) ?_
    have ej : wrap64 (j + 1) = j + 1 := w64 (by omega) (by omega)
    have e1 := tm2 s
    have e2 : Int.tdiv (s : Int) 2 % 4294967296 = ((s / 2 : Nat) : Int) := by rw [td2]; omega
    rw [e1, e2, ej]
    refine Ev.ite (fun hc => ?_) (fun hc => ?_)
    · rw [show (3558460437 : Int) = ((3558460437 : Nat) : Int) from rfl, xor_u32 _ _ (by omega) (by omega)]
      refine ih (j + 1) _ (by omega) (by omega) (Nat.xor_lt_two_pow (n := 32) (by omega) (by omega)) ?_
      have e : step1 s = (s / 2) ^^^ 3558460437 := by unfold step1; rw [if_pos (by omega)]
      rw [stepN, e] at h; exact h
    · refine ih (j + 1) _ (by omega) (by omega) (by omega) ?_
      have e : step1 s = s / 2 := by unfold step1; rw [if_neg (by omega)]
      rw [stepN, e] at h; exact h
theorem spec_SumMore_l0 (a : ByteArray) (ha : a.size ≤ 140737488351232) : ∀ (d i : Nat) (s : Nat), i + d = a.size → s < 4294967296 →
    Ev (fun k => spec_SumMore.l0 k (s : Int) a (i : Int)) ((sumN s ((bs a).drop i) : Nat) : Int) := by
  intro d
  induction d with
  | zero =>
    intro i s hi hs
    refine Ev.step (spec_SumMore.l0.eq_2 (s : Int) a (i : Int)) ?_
    refine Ev.no (by omega) (Ev.const ?_)
    rw [List.drop_eq_nil_of_le (by rw [bs_length]; omega)]; rfl
  | succ d ih =>
    intro i s hi hs
    refine Ev.step (spec_SumMore.l0.eq_2 (s : Int) a (i : Int)) ?_
    refine Ev.yes (by omega) (Ev.yes (by omega) ?_)
    have hlt : i < (bs a).length := by rw [bs_length]; omega
    have eb : bt a i % 4294967296 = (((bs a)[i] : Nat) : Int) := by
      have h1 := bt_lo a i
      have h2 := bt_hi a i
      rw [bt_eq hlt] at *
      omega
    have hb := bs_lt a _ (List.getElem_mem hlt)
    rw [eb, xor_u32 _ _ hs (by omega), List.drop_eq_getElem_cons hlt, sumN_cons]
    have hx := xor_lt32 hs hb
    refine spec_SumMore_l1 a (i : Int) _ 8 0 _ (by omega) (by omega) hx ?_
    rw [w64 (by omega) (by omega)]
    exact ih (i + 1) _ (by omega) (stepN_lt 8 hx)
theorem spec_SumMore_f (s : Nat) (a : ByteArray) (hs : s < 4294967296) (ha : a.size ≤ 140737488351232) : Ev (fun k => spec_SumMore.f k (s : Int) a) ((sumN s (bs a) : Nat) : Int) := by
  have h := spec_SumMore_l0 a ha a.size 0 s (by omega) hs
  simpa [spec_SumMore.f] using h

theorem spec_SumOf_ev (a : ByteArray) (ha : a.size ≤ 140737488351232) : Ev (fun k => spec_SumOf.f k a) ((sumN 4294967295 (bs a) : Nat) : Int) := by
  unfold spec_SumOf.f
  exact Ev.bind (spec_SumMore_f 4294967295 a (by omega) ha) (Ev.now _)

theorem spec_SumOf_t (a : ByteArray) (ha : a.size ≤ 140737488351232) : Ev (fun k => spec_SumOf.f k a) ((sumT a : Nat) : Int) := spec_SumOf_ev a ha

/-! impl_SumMore: what it computes -/
theorem impl_SumMore_l1 (a : ByteArray) (i : Int) (r : Int) : ∀ (m : Nat) (j : Int) (s : Nat), j + m = 8 → 0 ≤ j → s < 4294967296 → Ev (fun k => impl_SumMore.l0 k ((stepN m s : Nat) : Int) a (wrap64 (i + 1))) r →
    Ev (fun k => impl_SumMore.l1 k (s : Int) a i j) r := by
  intro m
  induction m with
  | zero =>
    intro j s hj h0 hs h
    refine Ev.step (impl_SumMore.l1.eq_2 (s : Int) a i j) ?_
    exact Ev.no (by omega) h
  | succ m ih =>
    intro j s hj h0 hs h
    refine Ev.step (impl_SumMore.l1.eq_2 (s : Int) a i j) ?_
    refine Ev.yes (by omega) ?_
    have ej : wrap64 (j + 1) = j + 1 := w64 (by omega) (by omega)
    have e1 := tm2 s
    have e2 : Int.tdiv (s : Int) 2 % 4294967296 = ((s / 2 : Nat) : Int) := by rw [td2]; omega
    rw [e1, e2, ej]
    refine Ev.ite (fun hc => ?_) (fun hc => ?_)
    · rw [show (3558460437 : Int) = ((3558460437 : Nat) : Int) from rfl, xor_u32 _ _ (by omega) (by omega)]
      refine ih (j + 1) _ (by omega) (by omega) (Nat.xor_lt_two_pow (n := 32) (by omega) (by omega)) ?_
      have e : step1 s = (s / 2) ^^^ 3558460437 := by unfold step1; rw [if_pos (by omega)]
      rw [stepN, e] at h; exact h
    · refine ih (j + 1) _ (by omega) (by omega) (by omega) ?_
      have e : step1 s = s / 2 := by unfold step1; rw [if_neg (by omega)]
      rw [stepN, e] at h; exact h
theorem impl_SumMore_l0 (a : ByteArray) (ha : a.size ≤ 140737488351232) : ∀ (d i : Nat) (s : Nat), i + d = a.size → s < 4294967296 →
    Ev (fun k => impl_SumMore.l0 k (s : Int) a (i : Int)) ((sumN s ((bs a).drop i) : Nat) : Int) := by
  intro d
  induction d with
  | zero =>
    intro i s hi hs
    refine Ev.step (impl_SumMore.l0.eq_2 (s : Int) a (i : Int)) ?_
    refine Ev.no (by omega) (Ev.const ?_)
    rw [List.drop_eq_nil_of_le (by rw [bs_length]; omega)]; rfl
  | succ d ih =>
    intro i s hi hs
    refine Ev.step (impl_SumMore.l0.eq_2 (s : Int) a (i : Int)) ?_
    refine Ev.yes (by omega) (Ev.yes (by omega) ?_)
    have hlt : i < (bs a).length := by rw [bs_length]; omega
    have eb : bt a i % 4294967296 = (((bs a)[i] : Nat) : Int) := by
      have h1 := bt_lo a i
      have h2 := bt_hi a i
      rw [bt_eq hlt] at *
      omega
    have hb := bs_lt a _ (List.getElem_mem hlt)
    rw [eb, xor_u32 _ _ hs (by omega), List.drop_eq_getElem_cons hlt, sumN_cons]
    have hx := xor_lt32 hs hb
    refine impl_SumMore_l1 a (i : Int) _ 8 0 _ (by omega) (by omega) hx ?_
    rw [w64 (by omega) (by omega)]
    exact ih (i + 1) _ (by omega) (stepN_lt 8 hx)
theorem impl_SumMore_f (s : Nat) (a : ByteArray) (hs : s < 4294967296) (ha : a.size ≤ 140737488351232) : Ev (fun k => impl_SumMore.f k (s : Int) a) ((sumN s (bs a) : Nat) : Int) := by
  have h := impl_SumMore_l0 a ha a.size 0 s (by omega) hs
  simpa [impl_SumMore.f] using h

theorem impl_SumOf_ev (a : ByteArray) (ha : a.size ≤ 140737488351232) : Ev (fun k => impl_SumOf.f k a) ((sumN 4294967295 (bs a) : Nat) : Int) := by
  unfold impl_SumOf.f
  exact Ev.bind (impl_SumMore_f 4294967295 a (by omega) ha) (Ev.now _)

theorem impl_SumOf_t (a : ByteArray) (ha : a.size ≤ 140737488351232) : Ev (fun k => impl_SumOf.f k a) ((sumT a : Nat) : Int) := impl_SumOf_ev a ha

theorem spec_l02Four_ev (x : Nat) : spec_l02Four.f (x : Int) = some (fourT x) := rfl
theorem spec_Frame_ev (s : ByteArray) (hs : s.size ≤ 140737488351232) : Ev (fun k => spec_Frame.f k s) (frameOut s) := by
  unfold spec_Frame.f frameOut
  rw [spec_l01In_ev]
  simp only [Option.bind_some, decide_eq_true_eq]
  refine Ev.ite (fun h => ?_) (fun h => ?_)
  · rw [if_pos h]
    have h5 := varN_len10 (n := s.size) (by omega)
    refine Ev.bind (spec_l01Var_ev s.size (by omega)) (Ev.bind (spec_SumOf_t s hs) (Ev.bindc (spec_l02Four_ev _) ?_))
    exact Ev.yes (by rw [fourT_size, varT_size]; omega) (Ev.yes (by rw [size_append, fourT_size, varT_size]; omega) (Ev.now _))
  · rw [if_neg h]; exact Ev.now _

theorem impl_sumText_ev (s : ByteArray) (hs : s.size ≤ 140737488351232) : Ev (fun k => impl_sumText.f k s) (fourT (sumT s)) := by
  unfold impl_sumText.f
  refine Ev.bind (impl_SumOf_t s hs) ?_
  rw [four_nums]
  exact Ev.now _

theorem spec_ReadVar_l0 (s : ByteArray) (hs : s.size ≤ 140737488351232) (a : Nat) (ha : a ≤ s.size) (L : List Nat) (hL : L = (bs s).drop a) : ∀ (m t : Nat), t + m = 5 → t ≤ L.length → (∀ x ∈ L.take t, 128 ≤ x) →
    Ev (fun k => spec_ReadVar.l0 k s (a : Int) ((val (L.take t) : Nat) : Int) ((128 ^ t : Nat) : Int) ((a + t : Nat) : Int)) (readOut s a) := by
  have hlen : L.length = s.size - a := by rw [hL, List.length_drop, bs_length]
  have hb : ∀ x ∈ L, x < 256 := fun x hx => bs_lt s x (List.mem_of_mem_drop (hL ▸ hx))
  have hout : readOut s a = (match readN L with | none => (0, 0, false) | some (n, len) => ((n : Int), (a : Int) + len, true)) := by
    unfold readOut; rw [if_pos (by omega), Int.toNat_natCast, ← hL]; rfl
  have hget : ∀ t (h : t < L.length), bt s ((a + t : Nat) : Int) = ((L[t] : Nat) : Int) := by
    intro t h
    subst hL
    rw [bt_eq (by rw [bs_length]; omega)]
    simp
  have hbs : ∀ t, t < L.length → bs (s.extract a (a + t + 1)) = L.take (t + 1) := by
    intro t h
    rw [bs_extract, hL]; congr 1; omega
  intro m
  induction m with
  | zero =>
    intro t ht hl hP
    obtain rfl : t = 5 := by omega
    rw [hout, rd_five hl hP]
    refine Ev.step (spec_ReadVar.l0.eq_2 _ _ _ _ _) ?_
    refine Ev.ite (fun h => ?_) (fun h => ?_)
    · refine Ev.step (spec_ReadVar.j1.eq_2 _ _ _ _ _ _) ?_
      refine Ev.no ?_ (Ev.now _)
      rw [w64 (by omega) (by omega)]; simp
    · refine Ev.step (spec_ReadVar.j1.eq_2 _ _ _ _ _ _) ?_
      exact Ev.no (by simp) (Ev.now _)
  | succ m ih =>
    intro t ht hl hP
    refine Ev.step (spec_ReadVar.l0.eq_2 _ _ _ _ _) ?_
    by_cases hlt : t < L.length
    · refine Ev.yes (by omega) ?_
      refine Ev.step (spec_ReadVar.j1.eq_2 _ _ _ _ _ _) ?_
      refine Ev.yes (by rw [w64 (by omega) (by omega)]; simp; omega) ?_
      refine Ev.yes (by omega) (Ev.yes (by omega) ?_)
      have hc := hb _ (List.getElem_mem hlt)
      have k1 : t < 5 := by omega
      have k2 : t + 1 + m = 5 := by omega
      have k4 : a + (t + 1) ≤ s.size := by omega
      rw [hget t hlt, scale_mul k1 hc, acc_next k1 hlt]
      have hq1 : wrap64 (((a + t : Nat) : Int) + 1) = ((a + (t + 1) : Nat) : Int) := by rw [w64 (by omega) (by omega)]; omega
      rw [hq1]
      refine Ev.ite (fun h => ?_) (fun h => ?_)
      · have h' : L[t] < 128 := by omega
        have hd := readN_done k1 hlt hP h'
        have hx := varN_next k1 hlt hb hP h'
        refine Ev.ite (fun h2 => ?_) (fun h2 => ?_)
        · rw [hout, hd, if_neg (by omega)]; exact Ev.now _
        · refine Ev.bind (spec_l01Var_ev _ (Nat.lt_trans (val_take_lt (show t + 1 ≤ 5 from k1)) (by decide))) ?_
          refine Ev.yes (by omega) (Ev.yes (by omega) (Ev.yes (by omega) ?_))
          have e3 : (varT (val (L.take (t + 1)))).toList = (s.extract ((a : Nat) : Int).toNat (((a + (t + 1) : Nat) : Int)).toNat).toList ↔ tightD (L.take (t + 1)) = true := by
            rw [toList_iff, ← hx]
            constructor
            · intro h3
              have := congrArg bs h3
              rw [bs_varT, Int.toNat_natCast, Int.toNat_natCast, ← Nat.add_assoc, hbs t hlt] at this
              exact this
            · intro h3
              apply bs_inj
              rw [bs_varT, Int.toNat_natCast, Int.toNat_natCast, ← Nat.add_assoc, hbs t hlt]
              exact h3
          rw [hout, hd]
          refine Ev.ite (fun h3 => ?_) (fun h3 => ?_)
          · rw [if_pos ⟨e3.1 h3, by omega⟩]; exact Ev.const (by simp)
          · rw [if_neg (fun h4 => h3 (e3.2 h4.1))]; exact Ev.now _
      · rw [scale_next k1]
        refine ih (t + 1) k2 hlt ?_
        rw [take_next hlt]
        intro x hx
        rcases List.mem_append.1 hx with hx | hx
        · exact hP x hx
        · have := List.mem_singleton.1 hx; omega
    · refine Ev.no (by omega) ?_
      refine Ev.step (spec_ReadVar.j1.eq_2 _ _ _ _ _ _) ?_
      rw [hout, rd_end (by omega) (by omega) hP]
      exact Ev.no (by simp) (Ev.now _)
theorem spec_ReadVar_ev (s : ByteArray) (a : Int) (hs : s.size ≤ 140737488351232) : Ev (fun k => spec_ReadVar.f k s a) (readOut s a) := by
  unfold spec_ReadVar.f
  rw [spec_l01In_ev]
  simp only [Option.bind_some, decide_eq_true_eq]
  refine Ev.ite (fun h => ?_) (fun h => ?_)
  · obtain ⟨n, rfl⟩ := Int.eq_ofNat_of_zero_le h.1
    exact spec_ReadVar_l0 s hs n (by omega) _ rfl 5 0 rfl (by omega) (by simp)
  · unfold readOut; rw [if_neg h]; exact Ev.now _

theorem impl_ReadVar_l0 (s : ByteArray) (hs : s.size ≤ 140737488351232) (a : Nat) (ha : a ≤ s.size) (L : List Nat) (hL : L = (bs s).drop a) : ∀ (m t : Nat), t + m = 5 → t ≤ L.length → (∀ x ∈ L.take t, 128 ≤ x) →
    Ev (fun k => impl_ReadVar.l0 k s (a : Int) ((val (L.take t) : Nat) : Int) (t : Int)) (readOut s a) := by
  have hlen : L.length = s.size - a := by rw [hL, List.length_drop, bs_length]
  have hb : ∀ x ∈ L, x < 256 := fun x hx => bs_lt s x (List.mem_of_mem_drop (hL ▸ hx))
  have hout : readOut s a = (match readN L with | none => (0, 0, false) | some (n, len) => ((n : Int), (a : Int) + len, true)) := by
    unfold readOut; rw [if_pos (by omega), Int.toNat_natCast, ← hL]; rfl
  have hget : ∀ t (h : t < L.length), bt s ((a + t : Nat) : Int) = ((L[t] : Nat) : Int) := by
    intro t h
    subst hL
    rw [bt_eq (by rw [bs_length]; omega)]
    simp
  intro m
  induction m with
  | zero =>
    intro t ht hl hP
    obtain rfl : t = 5 := by omega
    rw [hout, rd_five hl hP]
    refine Ev.step (impl_ReadVar.l0.eq_2 _ _ _ _) ?_
    refine Ev.no (by omega) ?_
    refine Ev.step (impl_ReadVar.j1.eq_2 _ _ _ _ _) ?_
    exact Ev.no (by simp) (Ev.now _)
  | succ m ih =>
    intro t ht hl hP
    refine Ev.step (impl_ReadVar.l0.eq_2 _ _ _ _) ?_
    refine Ev.yes (by omega) ?_
    refine Ev.step (impl_ReadVar.j1.eq_2 _ _ _ _ _) ?_
    have hat : wrap64 ((a : Int) + (t : Int)) = ((a + t : Nat) : Int) := by rw [w64 (by omega) (by omega)]; omega
    have h7 : wrap64 (7 * (t : Int)) = ((7 * t : Nat) : Int) := by rw [w64 (by omega) (by omega)]; omega
    rw [hat, h7]
    by_cases hlt : t < L.length
    · refine Ev.yes (by simp; omega) ?_
      refine Ev.yes (by omega) (Ev.yes (by omega) (Ev.yes (by omega) ?_))
      have hc := hb _ (List.getElem_mem hlt)
      have k1 : t < 5 := by omega
      have k2 : t + 1 + m = 5 := by omega
      rw [hget t hlt, w64 (x := ((L[t] : Nat) : Int)) (by omega) (by omega), tm128, scale_shl _ k1, acc_next k1 hlt]
      have hq1 : wrap64 (((a + t : Nat) : Int) + 1) = ((a + (t + 1) : Nat) : Int) := by rw [w64 (by omega) (by omega)]; omega
      rw [hq1]
      refine Ev.ite (fun h => ?_) (fun h => ?_)
      · have e5 : wrap64 ((t : Int) + 1) = ((t + 1 : Nat) : Int) := by rw [w64 (by omega) (by omega)]; omega
        rw [e5]
        refine ih (t + 1) k2 hlt ?_
        rw [take_next hlt]
        intro x hx
        rcases List.mem_append.1 hx with hx | hx
        · exact hP x hx
        · have := List.mem_singleton.1 hx; omega
      · have h' : L[t] < 128 := by omega
        have hd := readN_done k1 hlt hP h'
        rw [tight_next hlt] at hd
        rw [hout, hd]
        refine Ev.ite (fun h0 => ?_) (fun h0 => ?_)
        · refine Ev.ite (fun h1 => ?_) (fun h1 => ?_)
          · rw [if_neg (by intro hh; simp at hh; omega)]; exact Ev.now _
          · refine Ev.ite (fun h2 => ?_) (fun h2 => ?_)
            · rw [if_neg (by omega)]; exact Ev.now _
            · rw [if_pos ⟨by simp; omega, by omega⟩]; exact Ev.const (by simp)
        · obtain rfl : t = 0 := by omega
          refine Ev.ite (fun h2 => ?_) (fun h2 => ?_)
          · rw [if_neg (by omega)]; exact Ev.now _
          · rw [if_pos ⟨by simp, by omega⟩]; refine Ev.const ?_; simp
    · refine Ev.no (by simp; omega) ?_
      rw [hout, rd_end (by omega) (by omega) hP]
      exact Ev.now _
theorem impl_ReadVar_ev (s : ByteArray) (a : Int) (hs : s.size ≤ 140737488351232) : Ev (fun k => impl_ReadVar.f k s a) (readOut s a) := by
  unfold impl_ReadVar.f
  rw [impl_within_ev]
  simp only [Option.bind_some, decide_eq_true_eq]
  refine Ev.ite (fun h => ?_) (fun h => ?_)
  · obtain ⟨n, rfl⟩ := Int.eq_ofNat_of_zero_le h.1
    exact impl_ReadVar_l0 s hs n (by omega) _ rfl 5 0 rfl (by omega) (by simp)
  · unfold readOut; rw [if_neg h]; exact Ev.now _

theorem spec_Unframe_l0 (s : ByteArray) (hs : s.size ≤ 140737488351232) : ∀ (d a : Nat) (acc : List ByteArray), a + d = s.size → a ≤ 20000 → acc.length ≤ a → s.size ≤ 20000 →
    Ev (fun k => spec_Unframe.l0 k s acc (a : Int)) ((unfr s acc a).1, ((unfr s acc a).2 : Int)) := by
  intro d
  induction d using Nat.strongRecOn with
  | _ d ih =>
    intro a acc hd ha2 hacc hsz
    have ha : a ≤ s.size := by omega
    refine Ev.step (spec_Unframe.l0.eq_2 s acc (a : Int)) ?_
    by_cases hend : a < s.size
    · refine Ev.yes (by omega) ?_
      refine Ev.bind (spec_ReadVar_ev s a hs) ?_
      cases hr : readN ((bs s).drop a) with
      | none =>
        have hn : next s a = none := by unfold next; rw [hr]
        rw [readOut_none ha hr, unfr_none hn]
        refine Ev.no (by decide) ?_
        refine Ev.step (spec_Unframe.j1.eq_2 _ _ _ _ _ _) ?_
        exact Ev.yes rfl (Ev.now _)
      | some p =>
        obtain ⟨n, len⟩ := p
        have hl := readN_len hr
        rw [List.length_drop, bs_length] at hl
        rw [readOut_some ha hr]
        refine Ev.yes rfl ?_
        refine Ev.step (spec_Unframe.j1.eq_2 _ _ _ _ _ _) ?_
        rw [w64 (x := (s.size : Int) - ((a + len : Nat) : Int)) (by omega) (by omega), w64 (x := (s.size : Int) - ((a + len : Nat) : Int) - 4) (by omega) (by omega)]
        refine Ev.ite (fun h => ?_) (fun h => ?_)
        · have h' : (n : Int) > (s.size : Int) - ((a + len : Nat) : Int) - 4 := by simpa using h
          have hn : next s a = none := by unfold next; rw [hr]; simp only; rw [if_neg (by omega)]
          rw [unfr_none hn]; exact Ev.now _
        · have h' : ¬ (n : Int) > (s.size : Int) - ((a + len : Nat) : Int) - 4 := by simpa using h
          have e1 : wrap64 (((a + len : Nat) : Int) + 4) = ((a + len + 4 : Nat) : Int) := by rw [w64 (by omega) (by omega)]; omega
          have e2 : wrap64 (((a + len + 4 : Nat) : Int) + (n : Int)) = ((a + len + 4 + n : Nat) : Int) := by rw [w64 (by omega) (by omega)]; omega
          have k1 : a + len + 4 + n ≤ s.size := by omega
          rw [e1, e2]
          refine Ev.yes (by omega) (Ev.yes (by omega) (Ev.yes (by omega) ?_))
          simp only [Int.toNat_natCast]
          obtain ⟨t, ht⟩ : ∃ t, t = s.extract (a + len + 4) (a + len + 4 + n) := ⟨_, rfl⟩
          have hts : t.size = n := by rw [ht, size_extract _ _ _ k1]; omega
          have hfr := frame_iff hr k1 t ht
          rw [← ht]
          refine Ev.bind (spec_Frame_ev t (by omega)) ?_
          unfold frameOut
          rw [hts]
          by_cases hc : 1 ≤ (n : Int) ∧ (n : Int) ≤ 9000
          · rw [if_pos hc]
            refine Ev.yes rfl (Ev.yes (by omega) (Ev.yes (by omega) ?_))
            simp only [toList_iff]
            refine Ev.ite (fun h3 => ?_) (fun h3 => ?_)
            · have h4 := hfr.1 h3
              have hn : next s a = some (t, a + len + 4 + n) := by
                unfold next; rw [hr]; simp only; rw [← ht, if_pos ⟨by omega, by omega, k1, h4⟩]
              rw [unfr_some hn]
              refine Ev.yes (by omega) ?_
              exact ih (s.size - (a + len + 4 + n)) (by omega) (a + len + 4 + n) (acc ++ [t]) (by omega) (by omega) (by rw [List.length_append, List.length_singleton]; omega) hsz
            · have hn : next s a = none := by
                unfold next; rw [hr]; simp only; rw [← ht, if_neg (fun h4 => h3 (hfr.2 h4.2.2.2))]
              rw [unfr_none hn]; exact Ev.now _
          · rw [if_neg hc]
            have hn : next s a = none := by unfold next; rw [hr]; simp only; rw [if_neg (by omega)]
            rw [unfr_none hn]
            exact Ev.no (show ¬ (false = true) by decide) (Ev.now _)
    · rw [unfr_none (next_end (by omega))]
      exact Ev.no (by omega) (Ev.now _)
theorem spec_Unframe_ev (s : ByteArray) (hs : s.size ≤ 140737488351232) : Ev (fun k => spec_Unframe.f k s) (unfrOut s) := by
  unfold spec_Unframe.f unfrOut
  refine Ev.bindc rfl ?_
  refine Ev.ite (fun h => ?_) (fun h => ?_)
  · rw [if_neg (by omega)]; exact Ev.now _
  · rw [if_pos (by omega)]
    exact spec_Unframe_l0 s hs s.size 0 [] (by omega) (by omega) (by simp) (by omega)

theorem impl_Unframe_l0 (s : ByteArray) (hs : s.size ≤ 140737488351232) : ∀ (d a : Nat) (acc : List ByteArray), a + d = s.size → a ≤ 20000 → acc.length ≤ a → s.size ≤ 20000 →
    Ev (fun k => impl_Unframe.l0 k s acc (a : Int)) ((unfr s acc a).1, ((unfr s acc a).2 : Int)) := by
  intro d
  induction d using Nat.strongRecOn with
  | _ d ih =>
    intro a acc hd ha2 hacc hsz
    have ha : a ≤ s.size := by omega
    refine Ev.step (impl_Unframe.l0.eq_2 s acc (a : Int)) ?_
    refine Ev.yes (by omega) ?_
    refine Ev.bind (impl_ReadVar_ev s a hs) ?_
    cases hr : readN ((bs s).drop a) with
    | none =>
      have hn : next s a = none := by unfold next; rw [hr]
      rw [readOut_none ha hr, unfr_none hn]
      refine Ev.no (show ¬ (false = true) by decide) ?_
      refine Ev.step (impl_Unframe.j1.eq_2 _ _ _ _ _ _) ?_
      exact Ev.yes rfl (Ev.now _)
    | some p =>
      obtain ⟨n, len⟩ := p
      have hl := readN_len hr
      rw [List.length_drop, bs_length] at hl
      rw [readOut_some ha hr]
      refine Ev.yes rfl ?_
      refine Ev.bindc (impl_within_ev _ _ _) ?_
      by_cases hc : 1 ≤ (n : Int) ∧ (n : Int) ≤ 9000
      · refine Ev.yes (decide_eq_true hc) ?_
        refine Ev.step (impl_Unframe.j1.eq_2 _ _ _ _ _ _) ?_
        rw [w64 (x := (s.size : Int) - ((a + len : Nat) : Int)) (by omega) (by omega), w64 (x := (n : Int) + 4) (by omega) (by omega)]
        refine Ev.ite (fun h => ?_) (fun h => ?_)
        · have h' : (n : Int) + 4 > (s.size : Int) - ((a + len : Nat) : Int) := by simpa using h
          have hn : next s a = none := by unfold next; rw [hr]; simp only; rw [if_neg (by omega)]
          rw [unfr_none hn]; exact Ev.now _
        · have h' : ¬ (n : Int) + 4 > (s.size : Int) - ((a + len : Nat) : Int) := by simpa using h
          have e1 : wrap64 (((a + len : Nat) : Int) + 4) = ((a + len + 4 : Nat) : Int) := by rw [w64 (by omega) (by omega)]; omega
          have e2 : wrap64 (((a + len + 4 : Nat) : Int) + (n : Int)) = ((a + len + 4 + n : Nat) : Int) := by rw [w64 (by omega) (by omega)]; omega
          have k1 : a + len + 4 + n ≤ s.size := by omega
          rw [e1, e2]
          refine Ev.yes (by omega) (Ev.yes (by omega) (Ev.yes (by omega) ?_))
          simp only [Int.toNat_natCast]
          obtain ⟨t, ht⟩ : ∃ t, t = s.extract (a + len + 4) (a + len + 4 + n) := ⟨_, rfl⟩
          have hts : t.size = n := by rw [ht, size_extract _ _ _ k1]; omega
          rw [← ht]
          refine Ev.bind (impl_sumText_ev t (by omega)) ?_
          refine Ev.yes (by omega) (Ev.yes (by omega) (Ev.yes (by omega) ?_))
          simp only [toList_iff]
          refine Ev.ite (fun h3 => ?_) (fun h3 => ?_)
          · have hn : next s a = some (t, a + len + 4 + n) := by
              unfold next; rw [hr]; simp only; rw [← ht, if_pos ⟨by omega, by omega, k1, h3⟩]
            rw [unfr_some hn]
            refine Ev.yes (by omega) ?_
            exact ih (s.size - (a + len + 4 + n)) (by omega) (a + len + 4 + n) (acc ++ [t]) (by omega) (by omega) (by rw [List.length_append, List.length_singleton]; omega) hsz
          · have hn : next s a = none := by
              unfold next; rw [hr]; simp only; rw [← ht, if_neg (fun h4 => h3 h4.2.2.2)]
            rw [unfr_none hn]; exact Ev.now _
      · refine Ev.no (by rw [decide_eq_true_eq]; exact hc) ?_
        refine Ev.step (impl_Unframe.j1.eq_2 _ _ _ _ _ _) ?_
        have hn : next s a = none := by unfold next; rw [hr]; simp only; rw [if_neg (by omega)]
        rw [unfr_none hn]
        exact Ev.yes rfl (Ev.now _)
theorem impl_Unframe_ev (s : ByteArray) (hs : s.size ≤ 140737488351232) : Ev (fun k => impl_Unframe.f k s) (unfrOut s) := by
  unfold impl_Unframe.f unfrOut
  by_cases h : (s.size : Int) ≤ 20000
  · rw [if_pos h]
    exact impl_Unframe_l0 s hs s.size 0 [] (by omega) (by omega) (by simp) (by omega)
  · rw [if_neg h]
    refine Ev.step (impl_Unframe.l0.eq_2 s [] 0) ?_
    exact Ev.no h (Ev.now _)

theorem laws_eqStringS_l0 : ∀ (d i : Nat) (xs : List ByteArray), i + d = xs.length → xs.length ≤ 140737488351232 → Ev (fun k => laws_eqStringS.l0 k xs xs (i : Int)) true := by
  intro d
  induction d with
  | zero =>
    intro i xs hi hx
    refine Ev.step (laws_eqStringS.l0.eq_2 xs xs (i : Int)) ?_
    exact Ev.no (by omega) (Ev.now _)
  | succ d ih =>
    intro i xs hi hx
    refine Ev.step (laws_eqStringS.l0.eq_2 xs xs (i : Int)) ?_
    refine Ev.yes (by omega) (Ev.yes (by omega) (Ev.yes (by omega) (Ev.yes rfl ?_)))
    rw [w64 (by omega) (by omega)]
    exact ih (i + 1) xs (by omega) hx
theorem laws_eqStringS_ev (xs : List ByteArray) (hx : xs.length ≤ 140737488351232) : Ev (fun k => laws_eqStringS.f k xs xs) true := by
  unfold laws_eqStringS.f
  exact Ev.yes rfl (laws_eqStringS_l0 xs.length 0 xs (by omega) hx)

/-- some text for each number, whatever it is -/
theorem laws_markText_l0 : ∀ (n : Nat) (s : ByteArray), n < 9223372036854775808 → s.size + n ≤ 9223372036854775800 → ∃ t, Ev (fun k => laws_markText.l0 k (n : Int) s) t := by
  intro n
  induction n using Nat.strongRecOn with
  | _ n ih =>
    intro s hn hs
    by_cases h : n = 0
    · subst h
      refine ⟨(⟨#[109]⟩ : ByteArray) ++ s, Ev.step (laws_markText.l0.eq_2 _ s) ?_⟩
      exact Ev.no (by omega) (Ev.yes (by omega) (Ev.now _))
    · have e1 : wrap64 (Int.tdiv (n : Int) 10) = ((n / 10 : Nat) : Int) := by rw [td10, w64] <;> omega
      obtain ⟨t, ht⟩ := ih (n / 10) (by omega) (strOfNums [wrap64 (48 + Int.tmod (n : Int) 10) % 256] ++ s) (by omega) (by rw [size_append, size_nums, List.length_singleton]; omega)
      refine ⟨t, Ev.step (laws_markText.l0.eq_2 _ s) ?_⟩
      refine Ev.yes (by omega) (Ev.bindc rfl (Ev.yes (by rw [size_nums, List.length_singleton]; omega) ?_))
      rw [e1]
      exact ht
theorem laws_markText_ev (n : Int) (h0 : n < 1000000000000000) : ∃ t, Ev (fun k => laws_markText.f k n) t := by
  unfold laws_markText.f
  by_cases h : n ≤ 0
  · exact ⟨_, Ev.yes h (Ev.now _)⟩
  · obtain ⟨m, rfl⟩ := Int.eq_ofNat_of_zero_le (show 0 ≤ n by omega)
    obtain ⟨t, ht⟩ := laws_markText_l0 m (⟨#[]⟩ : ByteArray) (by omega) (by show 0 + m ≤ _; omega)
    exact ⟨t, Ev.no h ht⟩

/-- the number behind the marks -/
theorem laws_markStringS_l0 : ∀ (d i : Nat) (xs : List ByteArray) (m : Int), i + d = xs.length → xs.length ≤ 1000000 → 0 ≤ m → m + d ≤ 1000000000000 →
    ∃ ys : List ByteArray, Ev (fun k => laws_markStringS.l0 k xs m (i : Int)) (m + d, ys) ∧ ys.length = xs.length ∧ ys.take i = xs.take i ∧
      (∀ j, j < d → Ev (fun k => laws_markText.f k (m + j)) (rdOf ByteArray.empty ys ((i + j : Nat) : Int))) := by
  intro d
  induction d with
  | zero =>
    intro i xs m hi hx h0 hm
    refine ⟨xs, Ev.step (laws_markStringS.l0.eq_2 xs m (i : Int)) ?_, rfl, rfl, fun j hj => by omega⟩
    refine Ev.no (by omega) (Ev.const ?_)
    simp
  | succ d ih =>
    intro i xs m hi hx h0 hm
    obtain ⟨t, ht⟩ := laws_markText_ev m (by omega)
    obtain ⟨ys, hy, hlen, htake, hall⟩ := ih (i + 1) (xs.set i t) (m + 1) (by simp; omega) (by simpa using hx) (by omega) (by omega)
    refine ⟨ys, Ev.step (laws_markStringS.l0.eq_2 xs m (i : Int)) ?_, by simpa using hlen, ?_, ?_⟩
    · refine Ev.yes (by omega) (Ev.bind ht (Ev.yes (by omega) ?_))
      rw [w64 (x := m + 1) (by omega) (by omega), w64 (x := (i : Int) + 1) (by omega) (by omega), Int.toNat_natCast]
      have e : m + 1 + (d : Int) = m + ((d + 1 : Nat) : Int) := by omega
      rw [e] at hy
      exact hy
    · have h1 := congrArg (List.take i) htake
      rw [List.take_take, List.take_take, Nat.min_eq_left (by omega)] at h1
      rw [h1]
      apply List.ext_getElem?
      intro n
      by_cases hn : n < i
      · rw [List.getElem?_take_of_lt hn, List.getElem?_take_of_lt hn, List.getElem?_set_ne (by omega)]
      · rw [List.getElem?_eq_none (by simp; omega), List.getElem?_eq_none (by simp; omega)]
    · intro j hj
      cases j with
      | zero =>
        have e : rdOf ByteArray.empty ys ((i + 0 : Nat) : Int) = t := by
          unfold rdOf
          have h1 := congrArg (fun l => l[i]?) htake
          change (ys.take (i + 1))[i]? = ((xs.set i t).take (i + 1))[i]? at h1
          rw [List.getElem?_take_of_lt (by omega), List.getElem?_take_of_lt (by omega), List.getElem?_set_self (by omega)] at h1
          rw [List.getD_eq_getElem?_getD, Int.toNat_natCast, Nat.add_zero, h1]; rfl
        rw [e]
        simpa using ht
      | succ j =>
        have := hall j (by omega)
        have e1 : m + ((j + 1 : Nat) : Int) = m + 1 + (j : Int) := by omega
        have e2 : i + (j + 1) = i + 1 + j := by omega
        rw [e1, e2]
        exact this
theorem laws_heldStringS_l0 : ∀ (d i : Nat) (ys : List ByteArray) (m : Int), i + d = ys.length → ys.length ≤ 1000000 → 0 ≤ m → m + d ≤ 1000000000000 →
    (∀ j, j < d → Ev (fun k => laws_markText.f k (m + j)) (rdOf ByteArray.empty ys ((i + j : Nat) : Int))) → Ev (fun k => laws_heldStringS.l0 k ys m (i : Int)) (m + d) := by
  intro d
  induction d with
  | zero =>
    intro i ys m hi hx h0 hm _
    refine Ev.step (laws_heldStringS.l0.eq_2 ys m (i : Int)) ?_
    refine Ev.no (by omega) (Ev.const ?_)
    simp
  | succ d ih =>
    intro i ys m hi hx h0 hm hall
    refine Ev.step (laws_heldStringS.l0.eq_2 ys m (i : Int)) ?_
    have h1 := hall 0 (by omega)
    simp only [Nat.add_zero, Int.natCast_zero, Int.add_zero] at h1
    refine Ev.yes (by omega) (Ev.yes (by omega) (Ev.bind h1 (Ev.yes rfl ?_)))
    rw [w64 (x := m + 1) (by omega) (by omega), w64 (x := (i : Int) + 1) (by omega) (by omega)]
    have := ih (i + 1) ys (m + 1) (by omega) hx (by omega) (by omega) (fun j hj => by
      have := hall (j + 1) (by omega)
      have e1 : m + ((j + 1 : Nat) : Int) = m + 1 + (j : Int) := by omega
      have e2 : i + (j + 1) = i + 1 + j := by omega
      rw [e1, e2] at this
      exact this)
    have e : m + 1 + (d : Int) = m + ((d + 1 : Nat) : Int) := by omega
    rw [e] at this
    exact this
theorem marks_ev (xs : List ByteArray) (hx : xs.length ≤ 1000000) : ∃ (ys : List ByteArray) (m : Int), Ev (fun k => laws_markStringS.f k xs 1) (m, ys) ∧ ys.length = xs.length ∧ 0 ≤ m ∧ Ev (fun k => laws_heldStringS.f k ys 1) m := by
  obtain ⟨ys, h1, h2, _, h4⟩ := laws_markStringS_l0 xs.length 0 xs 1 (by omega) hx (by omega) (by omega)
  refine ⟨ys, 1 + xs.length, h1, h2, by omega, ?_⟩
  have := laws_heldStringS_l0 xs.length 0 ys 1 (by omega) (by omega) (by omega) (by omega) h4
  exact this

theorem FnExactUnframe : laws_FnExactUnframe.Pure := by
  intro s hs
  apply Ev.rounds
  unfold laws_FnExactUnframe.f
  refine Ev.ite (fun _ => Ev.now _) (fun hbig => ?_)
  have hl := unfrOut_len s
  refine Ev.bind (spec_Unframe_ev s hs) (Ev.bind (impl_Unframe_ev s hs) ?_)
  refine Ev.bind (laws_eqStringS_ev _ (by omega)) ?_
  refine Ev.yes rfl ?_
  refine Ev.step (laws_FnExactUnframe.j0.eq_2 _ _ _ _ _) ?_
  refine Ev.no (by simp) ?_
  obtain ⟨ys, m, hm, hy, hm0, hh⟩ := marks_ev (unfrOut s).1 (by omega)
  refine Ev.bind hm (Ev.bind hh ?_)
  refine Ev.no (by show ¬ m < 0; omega) (Ev.yes rfl ?_)
  refine Ev.bind (impl_Unframe_ev s hs) (Ev.bind (laws_eqStringS_ev _ (by omega)) ?_)
  refine Ev.yes rfl ?_
  refine Ev.step (laws_FnExactUnframe.j1.eq_2 _ _ _) ?_
  refine Ev.no (by simp) ?_
  refine Ev.bind hh ?_
  exact Ev.no (by show ¬ m < 0; omega) (Ev.yes rfl (Ev.now _))

end Go.Proofs.Ytikneakpbnihnaa.Pure
