/- ReadShort returns what the reference returns, for every text and every int. No condition. -/
import Derived.Test.YtikneakpbnihnaaVar
import Derived.Test.YtikneakpbnihnaaPFnExactReadShortx2
namespace Go.Proofs.Ytikneakpbnihnaa.Pure
open Go.RowKit Go.Proofs.Ytikneakpbnihnaa.PFnExactReadShort Go.Proofs.YtikneakpbnihnaaW.PrintWords Go.Proofs.YtikneakpbnihnaaW.PrintLast Go.Proofs.YtikneakpbnihnaaW.PrintMore Go.Proofs.Ytikneakpbnihnaa.Gen
set_option linter.unusedVariables false

theorem spec_l01In_ev (a b c : Int) : spec_l01In.f a b c = some (decide (b ≤ a ∧ a ≤ c)) := by
  unfold spec_l01In.f
  by_cases h : a ≥ b
  · rw [if_pos h]; congr 1; simp; omega
  · rw [if_neg h]; congr 1; simp; omega

theorem impl_within_ev (a b c : Int) : impl_within.f a b c = some (decide (b ≤ a ∧ a ≤ c)) := by
  unfold impl_within.f
  by_cases h : a ≥ b
  · rw [if_pos h]; congr 1; simp; omega
  · rw [if_neg h]; congr 1; simp; omega

theorem spec_l01Var_l0 : ∀ (n : Nat), n < 9223372036854775808 → ∀ (xs : List Int), xs.length + (varN n).length ≤ 140737488355328 →
    Ev (fun k => spec_l01Var.l0 k (n : Int) xs) (strOfNums (xs ++ (varN n).map Int.ofNat)) := by
  intro n
  induction n using Nat.strongRecOn with
  | _ n ih =>
    intro hn xs hx
    refine Ev.step (spec_l01Var.l0.eq_2 (n : Int) xs) ?_
    have hp := varN_pos n
    refine Ev.ite (fun h => ?_) (fun h => ?_)
    · have h' : n > 127 := by omega
      have e := varN_big h'
      rw [e, List.length_cons] at hx
      refine Ev.yes (by omega) ?_
      have e1 : wrap64 (Int.tdiv (n : Int) 128) = ((n / 128 : Nat) : Int) := by rw [td128, w64] <;> omega
      have e2 : wrap64 (Int.tmod (n : Int) 128 + 128) % 256 = ((n % 128 + 128 : Nat) : Int) := by rw [tm128, w64] <;> omega
      rw [e1, e2, e]
      have := ih (n / 128) (by omega) (by omega) (xs ++ [((n % 128 + 128 : Nat) : Int)]) (by simp; omega)
      simpa using this
    · have h' : ¬ n > 127 := by omega
      have e := varN_small h'
      rw [e] at hx ⊢
      simp at hx
      refine Ev.yes (by omega) (Ev.const ?_)
      rw [show (n : Int) % 256 = n by omega]
      rfl

theorem spec_l01Var_ev (n : Nat) (hn : n < 9223372036854775808) : Ev (fun k => spec_l01Var.f k (n : Int)) (varT n) := by
  have := varN_len10 hn
  exact spec_l01Var_l0 n hn [] (by simp; omega)

theorem spec_ReadVar_l0 (s : ByteArray) (hs : s.size ≤ 140737488351232) (a : Nat) (ha : a ≤ s.size) (L : List Nat) (hL : L = (bs s).drop a) : ∀ (m t : Nat), t + m = 5 → t ≤ L.length → (∀ x ∈ L.take t, 128 ≤ x) →
    Ev (fun k => spec_ReadVar.l0 k s (a : Int) ((val (L.take t) : Nat) : Int) ((128 ^ t : Nat) : Int) ((a + t : Nat) : Int)) (readOut s a) := by
  have hlen : L.length = s.size - a := by rw [hL, List.length_drop, bs_length]
  have hb : ∀ x ∈ L, x < 256 := fun x hx => bs_lt s x (List.mem_of_mem_drop (hL ▸ hx))
  have hout : readOut s a = (match readN L with | none => (0, 0, false) | some (n, len) => ((n : Int), (a : Int) + len, true)) := by
    unfold readOut; rw [if_pos (by omega), Int.toNat_natCast, ← hL]; rfl
  have hget : ∀ t (h : t < L.length), bt s ((a + t : Nat) : Int) = ((L[t] : Nat) : Int) := by
    intro t h
    subst hL
    rw [bt_eq (by rw [bs_length]; omega)]
    simp
  have hbs : ∀ t, t < L.length → bs (s.extract a (a + t + 1)) = L.take (t + 1) := by
    intro t h
    rw [bs_extract, hL]; congr 1; omega
  intro m
  induction m with
  | zero =>
    intro t ht hl hP
    obtain rfl : t = 5 := by omega
    rw [hout, rd_five hl hP]
    refine Ev.step (spec_ReadVar.l0.eq_2 _ _ _ _ _) ?_
    refine Ev.ite (fun h => ?_) (fun h => ?_)
    · refine Ev.step (spec_ReadVar.j1.eq_2 _ _ _ _ _ _) ?_
      refine Ev.no ?_ (Ev.now _)
      rw [w64 (by omega) (by omega)]; simp
    · refine Ev.step (spec_ReadVar.j1.eq_2 _ _ _ _ _ _) ?_
      exact Ev.no (by simp) (Ev.now _)
  | succ m ih =>
    intro t ht hl hP
    refine Ev.step (spec_ReadVar.l0.eq_2 _ _ _ _ _) ?_
    by_cases hlt : t < L.length
    · refine Ev.yes (by omega) ?_
      refine Ev.step (spec_ReadVar.j1.eq_2 _ _ _ _ _ _) ?_
      refine Ev.yes (by rw [w64 (by omega) (by omega)]; simp; omega) ?_
      refine Ev.yes (by omega) (Ev.yes (by omega) ?_)
      have hc := hb _ (List.getElem_mem hlt)
      have k1 : t < 5 := by omega
      have k2 : t + 1 + m = 5 := by omega
      have k4 : a + (t + 1) ≤ s.size := by omega
      rw [hget t hlt, scale_mul k1 hc, acc_next k1 hlt]
      have hq1 : wrap64 (((a + t : Nat) : Int) + 1) = ((a + (t + 1) : Nat) : Int) := by rw [w64 (by omega) (by omega)]; omega
      rw [hq1]
      refine Ev.ite (fun h => ?_) (fun h => ?_)
      · have h' : L[t] < 128 := by omega
        have hd := readN_done k1 hlt hP h'
        have hx := varN_next k1 hlt hb hP h'
        refine Ev.ite (fun h2 => ?_) (fun h2 => ?_)
        · rw [hout, hd, if_neg (by omega)]; exact Ev.now _
        · refine Ev.bind (spec_l01Var_ev _ (Nat.lt_trans (val_take_lt (show t + 1 ≤ 5 from k1)) (by decide))) ?_
          refine Ev.yes (by omega) (Ev.yes (by omega) (Ev.yes (by omega) ?_))
          have e3 : (varT (val (L.take (t + 1)))).toList = (s.extract ((a : Nat) : Int).toNat (((a + (t + 1) : Nat) : Int)).toNat).toList ↔ tightD (L.take (t + 1)) = true := by
            rw [toList_iff, ← hx]
            constructor
            · intro h3
              have := congrArg bs h3
              rw [bs_varT, Int.toNat_natCast, Int.toNat_natCast, ← Nat.add_assoc, hbs t hlt] at this
              exact this
            · intro h3
              apply bs_inj
              rw [bs_varT, Int.toNat_natCast, Int.toNat_natCast, ← Nat.add_assoc, hbs t hlt]
              exact h3
          rw [hout, hd]
          refine Ev.ite (fun h3 => ?_) (fun h3 => ?_)
          · rw [if_pos ⟨e3.1 h3, by omega⟩]; exact Ev.const (by simp)
          · rw [if_neg (fun h4 => h3 (e3.2 h4.1))]; exact Ev.now _
      · rw [scale_next k1]
        refine ih (t + 1) k2 hlt ?_
        rw [take_next hlt]
        intro x hx
        rcases List.mem_append.1 hx with hx | hx
        · exact hP x hx
        · have := List.mem_singleton.1 hx; omega
    · refine Ev.no (by omega) ?_
      refine Ev.step (spec_ReadVar.j1.eq_2 _ _ _ _ _ _) ?_
      rw [hout, rd_end (by omega) (by omega) hP]
      exact Ev.no (by simp) (Ev.now _)
theorem spec_ReadVar_ev (s : ByteArray) (a : Int) (hs : s.size ≤ 140737488351232) : Ev (fun k => spec_ReadVar.f k s a) (readOut s a) := by
  unfold spec_ReadVar.f
  rw [spec_l01In_ev]
  simp only [Option.bind_some, decide_eq_true_eq]
  refine Ev.ite (fun h => ?_) (fun h => ?_)
  · obtain ⟨n, rfl⟩ := Int.eq_ofNat_of_zero_le h.1
    exact spec_ReadVar_l0 s hs n (by omega) _ rfl 5 0 rfl (by omega) (by simp)
  · unfold readOut; rw [if_neg h]; exact Ev.now _

theorem impl_ReadVar_l0 (s : ByteArray) (hs : s.size ≤ 140737488351232) (a : Nat) (ha : a ≤ s.size) (L : List Nat) (hL : L = (bs s).drop a) : ∀ (m t : Nat), t + m = 5 → t ≤ L.length → (∀ x ∈ L.take t, 128 ≤ x) →
    Ev (fun k => impl_ReadVar.l0 k s (a : Int) ((val (L.take t) : Nat) : Int) (t : Int)) (readOut s a) := by
  have hlen : L.length = s.size - a := by rw [hL, List.length_drop, bs_length]
  have hb : ∀ x ∈ L, x < 256 := fun x hx => bs_lt s x (List.mem_of_mem_drop (hL ▸ hx))
  have hout : readOut s a = (match readN L with | none => (0, 0, false) | some (n, len) => ((n : Int), (a : Int) + len, true)) := by
    unfold readOut; rw [if_pos (by omega), Int.toNat_natCast, ← hL]; rfl
  have hget : ∀ t (h : t < L.length), bt s ((a + t : Nat) : Int) = ((L[t] : Nat) : Int) := by
    intro t h
    subst hL
    rw [bt_eq (by rw [bs_length]; omega)]
    simp
  intro m
  induction m with
  | zero =>
    intro t ht hl hP
    obtain rfl : t = 5 := by omega
    rw [hout, rd_five hl hP]
    refine Ev.step (impl_ReadVar.l0.eq_2 _ _ _ _) ?_
    refine Ev.no (by omega) ?_
    refine Ev.step (impl_ReadVar.j1.eq_2 _ _ _ _ _) ?_
    exact Ev.no (by simp) (Ev.now _)
  | succ m ih =>
    intro t ht hl hP
    refine Ev.step (impl_ReadVar.l0.eq_2 _ _ _ _) ?_
    refine Ev.yes (by omega) ?_
    refine Ev.step (impl_ReadVar.j1.eq_2 _ _ _ _ _) ?_
    have hat : wrap64 ((a : Int) + (t : Int)) = ((a + t : Nat) : Int) := by rw [w64 (by omega) (by omega)]; omega
    have h7 : wrap64 (7 * (t : Int)) = ((7 * t : Nat) : Int) := by rw [w64 (by omega) (by omega)]; omega
    rw [hat, h7]
    by_cases hlt : t < L.length
    · refine Ev.yes (by simp; omega) ?_
      refine Ev.yes (by omega) (Ev.yes (by omega) (Ev.yes (by omega) ?_))
      have hc := hb _ (List.getElem_mem hlt)
      have k1 : t < 5 := by omega
      have k2 : t + 1 + m = 5 := by omega
      rw [hget t hlt, w64 (x := ((L[t] : Nat) : Int)) (by omega) (by omega), tm128, scale_shl _ k1, acc_next k1 hlt]
      have hq1 : wrap64 (((a + t : Nat) : Int) + 1) = ((a + (t + 1) : Nat) : Int) := by rw [w64 (by omega) (by omega)]; omega
      rw [hq1]
      refine Ev.ite (fun h => ?_) (fun h => ?_)
      · have e5 : wrap64 ((t : Int) + 1) = ((t + 1 : Nat) : Int) := by rw [w64 (by omega) (by omega)]; omega
        rw [e5]
        refine ih (t + 1) k2 hlt ?_
        rw [take_next hlt]
        intro x hx
        rcases List.mem_append.1 hx with hx | hx
        · exact hP x hx
        · have := List.mem_singleton.1 hx; omega
      · have h' : L[t] < 128 := by omega
        have hd := readN_done k1 hlt hP h'
        rw [tight_next hlt] at hd
        rw [hout, hd]
        refine Ev.ite (fun h0 => ?_) (fun h0 => ?_)
        · refine Ev.ite (fun h1 => ?_) (fun h1 => ?_)
          · rw [if_neg (by intro hh; simp at hh; omega)]; exact Ev.now _
          · refine Ev.ite (fun h2 => ?_) (fun h2 => ?_)
            · rw [if_neg (by omega)]; exact Ev.now _
            · rw [if_pos ⟨by simp; omega, by omega⟩]; exact Ev.const (by simp)
        · obtain rfl : t = 0 := by omega
          refine Ev.ite (fun h2 => ?_) (fun h2 => ?_)
          · rw [if_neg (by omega)]; exact Ev.now _
          · rw [if_pos ⟨by simp, by omega⟩]; refine Ev.const ?_; simp
    · refine Ev.no (by simp; omega) ?_
      rw [hout, rd_end (by omega) (by omega) hP]
      exact Ev.now _
theorem impl_ReadVar_ev (s : ByteArray) (a : Int) (hs : s.size ≤ 140737488351232) : Ev (fun k => impl_ReadVar.f k s a) (readOut s a) := by
  unfold impl_ReadVar.f
  rw [impl_within_ev]
  simp only [Option.bind_some, decide_eq_true_eq]
  refine Ev.ite (fun h => ?_) (fun h => ?_)
  · obtain ⟨n, rfl⟩ := Int.eq_ofNat_of_zero_le h.1
    exact impl_ReadVar_l0 s hs n (by omega) _ rfl 5 0 rfl (by omega) (by simp)
  · unfold readOut; rw [if_neg h]; exact Ev.now _

theorem spec_ReadShort_ev (s : ByteArray) (a : Int) (hs : s.size ≤ 140737488351232) : Ev (fun k => spec_ReadShort.f k s a) (shortIn s a) := by
  unfold spec_ReadShort.f shortIn
  refine Ev.bind (spec_ReadVar_ev s a hs) ?_
  have hb := readOut_range s a hs
  refine Ev.ite (fun h => ?_) (fun h => ?_)
  · obtain ⟨h0, h1, h2, h3⟩ := hb h
    refine Ev.ite (fun h4 => ?_) (fun h4 => ?_)
    · rw [if_neg (by omega)]; exact Ev.now _
    rw [w64 (x := (s.size : Int) - (readOut s a).2.1) (by omega) (by omega)]
    refine Ev.ite (fun h5 => ?_) (fun h5 => ?_)
    · rw [if_neg (by omega)]; exact Ev.now _
    rw [w64 (x := (readOut s a).2.1 + (readOut s a).1) (by omega) (by omega)]
    refine Ev.yes (by omega) (Ev.yes (by omega) (Ev.yes (by omega) ?_))
    rw [if_pos ⟨h, by omega, by omega⟩]; exact Ev.now _
  · rw [if_neg (fun h6 => h h6.1)]; exact Ev.now _

theorem impl_ReadShort_ev (s : ByteArray) (a : Int) (hs : s.size ≤ 140737488351232) : Ev (fun k => impl_ReadShort.f k s a) (shortIn s a) := by
  unfold impl_ReadShort.f shortIn
  refine Ev.bind (impl_ReadVar_ev s a hs) ?_
  have hb := readOut_range s a hs
  refine Ev.ite (fun h => ?_) (fun h => ?_)
  · obtain ⟨h0, h1, h2, h3⟩ := hb h
    refine Ev.ite (fun h4 => ?_) (fun h4 => ?_)
    · rw [if_neg (by omega)]; exact Ev.now _
    rw [w64 (x := (s.size : Int) - (readOut s a).2.1) (by omega) (by omega)]
    refine Ev.ite (fun h5 => ?_) (fun h5 => ?_)
    · rw [if_neg (by omega)]; exact Ev.now _
    rw [w64 (x := (readOut s a).2.1 + (readOut s a).1) (by omega) (by omega)]
    refine Ev.yes (by omega) (Ev.yes (by omega) (Ev.yes (by omega) ?_))
    rw [if_pos ⟨h, by omega, by omega⟩]; exact Ev.now _
  · rw [if_neg (fun h6 => h h6.1)]; exact Ev.now _

theorem FnExactReadShort : laws_FnExactReadShort.Pure := by
  intro s a hs _
  apply Ev.rounds
  unfold laws_FnExactReadShort.f
  refine Ev.ite (fun _ => Ev.now _) (fun h => ?_)
  refine Ev.bind (spec_ReadShort_ev s a hs) ?_
  refine Ev.bind (impl_ReadShort_ev s a hs) ?_
  refine Ev.const ?_
  simp

end Go.Proofs.Ytikneakpbnihnaa.Pure
