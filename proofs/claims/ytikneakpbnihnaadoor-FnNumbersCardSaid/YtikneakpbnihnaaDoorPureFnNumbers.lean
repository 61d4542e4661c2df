/- A drawn number comes back from its bytes and from its figures, a drawn text from its framed form and from its figures: for every draw. No condition. -/
import Derived.Test.YtikneakpbnihnaaDoorVar
import Derived.Test.YtikneakpbnihnaaDoorHex
import Derived.Test.YtikneakpbnihnaaDoorDec
import Derived.Test.YtikneakpbnihnaaDoorQFnNumbersx4
namespace Go.Proofs.YtikneakpbnihnaaDoor.Pure
open Go.RowKit Go.Proofs.YtikneakpbnihnaaDoor.PFnNumbers Go.Proofs.YtikneakpbnihnaaDoorW.PrintWords Go.Proofs.YtikneakpbnihnaaDoorW.PrintLast Go.Proofs.YtikneakpbnihnaaDoorW.PrintMore Go.Proofs.YtikneakpbnihnaaDoor.Gen
set_option linter.unusedVariables false

theorem impl_within_ev (a b c : Int) : impl_within.f a b c = some (decide (b ≤ a ∧ a ≤ c)) := by
  unfold impl_within.f
  by_cases h : a ≥ b
  · rw [if_pos h]; congr 1; simp; omega
  · rw [if_neg h]; congr 1; simp; omega

theorem impl_VarText_l0 : ∀ (n : Nat), n < 9223372036854775808 → ∀ (xs : List Int), xs.length + (varN n).length ≤ 140737488355328 →
    Ev (fun k => impl_VarText.l0 k (n : Int) xs) (strOfNums (xs ++ (varN n).map Int.ofNat), true) := by
  intro n
  induction n using Nat.strongRecOn with
  | _ n ih =>
    intro hn xs hx
    refine Ev.step (impl_VarText.l0.eq_2 (n : Int) xs) ?_
    have hp := varN_pos n
    refine Ev.ite (fun h => ?_) (fun h => ?_)
    · have h' : n > 127 := by omega
      have e := varN_big h'
      rw [e, List.length_cons] at hx
      refine Ev.yes (by omega) ?_
      have e1 : wrap64 (Int.tdiv (n : Int) 128) = ((n / 128 : Nat) : Int) := by rw [td128, w64] <;> omega
      have e2 : wrap64 (Int.tmod (n : Int) 128 + 128) % 256 = ((n % 128 + 128 : Nat) : Int) := by rw [tm128, w64] <;> omega
      rw [e1, e2, e]
      have := ih (n / 128) (by omega) (by omega) (xs ++ [((n % 128 + 128 : Nat) : Int)]) (by simp; omega)
      simpa using this
    · have h' : ¬ n > 127 := by omega
      have e := varN_small h'
      rw [e] at hx ⊢
      simp at hx
      refine Ev.yes (by omega) (Ev.const ?_)
      rw [show (n : Int) % 256 = n by omega]
      rfl

/-- what VarText tells -/
def varOut (a : Int) : ByteArray × Bool := if 0 ≤ a ∧ a ≤ 1000000000 then (varT a.toNat, true) else (⟨#[]⟩, false)
theorem impl_VarText_ev (a : Int) : Ev (fun k => impl_VarText.f k a) (varOut a) := by
  unfold impl_VarText.f varOut
  rw [impl_within_ev]
  simp only [Option.bind_some, decide_eq_true_eq]
  refine Ev.ite (fun h => ?_) (fun h => ?_)
  · rw [if_pos h]
    obtain ⟨n, rfl⟩ := Int.eq_ofNat_of_zero_le h.1
    have := varN_len10 (n := n) (by omega)
    exact impl_VarText_l0 n (by omega) [] (by simp; omega)
  · rw [if_neg h]; exact Ev.now _

theorem impl_ReadVar_l0 (s : ByteArray) (hs : s.size ≤ 140737488351232) (a : Nat) (ha : a ≤ s.size) (L : List Nat) (hL : L = (bs s).drop a) : ∀ (m t : Nat), t + m = 5 → t ≤ L.length → (∀ x ∈ L.take t, 128 ≤ x) →
    Ev (fun k => impl_ReadVar.l0 k s (a : Int) ((val (L.take t) : Nat) : Int) (t : Int)) (readOut s a) := by
  have hlen : L.length = s.size - a := by rw [hL, List.length_drop, bs_length]
  have hb : ∀ x ∈ L, x < 256 := fun x hx => bs_lt s x (List.mem_of_mem_drop (hL ▸ hx))
  have hout : readOut s a = (match readN L with | none => (0, 0, false) | some (n, len) => ((n : Int), (a : Int) + len, true)) := by
    unfold readOut; rw [if_pos (by omega), Int.toNat_natCast, ← hL]; rfl
  have hget : ∀ t (h : t < L.length), bt s ((a + t : Nat) : Int) = ((L[t] : Nat) : Int) := by
    intro t h
    subst hL
    rw [bt_eq (by rw [bs_length]; omega)]
    simp
  intro m
  induction m with
  | zero =>
    intro t ht hl hP
    obtain rfl : t = 5 := by omega
    rw [hout, rd_five hl hP]
    refine Ev.step (impl_ReadVar.l0.eq_2 _ _ _ _) ?_
    refine Ev.no (by omega) ?_
    refine Ev.step (impl_ReadVar.j1.eq_2 _ _ _ _ _) ?_
    exact Ev.no (by simp) (Ev.now _)
  | succ m ih =>
    intro t ht hl hP
    refine Ev.step (impl_ReadVar.l0.eq_2 _ _ _ _) ?_
    refine Ev.yes (by omega) ?_
    refine Ev.step (impl_ReadVar.j1.eq_2 _ _ _ _ _) ?_
    have hat : wrap64 ((a : Int) + (t : Int)) = ((a + t : Nat) : Int) := by rw [w64 (by omega) (by omega)]; omega
    have h7 : wrap64 (7 * (t : Int)) = ((7 * t : Nat) : Int) := by rw [w64 (by omega) (by omega)]; omega
    rw [hat, h7]
    by_cases hlt : t < L.length
    · refine Ev.yes (by simp; omega) ?_
      refine Ev.yes (by omega) (Ev.yes (by omega) (Ev.yes (by omega) ?_))
      have hc := hb _ (List.getElem_mem hlt)
      have k1 : t < 5 := by omega
      have k2 : t + 1 + m = 5 := by omega
      rw [hget t hlt, w64 (x := ((L[t] : Nat) : Int)) (by omega) (by omega), tm128, scale_shl _ k1, acc_next k1 hlt]
      have hq1 : wrap64 (((a + t : Nat) : Int) + 1) = ((a + (t + 1) : Nat) : Int) := by rw [w64 (by omega) (by omega)]; omega
      rw [hq1]
      refine Ev.ite (fun h => ?_) (fun h => ?_)
      · have e5 : wrap64 ((t : Int) + 1) = ((t + 1 : Nat) : Int) := by rw [w64 (by omega) (by omega)]; omega
        rw [e5]
        refine ih (t + 1) k2 hlt ?_
        rw [take_next hlt]
        intro x hx
        rcases List.mem_append.1 hx with hx | hx
        · exact hP x hx
        · have := List.mem_singleton.1 hx; omega
      · have h' : L[t] < 128 := by omega
        have hd := readN_done k1 hlt hP h'
        rw [tight_next hlt] at hd
        rw [hout, hd]
        refine Ev.ite (fun h0 => ?_) (fun h0 => ?_)
        · refine Ev.ite (fun h1 => ?_) (fun h1 => ?_)
          · rw [if_neg (by intro hh; simp at hh; omega)]; exact Ev.now _
          · refine Ev.ite (fun h2 => ?_) (fun h2 => ?_)
            · rw [if_neg (by omega)]; exact Ev.now _
            · rw [if_pos ⟨by simp; omega, by omega⟩]; exact Ev.const (by simp)
        · obtain rfl : t = 0 := by omega
          refine Ev.ite (fun h2 => ?_) (fun h2 => ?_)
          · rw [if_neg (by omega)]; exact Ev.now _
          · rw [if_pos ⟨by simp, by omega⟩]; refine Ev.const ?_; simp
    · refine Ev.no (by simp; omega) ?_
      rw [hout, rd_end (by omega) (by omega) hP]
      exact Ev.now _
theorem impl_ReadVar_ev (s : ByteArray) (a : Int) (hs : s.size ≤ 140737488351232) : Ev (fun k => impl_ReadVar.f k s a) (readOut s a) := by
  unfold impl_ReadVar.f
  rw [impl_within_ev]
  simp only [Option.bind_some, decide_eq_true_eq]
  refine Ev.ite (fun h => ?_) (fun h => ?_)
  · obtain ⟨n, rfl⟩ := Int.eq_ofNat_of_zero_le h.1
    exact impl_ReadVar_l0 s hs n (by omega) _ rfl 5 0 rfl (by omega) (by simp)
  · unfold readOut; rw [if_neg h]; exact Ev.now _

theorem impl_ReadShort_ev (s : ByteArray) (a : Int) (hs : s.size ≤ 140737488351232) : Ev (fun k => impl_ReadShort.f k s a) (shortIn s a) := by
  unfold impl_ReadShort.f shortIn
  refine Ev.bind (impl_ReadVar_ev s a hs) ?_
  have hb := readOut_range s a hs
  refine Ev.ite (fun h => ?_) (fun h => ?_)
  · obtain ⟨h0, h1, h2, h3⟩ := hb h
    refine Ev.ite (fun h4 => ?_) (fun h4 => ?_)
    · rw [if_neg (by omega)]; exact Ev.now _
    rw [w64 (x := (s.size : Int) - (readOut s a).2.1) (by omega) (by omega)]
    refine Ev.ite (fun h5 => ?_) (fun h5 => ?_)
    · rw [if_neg (by omega)]; exact Ev.now _
    rw [w64 (x := (readOut s a).2.1 + (readOut s a).1) (by omega) (by omega)]
    refine Ev.yes (by omega) (Ev.yes (by omega) (Ev.yes (by omega) ?_))
    rw [if_pos ⟨h, by omega, by omega⟩]; exact Ev.now _
  · rw [if_neg (fun h6 => h h6.1)]; exact Ev.now _

/-- what ShortText tells -/
def shortOut (s : ByteArray) : ByteArray × Bool := if (s.size : Int) > 20000 then (⟨#[]⟩, false) else (varT s.size ++ s, true)
theorem impl_ShortText_ev (s : ByteArray) : Ev (fun k => impl_ShortText.f k s) (shortOut s) := by
  unfold impl_ShortText.f shortOut
  refine Ev.ite (fun h => ?_) (fun h => ?_)
  · rw [if_pos h]; exact Ev.now _
  · rw [if_neg h]
    refine Ev.bind (impl_VarText_ev s.size) ?_
    have h5 := varN_len10 (n := s.size) (by omega)
    have e : varOut (s.size : Int) = (varT s.size, true) := by unfold varOut; rw [if_pos (by omega)]; rfl
    rw [e]
    exact Ev.yes (by simp only [varT_size]; omega) (Ev.now _)

def hexOut (s : ByteArray) : ByteArray × Bool := if (s.size : Int) > 20000 then (⟨#[]⟩, false) else (strOfNums ((hexN (bs s)).map Int.ofNat), true)
theorem impl_Hex_l0 (s : ByteArray) (hs : s.size ≤ 140737488351232) : ∀ (d i : Nat) (xs : List Int), i + d = s.size → xs.length + 2 * d < 140737488355328 →
    Ev (fun k => impl_Hex.l0 k s xs (i : Int)) (strOfNums (xs ++ (hexN ((bs s).drop i)).map Int.ofNat), true) := by
  intro d
  induction d with
  | zero =>
    intro i xs hi hx
    refine Ev.step (impl_Hex.l0.eq_2 s xs (i : Int)) ?_
    refine Ev.no (by omega) (Ev.const ?_)
    rw [List.drop_eq_nil_of_le (by rw [bs_length]; omega)]; simp [hexN]
  | succ d ih =>
    intro i xs hi hx
    refine Ev.step (impl_Hex.l0.eq_2 s xs (i : Int)) ?_
    refine Ev.yes (by omega) (Ev.yes (by omega) ?_)
    have hlt : i < (bs s).length := by rw [bs_length]; omega
    have hb := bs_lt s _ (List.getElem_mem hlt)
    have hd := List.drop_eq_getElem_cons hlt
    have eb := bt_eq hlt
    generalize (bs s)[i] = c at hb hd eb
    have e1 : Int.tdiv (c : Int) 16 % 256 = ((c / 16 : Nat) : Int) := by rw [td16]; omega
    rw [eb, hd, hexN_cons, e1, tm16, fig_bt (by omega), fig_bt (by omega)]
    refine Ev.yes (by omega) (Ev.yes (by omega) (Ev.yes (by omega) (Ev.yes (by omega) (Ev.bindc rfl ?_))))
    refine Ev.yes (by simp; omega) ?_
    rw [w64 (by omega) (by omega)]
    have := ih (i + 1) (xs ++ [(fig (c / 16) : Int), (fig (c % 16) : Int)]) (by omega) (by simp; omega)
    simpa using this
theorem impl_Hex_ev (s : ByteArray) (hs : s.size ≤ 140737488351232) : Ev (fun k => impl_Hex.f k s) (hexOut s) := by
  unfold impl_Hex.f hexOut
  refine Ev.ite (fun h => ?_) (fun h => ?_)
  · rw [if_pos h]; exact Ev.now _
  · rw [if_neg h]
    have := impl_Hex_l0 s hs s.size 0 [] (by omega) (by simp; omega)
    simpa using this

theorem strings_IndexByte_ev {c : Nat} (h : c < 256) : strings_IndexByte.f (⟨#[48, 49, 50, 51, 52, 53, 54, 55, 56, 57, 97, 98, 99, 100, 101, 102]⟩ : ByteArray) (c : Int) = some (unfig c) := congrArg some (unfig_index h)
theorem impl_Unhex_l0 (s : ByteArray) (hs : s.size ≤ 140737488351232) (h2 : s.size % 2 = 0) : ∀ (d i : Nat) (xs : List Int), i + 2 * d = s.size → xs.length ≤ i →
    Ev (fun k => impl_Unhex.l0 k s xs (i : Int)) (match unhexN ((bs s).drop i) with | none => (⟨#[]⟩, false) | some ys => (strOfNums (xs ++ ys), true)) := by
  intro d
  induction d with
  | zero =>
    intro i xs hi hx
    refine Ev.step (impl_Unhex.l0.eq_2 s xs (i : Int)) ?_
    refine Ev.no (by omega) (Ev.const ?_)
    rw [List.drop_eq_nil_of_le (by rw [bs_length]; omega)]; simp [unhexN]
  | succ d ih =>
    intro i xs hi hx
    refine Ev.step (impl_Unhex.l0.eq_2 s xs (i : Int)) ?_
    refine Ev.yes (by omega) (Ev.yes (by omega) ?_)
    have hlt : i < (bs s).length := by rw [bs_length]; omega
    have hlt2 : i + 1 < (bs s).length := by rw [bs_length]; omega
    have ha := bs_lt s _ (List.getElem_mem hlt)
    have hb := bs_lt s _ (List.getElem_mem hlt2)
    have hd := List.drop_eq_getElem_cons hlt
    rw [List.drop_eq_getElem_cons hlt2] at hd
    have ea := bt_eq hlt
    have eb := bt_eq hlt2
    generalize (bs s)[i] = a at ha hd ea
    generalize (bs s)[i + 1] = b at hb hd eb
    have e1 : wrap64 ((i : Int) + 1) = ((i + 1 : Nat) : Int) := by rw [w64 (by omega) (by omega)]; omega
    have e2 : wrap64 ((i : Int) + 2) = ((i + 2 : Nat) : Int) := by rw [w64 (by omega) (by omega)]; omega
    rw [e1, e2, ea, eb, hd]
    have ra := unfig_range a
    have rb := unfig_range b
    refine Ev.bindc (strings_IndexByte_ev ha) (Ev.yes (by omega) (Ev.yes (by omega) (Ev.bindc (strings_IndexByte_ev hb) ?_)))
    simp only [unhexN]
    refine Ev.ite (fun h => ?_) (fun h => ?_)
    · rw [if_pos (Or.inl h)]; exact Ev.now _
    refine Ev.ite (fun h3 => ?_) (fun h3 => ?_)
    · rw [if_pos (Or.inr h3)]; exact Ev.now _
    rw [if_neg (by omega)]
    refine Ev.yes (by omega) ?_
    have e3 : wrap64 (wrap64 (16 * unfig a) + unfig b) % 256 = 16 * unfig a + unfig b := by rw [w64 (x := 16 * unfig a) (by omega) (by omega), w64 (by omega) (by omega)]; omega
    rw [e3]
    have := ih (i + 2) (xs ++ [16 * unfig a + unfig b]) (by omega) (by rw [List.length_append, List.length_singleton]; omega)
    cases hu : unhexN ((bs s).drop (i + 2)) with
    | none => rw [hu] at this; simp only [Option.map_none]; exact this
    | some ys => rw [hu] at this; simp only [Option.map_some]; simpa using this

theorem impl_Unhex_ev (s : ByteArray) (hs : s.size ≤ 140737488351232) : Ev (fun k => impl_Unhex.f k s) (unhexOut s) := by
  unfold impl_Unhex.f unhexOut
  refine Ev.ite (fun h => ?_) (fun h => ?_)
  · refine Ev.step (impl_Unhex.j0.eq_2 _ _) ?_
    by_cases h2 : (s.size : Int) > 40000
    · rw [if_neg (by omega)]
      exact Ev.yes (decide_eq_true h2) (Ev.now _)
    · rw [if_pos (by omega)]
      refine Ev.no (by rw [decide_eq_true_eq]; exact h2) ?_
      have := impl_Unhex_l0 s hs (by omega) (s.size / 2) 0 [] (by omega) (by simp)
      simp only [List.drop_zero, List.nil_append] at this
      exact this
  · rw [if_neg (by omega)]
    exact Ev.step (impl_Unhex.j0.eq_2 _ _) (Ev.yes rfl (Ev.now _))

/-! the reader of draws: whatever it tells, it is in its range -/
theorem spec_l01Byte_ev (b : List Int) (i h : Int) (hb : b.length ≤ 140737488351232) (hi : 0 ≤ i) : ∃ r i' h', spec_l01Byte.f b i h = some (r, i', h') ∧ (0 ≤ r ∧ r ≤ 255) ∧ 0 ≤ i' := by
  unfold spec_l01Byte.f
  by_cases hc : i < (b.length : Int)
  · rw [if_pos hc, if_pos hi, w64 (x := i + 1) (by omega) (by omega)]
    exact ⟨_, _, _, rfl, and_255 _, by omega⟩
  · rw [if_neg hc]
    exact ⟨_, _, _, rfl, and_255 _, hi⟩
theorem spec_l01Below_ev (b : List Int) (i h n : Int) (hb : b.length ≤ 140737488351232) (hi : 0 ≤ i) (hn : n ≤ 4294967296) : ∃ r i' h', spec_l01Below.f b i h n = some (r, i', h') ∧ (0 ≤ r ∧ (r < n ∨ n ≤ 0 ∧ r = 0)) ∧ 0 ≤ i' := by
  unfold spec_l01Below.f
  by_cases h0 : n ≤ 0
  · rw [if_pos h0]; exact ⟨_, _, _, rfl, ⟨by omega, Or.inr ⟨h0, rfl⟩⟩, hi⟩
  rw [if_neg h0]
  by_cases h1 : n ≤ 256
  · rw [if_pos h1]
    obtain ⟨r, i1, g1, e1, r1, j1⟩ := spec_l01Byte_ev b i h hb hi
    rw [e1]
    simp only [Option.bind_some]
    rw [if_neg (by omega)]
    have := tmod_range r n r1.1 (by omega)
    exact ⟨_, _, _, rfl, ⟨this.1, Or.inl this.2⟩, j1⟩
  · rw [if_neg h1]
    obtain ⟨x1, i1, g1, e1, r1, j1⟩ := spec_l01Byte_ev b i h hb hi
    obtain ⟨x2, i2, g2, e2, r2, j2⟩ := spec_l01Byte_ev b i1 g1 hb j1
    obtain ⟨x3, i3, g3, e3, r3, j3⟩ := spec_l01Byte_ev b i2 g2 hb j2
    obtain ⟨x4, i4, g4, e4, r4, j4⟩ := spec_l01Byte_ev b i3 g3 hb j3
    rw [e1]; simp only [Option.bind_some]
    rw [e2]; simp only [Option.bind_some]
    rw [e3]; simp only [Option.bind_some]
    rw [e4]; simp only [Option.bind_some]
    rw [if_neg (by omega)]
    have ew : 0 ≤ wrap64 ((wrap64 ((wrap64 ((wrap64 (x1 * 16777216)) + (wrap64 (x2 * 65536)))) + (wrap64 (x3 * 256)))) + x4) := by
      rw [w64 (x := x1 * 16777216) (by omega) (by omega), w64 (x := x2 * 65536) (by omega) (by omega), w64 (x := x3 * 256) (by omega) (by omega), w64 (x := x1 * 16777216 + x2 * 65536) (by omega) (by omega), w64 (x := x1 * 16777216 + x2 * 65536 + x3 * 256) (by omega) (by omega), w64 (by omega) (by omega)]
      omega
    have := tmod_range _ n ew (by omega)
    exact ⟨_, _, _, rfl, ⟨this.1, Or.inl this.2⟩, j4⟩
theorem spec_l01New_l0 (l : List Int) (hl : l.length ≤ 140737488351232) : ∀ (d : Nat) (i h : Int), 0 ≤ i → (l.length : Int) - i ≤ d → ∃ h', Ev (fun k => spec_l01New.l0 k l h i) (l, 0, h') := by
  intro d
  induction d with
  | zero =>
    intro i h h0 hd
    exact ⟨h, Ev.step (spec_l01New.l0.eq_2 l h i) (Ev.no (by omega) (Ev.now _))⟩
  | succ d ih =>
    intro i h h0 hd
    by_cases h1 : i < (l.length : Int)
    · by_cases h2 : i < 4000
      · obtain ⟨h', e⟩ := ih (i + 1) (Go.bits .and .i64 (wrap64 ((wrap64 ((wrap64 (h * 131)) + (wrap64 (rd l i)))) + 7)) 1073741823) (by omega) (by omega)
        refine ⟨h', Ev.step (spec_l01New.l0.eq_2 l h i) (Ev.yes h1 (Ev.yes h2 (Ev.yes h0 ?_)))⟩
        rw [w64 (x := i + 1) (by omega) (by omega)]
        exact e
      · exact ⟨h, Ev.step (spec_l01New.l0.eq_2 l h i) (Ev.yes h1 (Ev.no h2 (Ev.now _)))⟩
    · exact ⟨h, Ev.step (spec_l01New.l0.eq_2 l h i) (Ev.no h1 (Ev.now _))⟩
theorem spec_l01New_ev (l : List Int) (hl : l.length ≤ 140737488351232) : ∃ h, Ev (fun k => spec_l01New.f k l) (l, 0, h) := by
  obtain ⟨h, e⟩ := spec_l01New_l0 l hl l.length 0 (wrap64 (35201 + (l.length : Int))) (by omega) (by omega)
  exact ⟨h, e⟩

theorem spec_l01Text_l0 (n : Int) (hn : n ≤ 5000) (b : List Int) (hb : b.length ≤ 140737488351232) : ∀ (d : Nat) (j : Int) (xs : List Int) (i h : Int), n - j ≤ d → 0 ≤ j → 0 ≤ i → (xs.length : Int) ≤ j → xs.length ≤ 5000 →
    ∃ t i' h', Ev (fun k => spec_l01Text.l0 k n xs j b i h) (t, i', h') ∧ t.size ≤ 5000 ∧ ((xs.length : Int) = j → j ≤ n → (t.size : Int) = n) ∧ 0 ≤ i' := by
  intro d
  induction d with
  | zero =>
    intro j xs i h hd h0 hi hx hx5
    exact ⟨_, _, _, Ev.step (spec_l01Text.l0.eq_2 n xs j b i h) (Ev.no (by omega) (Ev.now _)), by rw [size_nums]; exact hx5, by rw [size_nums]; omega, hi⟩
  | succ d ih =>
    intro j xs i h hd h0 hi hx hx5
    by_cases hc : j < n
    · obtain ⟨r, i1, h1, e1, r1, j1⟩ := spec_l01Byte_ev b i h hb hi
      obtain ⟨t, i2, h2, e, ht, ht2, hi2⟩ := ih (j + 1) (xs ++ [r % 256]) i1 h1 (by omega) (by omega) j1 (by rw [List.length_append, List.length_singleton]; omega) (by rw [List.length_append, List.length_singleton]; omega)
      refine ⟨t, i2, h2, Ev.step (spec_l01Text.l0.eq_2 n xs j b i h) (Ev.yes hc (Ev.bindc e1 (Ev.yes (by omega) ?_))), ht, ?_, hi2⟩
      · rw [w64 (x := j + 1) (by omega) (by omega)]
        exact e
      · intro h3 h4
        exact ht2 (by rw [List.length_append, List.length_singleton]; omega) (by omega)
    · exact ⟨_, _, _, Ev.step (spec_l01Text.l0.eq_2 n xs j b i h) (Ev.no hc (Ev.now _)), by rw [size_nums]; exact hx5, by rw [size_nums]; omega, hi⟩
theorem spec_l01Text_ev (n : Int) (b : List Int) (i h : Int) (hb : b.length ≤ 140737488351232) (hi : 0 ≤ i) (hn : n ≤ 1000000) :
    ∃ t i' h', Ev (fun k => spec_l01Text.f k b i h n) (t, i', h') ∧ t.size ≤ 5000 ∧ (0 ≤ n → n ≤ 5000 → (t.size : Int) = n) ∧ 0 ≤ i' := by
  unfold spec_l01Text.f
  by_cases hc : n > 5000
  · obtain ⟨t, i2, h2, e, ht, ht2, hi2⟩ := spec_l01Text_l0 5000 (by omega) b hb 5000 0 [] i h (by omega) (by omega) hi (by simp) (by simp)
    exact ⟨t, i2, h2, Ev.yes hc (Ev.step (spec_l01Text.j0.eq_2 _ b i h) e), ht, by omega, hi2⟩
  · obtain ⟨t, i2, h2, e, ht, ht2, hi2⟩ := spec_l01Text_l0 n (by omega) b hb 5000 0 [] i h (by omega) (by omega) hi (by simp) (by simp)
    exact ⟨t, i2, h2, Ev.no hc (Ev.step (spec_l01Text.j0.eq_2 _ b i h) e), ht, fun h3 _ => ht2 rfl h3, hi2⟩

theorem spec_l01Long_l0 (n x : Int) : ∀ (d : Nat) (j : Int) (xs : List Int), j + d = n → 0 ≤ j → n ≤ 1000000 → (xs.length : Int) = n → ∃ t : ByteArray, Ev (fun k => spec_l01Long.l0 k n x xs j) t ∧ (t.size : Int) = n := by
  intro d
  induction d with
  | zero =>
    intro j xs hj h0 hn hx
    exact ⟨_, Ev.step (spec_l01Long.l0.eq_2 n x xs j) (Ev.no (by omega) (Ev.now _)), by rw [size_nums]; exact hx⟩
  | succ d ih =>
    intro j xs hj h0 hn hx
    obtain ⟨t, e, ht⟩ := ih (j + 1) (xs.set j.toNat x) (by omega) (by omega) hn (by rw [List.length_set]; exact hx)
    refine ⟨t, Ev.step (spec_l01Long.l0.eq_2 n x xs j) (Ev.yes (by omega) (Ev.yes h0 (Ev.yes (by omega) ?_))), ht⟩
    rw [w64 (x := j + 1) (by omega) (by omega)]
    exact e
theorem spec_l01Long_ev (n x : Int) (h0 : 0 ≤ n) (hn : n ≤ 1000000) : ∃ t : ByteArray, Ev (fun k => spec_l01Long.f k n x) t ∧ (t.size : Int) = n := by
  unfold spec_l01Long.f
  obtain ⟨t, e, ht⟩ := spec_l01Long_l0 n x n.toNat 0 (List.replicate n.toNat 0) (by omega) (by omega) hn (by rw [List.length_replicate]; omega)
  exact ⟨t, Ev.yes h0 (Ev.yes (by omega) e), ht⟩
theorem spec_l01Once_ev (b : List Int) (i h n : Int) (hb : b.length ≤ 140737488351232) (hi : 0 ≤ i) (hn : n ≤ 4294967296) : ∃ r i' h', spec_l01Once.f b i h n = some (r, i', h') ∧ 0 ≤ i' := by
  obtain ⟨r, i1, h1, e1, -, j1⟩ := spec_l01Below_ev b i h n hb hi hn
  unfold spec_l01Once.f
  rw [e1]
  exact ⟨_, _, _, rfl, j1⟩


theorem spec_DrawHex_ev (l : List Int) (hl : l.length ≤ 140737488351232) : ∃ t : ByteArray, Ev (fun k => spec_DrawHex.f k l) t ∧ t.size ≤ 20001 := by
  obtain ⟨h, e⟩ := spec_l01New_ev l hl
  obtain ⟨o, i1, h1, e1, j1⟩ := spec_l01Once_ev l 0 h 60 hl (by omega) (by omega)
  cases o with
  | true =>
    obtain ⟨r, i2, h2, e2, r2, j2⟩ := spec_l01Below_ev l i1 h1 2 hl j1 (by omega)
    obtain ⟨t, e3, h3⟩ := spec_l01Long_ev (20000 + r) 200 (by omega) (by omega)
    refine ⟨t, Ev.bind e (Ev.bindc e1 (Ev.yes rfl (Ev.bindc e2 ?_))), by omega⟩
    simp only
    rw [w64 (x := 20000 + r) (by omega) (by omega)]
    exact Ev.bind e3 (Ev.now _)
  | false =>
    obtain ⟨r, i2, h2, e2, r2, j2⟩ := spec_l01Below_ev l i1 h1 30 hl j1 (by omega)
    obtain ⟨t, i3, h3, e3, ht, -, -⟩ := spec_l01Text_ev r l i2 h2 hl j2 (by omega)
    exact ⟨t, Ev.bind e (Ev.bindc e1 (Ev.no (show ¬ (false = true) by decide) (Ev.bindc e2 (Ev.bind e3 (Ev.now _))))), by omega⟩

/-! decimal numerals read -/
theorem num_some {l : List UInt8} {v : Int} (h0 : 0 ≤ v) (h1 : v ≤ 1000000000) (h : Lib.itoa v = l) : impl_ReadDecimal.num l = some v := by
  subst h
  unfold impl_ReadDecimal.num
  rw [atoi_itoa v h0 h1]
  simp only
  rw [if_pos ⟨h0, h1, trivial⟩]
theorem num_none {l : List UInt8} (h : ∀ v : Int, 0 ≤ v → v ≤ 1000000000 → Lib.itoa v ≠ l) : impl_ReadDecimal.num l = none := by
  unfold impl_ReadDecimal.num
  split
  · rw [if_neg (fun e => h _ e.1 e.2.1 e.2.2)]
  · rfl
def res : Option Int → Int × Bool
  | some v => (v, true)
  | none => (0, false)
theorem impl_ReadDecimal_eq (a : ByteArray) (h : a.size ≤ 281474976710656) : impl_ReadDecimal.f a = some (res (impl_ReadDecimal.num a.data.toList)) := by
  unfold impl_ReadDecimal.f
  rw [if_pos h]
  cases impl_ReadDecimal.num a.data.toList <;> rfl

theorem spec_l01PickInt_ev (b : List Int) (i h : Int) (l : List Int) (hb : b.length ≤ 140737488351232) (hi : 0 ≤ i) (hl : l.length ≤ 256) (h1 : 0 < l.length) : ∃ r i' h', spec_l01PickInt.f b i h l = some (r, i', h') := by
  unfold spec_l01PickInt.f
  obtain ⟨r, i1, h1', e1, r1, j1⟩ := spec_l01Below_ev b i h l.length hb hi (by omega)
  rw [e1]
  simp only [Option.bind_some]
  rw [if_pos (by omega), if_pos (by omega)]
  exact ⟨_, _, _, rfl⟩
theorem spec_DrawVarText_ev (l : List Int) (hl : l.length ≤ 140737488351232) : ∃ n : Int, Ev (fun k => spec_DrawVarText.f k l) n := by
  obtain ⟨h, e⟩ := spec_l01New_ev l hl
  obtain ⟨r, i1, h1, e1, r1, j1⟩ := spec_l01Below_ev l 0 h 4 hl (by omega) (by omega)
  have : ∃ n i' h', spec_l01Number.f l 0 h = some (n, i', h') := by
    unfold spec_l01Number.f
    rw [e1]
    simp only [Option.bind_some]
    split
    · obtain ⟨n, i2, h2, e2⟩ := spec_l01PickInt_ev l i1 h1 [(-1), 0, 127, 128, 16383, 16384, 1000000000, 1000000001, 9223372036854775807, (-9223372036854775808)] hl j1 (by decide) (by decide)
      rw [e2]; exact ⟨_, _, _, rfl⟩
    · split
      · obtain ⟨n, i2, h2, e2, _⟩ := spec_l01Below_ev l i1 h1 1000000000 hl j1 (by omega)
        rw [e2]; exact ⟨_, _, _, rfl⟩
      · obtain ⟨n, i2, h2, e2, _⟩ := spec_l01Below_ev l i1 h1 400 hl j1 (by omega)
        rw [e2]; exact ⟨_, _, _, rfl⟩
  obtain ⟨n, i2, h2, e2⟩ := this
  exact ⟨n, Ev.bind e (Ev.bindc e2 (Ev.now _))⟩
theorem read_back (n : Nat) (hn : n ≤ 1000000000) (p q : ByteArray) : readOut (p ++ varT n ++ q) (p.size : Int) = ((n : Int), (p.size : Int) + ((varT n).size : Int), true) := by
  unfold readOut
  have hs : (p ++ varT n ++ q).size = p.size + (varT n).size + q.size := by rw [size_append, size_append]
  rw [if_pos (by omega), bs_append, bs_append, Int.toNat_natCast, List.append_assoc, List.drop_left' (bs_length p), bs_varT, readN_varN n hn, varT_size]
theorem short_back (t : ByteArray) (ht : t.size ≤ 20000) : shortIn (varT t.size ++ t) 0 = (t, ((varT t.size ++ t).size : Int), true) := by
  have h := read_back t.size (by omega) (⟨#[]⟩ : ByteArray) t
  have e0 : (⟨#[]⟩ : ByteArray) ++ varT t.size = varT t.size := bs_inj (by rw [bs_append, bs_empty, List.nil_append])
  have z0 : (((⟨#[]⟩ : ByteArray).size : Nat) : Int) = 0 := rfl
  rw [e0, z0] at h
  have hs : (varT t.size ++ t).size = (varT t.size).size + t.size := size_append _ _
  unfold shortIn
  rw [h]
  simp only
  rw [if_pos ⟨trivial, by omega, by omega⟩]
  have ex : (varT t.size ++ t).extract (0 + ((varT t.size).size : Int)).toNat (0 + ((varT t.size).size : Int) + (t.size : Int)).toNat = t := by
    apply bs_inj
    rw [bs_extract, bs_append, show (0 + ((varT t.size).size : Int)).toNat = (varT t.size).size by omega, List.drop_left' (bs_length _), List.take_of_length_le (by rw [bs_length]; omega)]
  rw [ex, hs]
  congr 2
  omega
theorem hex_back (t : ByteArray) (ht : t.size ≤ 20000) : ∃ h : ByteArray, hexOut t = (h, true) ∧ h.size ≤ 40000 ∧ unhexOut h = (t, true) := by
  refine ⟨strOfNums ((hexN (bs t)).map Int.ofNat), by unfold hexOut; rw [if_neg (by omega)], ?_, ?_⟩
  · rw [size_nums, List.length_map, hexN_length, bs_length]; omega
  · have hb : bs (strOfNums ((hexN (bs t)).map Int.ofNat)) = hexN (bs t) := by
      rw [bs_nums _ (by
        intro x hx
        obtain ⟨y, hy, rfl⟩ := List.mem_map.1 hx
        have := hexN_lt (bs t) (bs_lt t) y hy
        exact ⟨Int.natCast_nonneg y, by show (y : Int) < 256; omega⟩), List.map_map]
      exact List.map_id _
    have hs : (strOfNums ((hexN (bs t)).map Int.ofNat)).size = 2 * t.size := by rw [← bs_length, hb, hexN_length, bs_length]
    unfold unhexOut
    rw [hb, hs, if_pos (by omega), unhexN_hexN _ (bs_lt t)]
    simp only
    rw [nums_bs]
/-- the text's half -/
theorem law_j2 (n : Int) (hn : 0 ≤ n) (h1 : n ≤ 1000000000) (v : ByteArray) (hv : v.size ≤ 5) (t : ByteArray) (ht : t.size ≤ 300) :
    Ev (fun k => laws_FnNumbers.j2 k n v true n (1 + (v.size : Int)) true n true t) true := by
  refine Ev.step (laws_FnNumbers.j2.eq_2 _ _ _ _ _ _ _ _ _) ?_
  refine Ev.bind (impl_ShortText_ev t) ?_
  have es : shortOut t = (varT t.size ++ t, true) := by unfold shortOut; rw [if_neg (by omega)]
  rw [es]
  have hvs : (varT t.size).size ≤ 5 := by rw [varT_size]; exact varN_len5 (by omega)
  refine Ev.bind (impl_ReadShort_ev (varT t.size ++ t) 0 (by rw [size_append]; omega)) ?_
  rw [short_back t (by omega)]
  obtain ⟨h, e1, e2, e3⟩ := hex_back t (by omega)
  refine Ev.bind (impl_Hex_ev t (by omega)) ?_
  rw [e1]
  refine Ev.bind (impl_Unhex_ev h (by omega)) ?_
  rw [e3]
  refine Ev.yes rfl (Ev.yes rfl (Ev.yes rfl (Ev.yes rfl (Ev.yes rfl (Ev.yes rfl (Ev.yes rfl (Ev.yes rfl (Ev.yes rfl (Ev.yes ?_ (Ev.yes rfl (Ev.yes rfl ?_)))))))))))
  · rw [w64 (by omega) (by omega)]; omega
  · exact Ev.const (by rw [beq_self_eq_true])
/-- the number's half -/
theorem law_j1 (l : List Int) (hl : l.length ≤ 140737488351232) (n : Int) (hn : 0 ≤ n) (h1 : n ≤ 1000000000) : Ev (fun k => laws_FnNumbers.j1 k l n) true := by
  refine Ev.step (laws_FnNumbers.j1.eq_2 _ _) ?_
  refine Ev.bind (impl_VarText_ev n) ?_
  have ev : varOut n = (varT n.toNat, true) := by unfold varOut; rw [if_pos ⟨hn, h1⟩]
  rw [ev]
  simp only
  have hv : (varT n.toNat).size ≤ 5 := by rw [varT_size]; exact varN_len5 (by omega)
  have z1 : (⟨#[120]⟩ : ByteArray).size = 1 := rfl
  have z2 : (⟨#[121]⟩ : ByteArray).size = 1 := rfl
  refine Ev.yes (by omega) (Ev.yes (by rw [size_append]; omega) ?_)
  have hr := read_back n.toNat (by omega) (⟨#[120]⟩ : ByteArray) (⟨#[121]⟩ : ByteArray)
  refine Ev.bind (impl_ReadVar_ev _ 1 (by rw [size_append, size_append]; omega)) ?_
  rw [show ((1 : Int) = (((⟨#[120]⟩ : ByteArray).size : Nat) : Int)) from rfl, hr]
  have hd : impl_Decimal.f n = some ⟨(Lib.itoa n).toArray⟩ := by
    show (strconv_Itoa.f n).bind _ = _
    rw [strconv_Itoa.f, if_pos (by omega)]; rfl
  have hz : (⟨(Lib.itoa n).toArray⟩ : ByteArray).size ≤ 10 := by
    have := figs_len 10 n.toNat (by omega) (by omega)
    rw [← itoa_figs n hn, List.length_map] at this
    exact this
  have hrd : impl_ReadDecimal.f ⟨(Lib.itoa n).toArray⟩ = some (n, true) := by
    rw [impl_ReadDecimal_eq _ (by omega), num_some hn h1 (by simp)]; rfl
  refine Ev.bindc hd (Ev.bindc hrd ?_)
  obtain ⟨t, et, _⟩ := spec_DrawHex_ev l hl
  refine Ev.bind et ?_
  have en : ((n.toNat : Nat) : Int) = n := by omega
  simp only [en]
  refine Ev.ite (fun h => ?_) (fun h => ?_)
  · exact law_j2 n hn h1 (varT n.toNat) hv _ (by decide)
  · exact law_j2 n hn h1 (varT n.toNat) hv t (by omega)
theorem FnNumbers : laws_FnNumbers.Pure := by
  intro l hm hl hw
  have hl' : l.length ≤ 140737488351232 := by omega
  apply Ev.rounds
  unfold laws_FnNumbers.f laws_big.f
  refine Ev.bindc rfl ?_
  refine Ev.ite (fun _ => Ev.now _) (fun _ => ?_)
  obtain ⟨n, en⟩ := spec_DrawVarText_ev l hl'
  refine Ev.bind en (Ev.ite (fun h => ?_) (fun h => ?_))
  · exact Ev.step (laws_FnNumbers.j0.eq_2 _ _ _) (Ev.yes rfl (law_j1 l hl' 12345 (by decide) (by decide)))
  · refine Ev.step (laws_FnNumbers.j0.eq_2 _ _ _) (Ev.ite (fun h2 => law_j1 l hl' 12345 (by decide) (by decide)) (fun h2 => ?_))
    have : ¬ n > 1000000000 := by rw [decide_eq_true_eq] at h2; exact h2
    exact law_j1 l hl' n (by omega) (by omega)
end Go.Proofs.YtikneakpbnihnaaDoor.Pure
