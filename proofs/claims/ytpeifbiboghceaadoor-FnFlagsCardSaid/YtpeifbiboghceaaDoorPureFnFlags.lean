/- Drawn flags come back from their text; to add and to take them does what the reference does: for every draw. No condition. -/
import Derived.Test.YtpeifbiboghceaaDoorSplit
import Derived.Test.YtpeifbiboghceaaDoorQFnFlagsx5
namespace Go.Proofs.YtpeifbiboghceaaDoor.Pure
open Go.RowKit Go.Proofs.YtpeifbiboghceaaDoor.PFnFlags Go.Proofs.YtpeifbiboghceaaDoorW.PrintWords Go.Proofs.YtpeifbiboghceaaDoorW.PrintLast Go.Proofs.YtpeifbiboghceaaDoorW.PrintMore Go.Proofs.YtpeifbiboghceaaDoor.Gen
set_option linter.unusedVariables false

theorem spec_l01In_ev (a b c : Int) : spec_l01In.f a b c = some (decide (b ≤ a ∧ a ≤ c)) := by
  unfold spec_l01In.f
  by_cases h : a ≥ b
  · rw [if_pos h]; congr 1; simp; omega
  · rw [if_neg h]; congr 1; simp; omega

theorem impl_within_ev (a b c : Int) : impl_within.f a b c = some (decide (b ≤ a ∧ a ≤ c)) := by
  unfold impl_within.f
  by_cases h : a ≥ b
  · rw [if_pos h]; congr 1; simp; omega
  · rw [if_neg h]; congr 1; simp; omega

theorem spec_FlagsOk_ev (a : Int) : spec_FlagsOk.f a = some (decide (0 ≤ a ∧ a ≤ 31)) := by unfold spec_FlagsOk.f; rw [spec_l01In_ev]; rfl
theorem impl_FlagsOk_ev (a : Int) : impl_FlagsOk.f a = some (decide (0 ≤ a ∧ a ≤ 31)) := by unfold impl_FlagsOk.f; rw [impl_within_ev]; rfl

theorem and_fin : ∀ a b : Fin 32, spec_l06And.f 7 ((a.val : Nat) : Int) ((b.val : Nat) : Int) = some ((a.val &&& b.val : Nat) : Int) := by decide +kernel
theorem or_fin : ∀ a b : Fin 32, Go.bits .or .i64 ((a.val : Nat) : Int) ((b.val : Nat) : Int) = ((a.val ||| b.val : Nat) : Int) ∧ Go.bits .andNot .i64 ((a.val : Nat) : Int) ((b.val : Nat) : Int) = ((a.val - (a.val &&& b.val) : Nat) : Int)
    ∧ a.val + b.val = (a.val ||| b.val) + (a.val &&& b.val) ∧ (a.val &&& b.val) ≤ a.val ∧ (a.val ||| b.val) < 32 := by decide +kernel
/-- what FlagsAfter tells -/
def flagsOut (a how b : Int) : Int :=
  if (0 ≤ a ∧ a ≤ 31) ∧ (0 ≤ b ∧ b ≤ 31) then
    if how = 1 then b else if how = 2 then ((a.toNat ||| b.toNat : Nat) : Int) else if how = 3 then ((a.toNat - (a.toNat &&& b.toNat) : Nat) : Int) else a
  else a
theorem spec_l06And_ev (a b : Nat) (ha : a < 32) (hb : b < 32) : Ev (fun k => spec_l06And.f k (a : Int) (b : Int)) ((a &&& b : Nat) : Int) :=
  Ev.of (fun k => spec_l06And.mono _ _ k) (and_fin ⟨a, ha⟩ ⟨b, hb⟩)
theorem spec_FlagsAfter_ev (a how b : Int) : Ev (fun k => spec_FlagsAfter.f k a how b) (flagsOut a how b) := by
  unfold spec_FlagsAfter.f flagsOut
  rw [spec_FlagsOk_ev a, spec_FlagsOk_ev b]
  simp only [Option.bind_some, decide_eq_true_eq]
  refine Ev.ite (fun h => ?_) (fun h => ?_)
  · refine Ev.step (spec_FlagsAfter.j0.eq_2 a how b _) ?_
    refine Ev.ite (fun h2 => ?_) (fun h2 => ?_)
    · rw [if_neg (show ¬ ((0 ≤ a ∧ a ≤ 31) ∧ (0 ≤ b ∧ b ≤ 31)) from fun hh => by simp [hh.2] at h2)]; exact Ev.now _
    · have hb : 0 ≤ b ∧ b ≤ 31 := by simpa using h2
      rw [if_pos (show ((0 ≤ a ∧ a ≤ 31) ∧ (0 ≤ b ∧ b ≤ 31)) from ⟨h, hb⟩)]
      obtain ⟨n, rfl⟩ := Int.eq_ofNat_of_zero_le h.1
      obtain ⟨m, rfl⟩ := Int.eq_ofNat_of_zero_le hb.1
      obtain ⟨-, -, e3, e4, e5⟩ := or_fin ⟨n, by omega⟩ ⟨m, by omega⟩
      simp only at e3 e4 e5
      have ea := spec_l06And_ev n m (by omega) (by omega)
      simp only [Int.toNat_natCast]
      refine Ev.ite (fun h3 => ?_) (fun h3 => ?_)
      · rw [if_pos h3]; exact Ev.now _
      rw [if_neg h3]
      refine Ev.ite (fun h4 => ?_) (fun h4 => ?_)
      · rw [if_pos h4]
        refine Ev.bind ea (Ev.const ?_)
        rw [w64 (x := (n : Int) + m) (by omega) (by omega), w64 (by omega) (by omega)]
        congr 1; omega
      rw [if_neg h4]
      refine Ev.ite (fun h5 => ?_) (fun h5 => ?_)
      · rw [if_pos h5]
        refine Ev.bind ea (Ev.const ?_)
        rw [w64 (by omega) (by omega)]
        congr 1; omega
      · rw [if_neg h5]; exact Ev.now _
  · refine Ev.step (spec_FlagsAfter.j0.eq_2 a how b _) ?_
    rw [if_neg (show ¬ ((0 ≤ a ∧ a ≤ 31) ∧ (0 ≤ b ∧ b ≤ 31)) from fun hh => h hh.1)]
    exact Ev.yes rfl (Ev.now _)
theorem impl_FlagsAfter_ev (a how b : Int) : Ev (fun k => impl_FlagsAfter.f k a how b) (flagsOut a how b) := by
  unfold impl_FlagsAfter.f flagsOut
  rw [impl_FlagsOk_ev a, impl_FlagsOk_ev b]
  simp only [Option.bind_some, decide_eq_true_eq]
  refine Ev.ite (fun h => ?_) (fun h => ?_)
  · refine Ev.step (impl_FlagsAfter.j0.eq_2 a how b _) ?_
    refine Ev.ite (fun h2 => ?_) (fun h2 => ?_)
    · rw [if_neg (show ¬ ((0 ≤ a ∧ a ≤ 31) ∧ (0 ≤ b ∧ b ≤ 31)) from fun hh => by simp [hh.2] at h2)]; exact Ev.now _
    · have hb : 0 ≤ b ∧ b ≤ 31 := by simpa using h2
      rw [if_pos (show ((0 ≤ a ∧ a ≤ 31) ∧ (0 ≤ b ∧ b ≤ 31)) from ⟨h, hb⟩)]
      obtain ⟨n, rfl⟩ := Int.eq_ofNat_of_zero_le h.1
      obtain ⟨m, rfl⟩ := Int.eq_ofNat_of_zero_le hb.1
      obtain ⟨e1, e2, -, -, -⟩ := or_fin ⟨n, by omega⟩ ⟨m, by omega⟩
      simp only at e1 e2
      simp only [Int.toNat_natCast]
      refine Ev.ite (fun h3 => ?_) (fun h3 => ?_)
      · rw [if_pos h3]; exact Ev.now _
      rw [if_neg h3]
      refine Ev.ite (fun h4 => ?_) (fun h4 => ?_)
      · rw [if_pos h4, e1]; exact Ev.now _
      rw [if_neg h4]
      refine Ev.ite (fun h5 => ?_) (fun h5 => ?_)
      · rw [if_pos h5, e2]; exact Ev.now _
      · rw [if_neg h5]; exact Ev.now _
  · refine Ev.step (impl_FlagsAfter.j0.eq_2 a how b _) ?_
    rw [if_neg (show ¬ ((0 ≤ a ∧ a ≤ 31) ∧ (0 ≤ b ∧ b ≤ 31)) from fun hh => h hh.1)]
    exact Ev.yes rfl (Ev.now _)

/-! flags read -/
def lowI (c : Int) : Int := if 65 ≤ c ∧ c ≤ 90 then c + 32 else c
def low (c : Nat) : Nat := if 65 ≤ c ∧ c ≤ 90 then c + 32 else c
def lowS (s : ByteArray) : ByteArray := strOfNums ((bytesOf s).map lowI)
theorem bytesOf_bs (s : ByteArray) : bytesOf s = (bs s).map Int.ofNat := by
  unfold bytesOf bs; rw [List.map_map]; rfl
theorem bs_lowS (s : ByteArray) : bs (lowS s) = (bs s).map low := by
  unfold lowS
  rw [bytesOf_bs, List.map_map, bs_nums _ (by
    intro x hx
    obtain ⟨y, hy, rfl⟩ := List.mem_map.1 hx
    have := bs_lt s y hy
    show 0 ≤ lowI (y : Int) ∧ lowI (y : Int) < 256
    unfold lowI; split <;> omega), List.map_map]
  apply List.map_congr_left
  intro y hy
  show (lowI (y : Int)).toNat = low y
  unfold lowI low
  by_cases h : 65 ≤ y ∧ y ≤ 90
  · rw [if_pos (by omega), if_pos h]; omega
  · rw [if_neg (by omega), if_neg h]; rfl
theorem bytesOf_mem (s : ByteArray) : ∀ x ∈ bytesOf s, 0 ≤ x ∧ x < 256 := by
  intro x hx
  rw [bytesOf_bs] at hx
  obtain ⟨y, hy, rfl⟩ := List.mem_map.1 hx
  have := bs_lt s y hy
  exact ⟨Int.natCast_nonneg y, by show (y : Int) < 256; omega⟩
theorem rd_getElem (X : List Int) (i : Nat) (h : i < X.length) : rd X (i : Int) = X[i] := by
  unfold rd
  rw [Int.toNat_natCast, List.getD_eq_getElem?_getD, List.getElem?_eq_getElem h]; rfl
theorem low_next (X : List Int) (i : Nat) (h : i < X.length) (v : Int) (hv : v = lowI X[i]) : (X.set i v).take (i + 1) ++ ((X.set i v).drop (i + 1)).map lowI = X.take i ++ (X.drop i).map lowI := by
  rw [take_set_next X i v h, List.drop_set_of_lt (by omega), List.drop_eq_getElem_cons h, List.map_cons, hv, List.append_assoc]; rfl
theorem low_same (X : List Int) (i : Nat) (h : i < X.length) (hv : X[i] = lowI X[i]) : X.take (i + 1) ++ (X.drop (i + 1)).map lowI = X.take i ++ (X.drop i).map lowI := by
  rw [List.take_succ_eq_append_getElem h, List.drop_eq_getElem_cons h, List.map_cons, ← hv, List.append_assoc]; rfl
theorem spec_l06Low_l0 : ∀ (d i : Nat) (X : List Int), i + d = X.length → X.length ≤ 140737488351232 → (∀ x ∈ X, 0 ≤ x ∧ x < 256) → Ev (fun k => spec_l06Low.l0 k X (i : Int)) (strOfNums (X.take i ++ (X.drop i).map lowI)) := by
  intro d
  induction d with
  | zero =>
    intro i X hi hX hx
    refine Ev.step (spec_l06Low.l0.eq_2 X i) (Ev.no (by omega) ?_)
    rw [List.take_of_length_le (by omega), List.drop_of_length_le (by omega)]
    exact Ev.const (by simp)
  | succ d ih =>
    intro i X hi hX hx
    have hil : i < X.length := by omega
    have hr := rd_getElem X i hil
    have hc := hx _ (List.getElem_mem hil)
    have hw : wrap64 ((i : Int) + 1) = ((i + 1 : Nat) : Int) := by rw [w64 (by omega) (by omega)]; rfl
    refine Ev.step (spec_l06Low.l0.eq_2 X i) (Ev.yes (by omega) (Ev.yes (by omega) ?_))
    rw [hr, hw, Int.toNat_natCast]
    have keep : X[i] = lowI X[i] → Ev (fun k => spec_l06Low.l0 k X ((i + 1 : Nat) : Int)) (strOfNums (X.take i ++ (X.drop i).map lowI)) := fun hv => by
      rw [← low_same X i hil hv]; exact ih (i + 1) X (by omega) hX hx
    refine Ev.ite (fun h1 => Ev.ite (fun h2 => ?_) (fun h2 => ?_)) (fun h1 => ?_)
    · have hv : (X[i] + 32) % 256 = lowI X[i] := by unfold lowI; rw [if_pos ⟨h1, h2⟩]; omega
      rw [← low_next X i hil ((X[i] + 32) % 256) hv]
      exact ih (i + 1) _ (by rw [List.length_set]; omega) (by rw [List.length_set]; exact hX) (fun x hm => by
        rcases List.mem_or_eq_of_mem_set hm with h | h
        · exact hx x h
        · subst h; omega)
    · exact keep (by unfold lowI; rw [if_neg (by omega)])
    · exact keep (by unfold lowI; rw [if_neg (by omega)])
theorem spec_l06Low_ev (s : ByteArray) (hs : s.size ≤ 140737488351232) : Ev (fun k => spec_l06Low.f k s) (lowS s) := by
  have hl : (bytesOf s).length = s.size := bytesOf_length s
  have := spec_l06Low_l0 (bytesOf s).length 0 (bytesOf s) (by omega) (by omega) (bytesOf_mem s)
  exact Ev.yes (by omega) this
theorem impl_lower_l0 : ∀ (d i : Nat) (X : List Int), i + d = X.length → X.length ≤ 140737488351232 → (∀ x ∈ X, 0 ≤ x ∧ x < 256) → Ev (fun k => impl_lower.l0 k X (X.length : Int) (i : Int)) (strOfNums (X.take i ++ (X.drop i).map lowI)) := by
  intro d
  induction d with
  | zero =>
    intro i X hi hX hx
    refine Ev.step (impl_lower.l0.eq_2 X X.length i) (Ev.no (by omega) ?_)
    rw [List.take_of_length_le (by omega), List.drop_of_length_le (by omega)]
    exact Ev.const (by simp)
  | succ d ih =>
    intro i X hi hX hx
    have hil : i < X.length := by omega
    have hr := rd_getElem X i hil
    have hc := hx _ (List.getElem_mem hil)
    have hw : wrap64 ((i : Int) + 1) = ((i + 1 : Nat) : Int) := by rw [w64 (by omega) (by omega)]; rfl
    refine Ev.step (impl_lower.l0.eq_2 X X.length i) (Ev.yes (by omega) (Ev.yes (by omega) (Ev.yes (by omega) ?_)))
    rw [hr, hw, Int.toNat_natCast, w64 (x := X[i]) (by omega) (by omega)]
    refine Ev.bindc (impl_within_ev X[i] 65 90) (Ev.ite (fun h => ?_) (fun h => ?_))
    · have h' : 65 ≤ X[i] ∧ X[i] ≤ 90 := by simpa using h
      have hv : (X[i] + 32) % 256 = lowI X[i] := by unfold lowI; rw [if_pos h']; omega
      rw [← low_next X i hil ((X[i] + 32) % 256) hv]
      have := ih (i + 1) (X.set i ((X[i] + 32) % 256)) (by rw [List.length_set]; omega) (by rw [List.length_set]; exact hX) (fun x hm => by
        rcases List.mem_or_eq_of_mem_set hm with h | h
        · exact hx x h
        · subst h; omega)
      rw [List.length_set] at this
      exact this
    · have h' : ¬ (65 ≤ X[i] ∧ X[i] ≤ 90) := by simpa using h
      rw [← low_same X i hil (by unfold lowI; rw [if_neg h'])]
      exact ih (i + 1) X (by omega) hX hx
theorem impl_lower_ev (s : ByteArray) (hs : s.size ≤ 140737488351232) : Ev (fun k => impl_lower.f k s) (lowS s) := by
  have hl : (bytesOf s).length = s.size := bytesOf_length s
  have := impl_lower_l0 (bytesOf s).length 0 (bytesOf s) (by omega) (by omega) (bytesOf_mem s)
  exact Ev.yes (by omega) (Ev.bindc rfl this)
/-- the bit of a name -/
def bitL (w : List Nat) : Int := if [115, 101, 101, 110] = w then 1 else if [97, 110, 115, 119, 101, 114, 101, 100] = w then 2 else if [102, 108, 97, 103, 103, 101, 100] = w then 4 else if [100, 101, 108, 101, 116, 101, 100] = w then 8 else if [100, 114, 97, 102, 116] = w then 16 else 0
theorem same_iff {a b : ByteArray} : a.toList = b.toList ↔ bs a = bs b := by rw [toList_iff]; exact ⟨fun h => by rw [h], bs_inj⟩
def names : List ByteArray := [(⟨#[115, 101, 101, 110]⟩ : ByteArray), (⟨#[97, 110, 115, 119, 101, 114, 101, 100]⟩ : ByteArray), (⟨#[102, 108, 97, 103, 103, 101, 100]⟩ : ByteArray), (⟨#[100, 101, 108, 101, 116, 101, 100]⟩ : ByteArray), (⟨#[100, 114, 97, 102, 116]⟩ : ByteArray)]
theorem spec_l06Bit_ev (s : ByteArray) : Ev (fun k => spec_l06Bit.f k s) (bitL (bs s)) := by
  refine Ev.bindc (show spec_l06Names.f = some names from rfl) ?_
  have hl : ((names.length : Nat) : Int) = 5 := rfl
  unfold bitL
  have go : ∀ (i b i' b' : Int) (nm : ByteArray) (R : Int), 0 ≤ i → i < 5 → wrap64 (2 * b) = b' → wrap64 (i + 1) = i' → rdOf ByteArray.empty names i = nm → Ev (fun k => spec_l06Bit.l0 k s names b' i') R → Ev (fun k => spec_l06Bit.l0 k s names b i) (if bs nm = bs s then b else R) := fun i b i' b' nm R h0 h5 hb hi hn h => by
    rw [← hb, ← hi] at h
    refine Ev.step (spec_l06Bit.l0.eq_2 s names b i) (Ev.yes (by rw [hl]; exact h5) (Ev.yes h0 ?_))
    rw [hn]
    refine Ev.ite (fun e => ?_) (fun e => ?_)
    · rw [if_pos (same_iff.1 e)]; exact Ev.now _
    · rw [if_neg (fun e2 => e (same_iff.2 e2))]; exact h
  refine go 0 1 1 2 _ _ (by omega) (by omega) (by decide +kernel) (by decide +kernel) rfl (go 1 2 2 4 _ _ (by omega) (by omega) (by decide +kernel) (by decide +kernel) rfl (go 2 4 3 8 _ _ (by omega) (by omega) (by decide +kernel) (by decide +kernel) rfl (go 3 8 4 16 _ _ (by omega) (by omega) (by decide +kernel) (by decide +kernel) rfl (go 4 16 5 32 _ _ (by omega) (by omega) (by decide +kernel) (by decide +kernel) rfl ?_))))
  exact Ev.step (spec_l06Bit.l0.eq_2 s names 32 5) (Ev.no (by rw [hl]; decide) (Ev.now _))
theorem impl_flagOf_ev (s : ByteArray) : Ev (fun k => impl_flagOf.f k s) (bitL (bs s)) := by
  refine Ev.bindc (show impl_flagNames.f = some names from rfl) ?_
  have hl : ((names.length : Nat) : Int) = 5 := rfl
  rw [hl]
  unfold bitL
  have go : ∀ (i b i' : Int) (nm : ByteArray) (R : Int), 0 ≤ i → i < 5 → shl .i64 1 i = b → wrap64 (i + 1) = i' → rdOf ByteArray.empty names i = nm → Ev (fun k => impl_flagOf.l0 k s names 5 i') R → Ev (fun k => impl_flagOf.l0 k s names 5 i) (if bs nm = bs s then b else R) := fun i b i' nm R h0 h5 hb hi hn h => by
    rw [← hi] at h
    refine Ev.step (impl_flagOf.l0.eq_2 s names 5 i) (Ev.yes h5 (Ev.yes h0 (Ev.yes (by rw [hl]; exact h5) ?_)))
    rw [hn, hb]
    refine Ev.ite (fun e => ?_) (fun e => ?_)
    · rw [if_pos (same_iff.1 e)]; exact Ev.now _
    · rw [if_neg (fun e2 => e (same_iff.2 e2))]; exact h
  refine go 0 1 1 _ _ (by omega) (by omega) (by decide +kernel) (by decide +kernel) rfl (go 1 2 2 _ _ (by omega) (by omega) (by decide +kernel) (by decide +kernel) rfl (go 2 4 3 _ _ (by omega) (by omega) (by decide +kernel) (by decide +kernel) rfl (go 3 8 4 _ _ (by omega) (by omega) (by decide +kernel) (by decide +kernel) rfl (go 4 16 5 _ _ (by omega) (by omega) (by decide +kernel) (by decide +kernel) rfl ?_))))
  exact Ev.step (impl_flagOf.l0.eq_2 s names 5 5) (Ev.no (by decide) (Ev.now _))
theorem bitL_cases (w : List Nat) : bitL w = 0 ∨ ∃ j : Fin 5, bitL w = ((2 ^ j.val : Nat) : Int) := by
  unfold bitL
  repeat' split
  · exact .inr ⟨0, rfl⟩
  · exact .inr ⟨1, rfl⟩
  · exact .inr ⟨2, rfl⟩
  · exact .inr ⟨3, rfl⟩
  · exact .inr ⟨4, rfl⟩
  · exact .inl rfl
theorem flag_fin : ∀ (a : Fin 32) (j : Fin 5), (Int.tmod (wrap64 (Int.tdiv (a.val : Int) ((2 ^ j.val : Nat) : Int))) 2 = 1 ↔ ¬ Go.bits .and .i64 (a.val : Int) ((2 ^ j.val : Nat) : Int) = 0) ∧ (Go.bits .and .i64 (a.val : Int) ((2 ^ j.val : Nat) : Int) = 0 → wrap64 ((a.val : Int) + ((2 ^ j.val : Nat) : Int)) = Go.bits .or .i64 (a.val : Int) ((2 ^ j.val : Nat) : Int) ∧ 0 ≤ Go.bits .or .i64 (a.val : Int) ((2 ^ j.val : Nat) : Int) ∧ Go.bits .or .i64 (a.val : Int) ((2 ^ j.val : Nat) : Int) < 32) := by decide +kernel
theorem flag_step (a b : Int) (h0 : 0 ≤ a) (h1 : a < 32) (hb : ∃ j : Fin 5, b = ((2 ^ j.val : Nat) : Int)) : (Int.tmod (wrap64 (Int.tdiv a b)) 2 = 1 ↔ ¬ Go.bits .and .i64 a b = 0) ∧ (Go.bits .and .i64 a b = 0 → wrap64 (a + b) = Go.bits .or .i64 a b ∧ 0 ≤ Go.bits .or .i64 a b ∧ Go.bits .or .i64 a b < 32) := by
  obtain ⟨n, rfl⟩ := Int.eq_ofNat_of_zero_le h0
  obtain ⟨j, rfl⟩ := hb
  exact flag_fin ⟨n, by omega⟩ j
/-- words told as flags -/
def readW : Int → List (List Nat) → Int × Bool
  | acc, [] => (acc, true)
  | acc, w :: ws => if bitL w = 0 then (0, false) else if Go.bits .and .i64 acc (bitL w) = 0 then readW (Go.bits .or .i64 acc (bitL w)) ws else (0, false)
theorem low32 (c : Nat) : low c = 32 ↔ c = 32 := by unfold low; split <;> omega
theorem pieces_low : ∀ l : List Nat, pieces 32 (l.map low) = (pieces 32 l).map (·.map low)
  | [] => rfl
  | b :: l => by
    obtain ⟨h, t, e1, e2⟩ := pieces_cons 32 b l
    have ih := pieces_low l
    rw [e1] at ih
    rw [e2, List.map_cons, pieces, ih]
    by_cases hb : b = 32
    · rw [if_pos ((low32 b).2 hb), if_pos hb]; rfl
    · rw [if_neg (fun e => hb ((low32 b).1 e)), if_neg hb]; rfl
/-- the pieces, where one is under way -/
def piecesAt (cur l : List Nat) : List (List Nat) := match pieces 32 l with
  | [] => [cur]
  | h :: t => (cur ++ h) :: t
theorem piecesAt_nil (cur : List Nat) : piecesAt cur [] = [cur] := by unfold piecesAt; simp [pieces]
theorem piecesAt_hit (cur l : List Nat) : piecesAt cur (32 :: l) = cur :: piecesAt [] l := by
  obtain ⟨h, t, e1, e2⟩ := pieces_cons 32 32 l
  unfold piecesAt
  rw [e2, if_pos rfl, e1]; simp
theorem piecesAt_next (cur l : List Nat) (c : Nat) (hc : c ≠ 32) : piecesAt cur (c :: l) = piecesAt (cur ++ [c]) l := by
  obtain ⟨h, t, e1, e2⟩ := pieces_cons 32 c l
  unfold piecesAt
  rw [e2, if_neg hc, e1]; simp
theorem piecesAt_start (l : List Nat) : piecesAt [] l = pieces 32 l := by
  unfold piecesAt
  cases e : pieces 32 l with
  | nil => exact absurd e (pieces_ne 32 l)
  | cons h t => rfl
theorem bt_at (a : ByteArray) (i : Nat) (hi : i < (bs a).length) : bt a (i : Int) = (((bs a)[i] : Nat) : Int) := bt_eq hi
theorem spec_ReadFlags_l0 (s : ByteArray) (hs : s.size ≤ 140737488351232) (hne : bs s ≠ []) : ∀ (d i b : Nat) (acc : Int), i + d = s.size → b ≤ i → 0 ≤ acc → acc < 32 →
    Ev (fun k => spec_ReadFlags.l0 k s acc (b : Int) (i : Int)) (readW acc (piecesAt (((bs s).drop b).take (i - b)) ((bs s).drop i))) := by
  have hlen : (bs s).length = s.size := bs_length s
  have hq : (s.toList != ([] : List UInt8)) = true := bne_iff_ne.mpr (fun e => hne ((toList_nil s).1 e))
  -- a word's end
  have word : ∀ (b i : Nat) (acc : Int) (ws : List (List Nat)), b ≤ i → i ≤ s.size → 0 ≤ acc → acc < 32 → (∀ acc', 0 ≤ acc' → acc' < 32 → Ev (fun k => spec_ReadFlags.l0 k s acc' ((i + 1 : Nat) : Int) ((i + 1 : Nat) : Int)) (readW acc' ws)) →
      Ev (fun k => spec_ReadFlags.j3 k s acc (b : Int) (i : Int) false) (readW acc ((((bs s).drop b).take (i - b)) :: ws)) := fun b i acc ws hb hi h0 h1 hR => by
    have hw : wrap64 ((i : Int) + 1) = ((i + 1 : Nat) : Int) := by rw [w64 (by omega) (by omega)]; rfl
    have hbit := spec_l06Bit_ev (s.extract b i)
    rw [bs_extract] at hbit
    refine Ev.step (spec_ReadFlags.j3.eq_2 s acc b i false) (Ev.no (by simp) (Ev.yes (by omega) (Ev.yes (by omega) (Ev.yes (by omega) (Ev.bind hbit ?_)))))
    rw [readW]
    refine Ev.ite (fun h => ?_) (fun h => ?_)
    · rw [if_pos h]; exact Ev.now _
    · rw [if_neg h]
      obtain ⟨f1, f2⟩ := flag_step acc _ h0 h1 ((bitL_cases _).resolve_left h)
      refine Ev.ite (fun h2 => ?_) (fun h2 => ?_)
      · rw [if_neg (f1.1 h2)]; exact Ev.now _
      · have h3 : Go.bits .and .i64 acc (bitL (((bs s).drop b).take (i - b))) = 0 := Decidable.byContradiction fun e => h2 (f1.2 e)
        obtain ⟨f3, f4, f5⟩ := f2 h3
        rw [if_pos h3, f3, hw]
        exact hR _ f4 f5
  intro d
  induction d with
  | zero =>
    intro i b acc hi hb h0 h1
    rw [List.drop_of_length_le (show (bs s).length ≤ i by omega), piecesAt_nil]
    refine Ev.step (spec_ReadFlags.l0.eq_2 s acc b i) (Ev.yes (by omega) ?_)
    rw [hq]
    refine Ev.step (spec_ReadFlags.j2.eq_2 s acc b i true) (Ev.yes rfl (Ev.no (by omega) ?_))
    refine word b i acc [] hb (by omega) h0 h1 (fun acc' _ _ => ?_)
    exact Ev.step (spec_ReadFlags.l0.eq_2 s acc' _ _) (Ev.no (by omega) (Ev.step (spec_ReadFlags.j2.eq_2 s acc' _ _ false) (Ev.no (by simp) (Ev.now _))))
  | succ d ih =>
    intro i b acc hi hb h0 h1
    have hil : i < (bs s).length := by omega
    have hb2 := bt_at s i hil
    have htake : ((bs s).drop b).take (i + 1 - b) = ((bs s).drop b).take (i - b) ++ [(bs s)[i]] := by
      rw [show i + 1 - b = (i - b) + 1 by omega, List.take_succ_eq_append_getElem (by rw [List.length_drop]; omega)]
      congr 2
      rw [List.getElem_drop]; congr 1; omega
    rw [List.drop_eq_getElem_cons hil]
    refine Ev.step (spec_ReadFlags.l0.eq_2 s acc b i) (Ev.yes (by omega) ?_)
    rw [hq]
    refine Ev.step (spec_ReadFlags.j2.eq_2 s acc b i true) (Ev.yes rfl (Ev.yes (by omega) (Ev.yes (by omega) ?_)))
    rw [hb2]
    by_cases hc : (bs s)[i] = 32
    · have e : ((((bs s)[i] : Nat) : Int) != 32) = false := by rw [hc]; rfl
      rw [e, hc, piecesAt_hit]
      refine word b i acc _ hb (by omega) h0 h1 (fun acc' g0 g1 => ?_)
      have := ih (i + 1) (i + 1) acc' (by omega) (Nat.le_refl _) g0 g1
      rw [Nat.sub_self, List.take_zero] at this
      exact this
    · have e : ((((bs s)[i] : Nat) : Int) != 32) = true := bne_iff_ne.mpr (by omega)
      rw [e, piecesAt_next _ _ _ hc]
      have := ih (i + 1) b acc (by omega) (by omega) h0 h1
      rw [htake] at this
      refine Ev.step (spec_ReadFlags.j3.eq_2 s acc b i true) (Ev.yes rfl ?_)
      rw [w64 (by omega) (by omega)]
      exact this
/-- what is told of what stands between the brackets -/
def innerOut (l : List Nat) : Int × Bool := if l = [] then (0, true) else readW 0 ((pieces 32 l).map (·.map low))
def flagsRead (l : List Nat) : Int × Bool := if 2 ≤ l.length ∧ l.head? = some 40 ∧ l.getLast? = some 41 then innerOut ((l.drop 1).take (l.length - 2)) else (0, false)
theorem spec_inner (s : ByteArray) (hs : s.size ≤ 140737488351232) : Ev (fun k => spec_ReadFlags.l0 k (lowS s) 0 0 0) (innerOut (bs s)) := by
  have hsz : (lowS s).size = s.size := by rw [← bs_length, bs_lowS, List.length_map, bs_length]
  unfold innerOut
  by_cases h : bs s = []
  · rw [if_pos h]
    have hn : (lowS s).toList = [] := (toList_nil _).2 (by rw [bs_lowS, h]; rfl)
    refine Ev.step (spec_ReadFlags.l0.eq_2 (lowS s) 0 0 0) (Ev.yes (by omega) ?_)
    rw [hn]
    exact Ev.step (spec_ReadFlags.j2.eq_2 (lowS s) 0 0 0 false) (Ev.no (by simp) (Ev.now _))
  · rw [if_neg h]
    have := spec_ReadFlags_l0 (lowS s) (by omega) (by rw [bs_lowS]; simpa using h) (lowS s).size 0 0 0 (by omega) (Nat.le_refl _) (by omega) (by omega)
    rw [List.drop_zero, Nat.sub_zero, List.take_zero, piecesAt_start, bs_lowS, pieces_low] at this
    exact this
theorem spec_ReadFlags_ev (a : ByteArray) (ha : a.size ≤ 140737488351232) : Ev (fun k => spec_ReadFlags.f k a) (flagsRead (bs a)) := by
  have hlen : (bs a).length = a.size := bs_length a
  unfold flagsRead
  have bad : ∀ (r : Int × Bool), r = (0, false) → Ev (fun k => spec_ReadFlags.j0 k a true) r := fun r h => by subst h; exact Ev.step (spec_ReadFlags.j0.eq_2 a true) (Ev.yes rfl (Ev.now _))
  refine Ev.ite (fun h => bad _ (if_neg (by omega))) (fun h => ?_)
  have hw : wrap64 ((a.size : Int) - 1) = ((a.size - 1 : Nat) : Int) := by rw [w64 (by omega) (by omega)]; omega
  refine Ev.yes (by omega) ?_
  have h0 : bt a 0 = (((bs a)[0]'(by omega) : Nat) : Int) := bt_at a 0 (by omega)
  have hh : (bs a).head? = some ((bs a)[0]'(by omega)) := by rw [List.head?_eq_getElem?, List.getElem?_eq_getElem (by omega)]
  have hg : (bs a).getLast? = some ((bs a)[a.size - 1]'(by omega)) := by rw [List.getLast?_eq_getElem?, show (bs a).length - 1 = a.size - 1 by omega, List.getElem?_eq_getElem (by omega)]
  refine Ev.ite (fun h1 => ?_) (fun h1 => bad _ (if_neg (fun e => h1 (by rw [hh] at e; have := Option.some.inj e.2.1; rw [h0, this]; rfl))))
  have h1' : (bs a)[0]'(by omega) = 40 := by rw [h0] at h1; omega
  rw [hw]
  refine Ev.yes (by omega) (Ev.yes (by omega) ?_)
  rw [bt_at a (a.size - 1) (by omega)]
  by_cases h2 : (bs a)[a.size - 1]'(by omega) = 41
  · have e : ((((bs a)[a.size - 1]'(by omega) : Nat) : Int) != 41) = false := by rw [h2]; rfl
    rw [e, if_pos ⟨by omega, by rw [hh, h1'], by rw [hg, h2]⟩]
    refine Ev.step (spec_ReadFlags.j0.eq_2 a false) (Ev.no (by simp) ?_)
    rw [hw]
    refine Ev.yes (by omega) (Ev.yes (by omega) ?_)
    rw [Int.toNat_natCast]
    have hx : (a.extract 1 (a.size - 1)).size ≤ 140737488351232 := by rw [size_extract _ _ _ (by omega)]; omega
    refine Ev.bind (spec_l06Low_ev _ hx) ?_
    have := spec_inner (a.extract 1 (a.size - 1)) hx
    rw [bs_extract, show a.size - 1 - 1 = (bs a).length - 2 by omega] at this
    exact this
  · have e : ((((bs a)[a.size - 1]'(by omega) : Nat) : Int) != 41) = true := bne_iff_ne.mpr (by omega)
    rw [e]
    exact bad _ (if_neg (fun e => h2 (by rw [hg] at e; exact Option.some.inj e.2.2)))
theorem impl_ReadFlags_l0 (sp : List ByteArray) (hs : sp.length ≤ 140737488351232) (hz : ∀ s ∈ sp, s.size ≤ 140737488351232) : ∀ (d j : Nat) (acc : Int), j + d = sp.length → 0 ≤ acc → acc < 32 →
    Ev (fun k => impl_ReadFlags.l0 k acc sp (sp.length : Int) (j : Int)) (readW acc (((sp.drop j).map bs).map (·.map low))) := by
  intro d
  induction d with
  | zero =>
    intro j acc hj h0 h1
    rw [List.drop_of_length_le (by omega)]
    exact Ev.step (impl_ReadFlags.l0.eq_2 acc sp sp.length j) (Ev.no (by omega) (Ev.now _))
  | succ d ih =>
    intro j acc hj h0 h1
    have hjl : j < sp.length := by omega
    have hrd : rdOf ByteArray.empty sp (j : Int) = sp[j] := by
      unfold rdOf
      rw [Int.toNat_natCast, List.getD_eq_getElem?_getD, List.getElem?_eq_getElem hjl]; rfl
    have hw : wrap64 ((j : Int) + 1) = ((j + 1 : Nat) : Int) := by rw [w64 (by omega) (by omega)]; rfl
    rw [List.drop_eq_getElem_cons hjl, List.map_cons, List.map_cons, readW]
    refine Ev.step (impl_ReadFlags.l0.eq_2 acc sp sp.length j) (Ev.yes (by omega) (Ev.yes (by omega) (Ev.yes (by omega) ?_)))
    rw [hrd, hw]
    have hbit := impl_flagOf_ev (lowS sp[j])
    rw [bs_lowS] at hbit
    refine Ev.bind (impl_lower_ev _ (hz _ (List.getElem_mem hjl))) (Ev.bind hbit ?_)
    refine Ev.ite (fun h => ?_) (fun h => ?_)
    · rw [if_pos h]; exact Ev.now _
    · rw [if_neg h]
      obtain ⟨f1, f2⟩ := flag_step acc _ h0 h1 ((bitL_cases _).resolve_left h)
      refine Ev.ite (fun h3 => ?_) (fun h3 => ?_)
      · rw [if_pos h3]
        obtain ⟨f3, f4, f5⟩ := f2 h3
        exact ih (j + 1) _ (by omega) f4 f5
      · rw [if_neg h3]; exact Ev.now _
theorem pieces_small (c : Nat) : ∀ (l : List Nat) (p : List Nat), p ∈ pieces c l → p.length ≤ l.length
  | [], p, h => by
    have : p = [] := by simpa [pieces] using h
    subst this; exact Nat.le_refl _
  | b :: l, p, h => by
    obtain ⟨x, t, e1, e2⟩ := pieces_cons c b l
    have ih := pieces_small c l
    rw [e1] at ih
    rw [e2] at h
    split at h
    · rcases List.mem_cons.1 h with rfl | h
      · exact Nat.zero_le _
      · have := ih p h; simp; omega
    · rcases List.mem_cons.1 h with rfl | h
      · have := ih x List.mem_cons_self; simp; omega
      · have := ih p (List.mem_cons_of_mem _ h); simp; omega
/-- what ReadFlags does behind the brackets -/
theorem impl_inner (s : ByteArray) (hs : s.size ≤ 1048576) : Ev (fun k => impl_ReadFlags.j0 k s false) (innerOut (bs s)) := by
  unfold innerOut
  refine Ev.step (impl_ReadFlags.j0.eq_2 s false) (Ev.no (by simp) ?_)
  refine Ev.ite (fun h => ?_) (fun h => ?_)
  · rw [if_pos ((toList_nil s).1 h)]; exact Ev.now _
  · rw [if_neg (fun e => h ((toList_nil s).2 e))]
    have hsp := split_pieces 32 s.size s (Nat.le_refl _)
    have hl := pieces_len 32 (bs s)
    have hlen := bs_length s
    generalize hg : Lib.splitB ⟨#[32]⟩ 0 (Lib.countB s ⟨#[32]⟩) s = sp at hsp
    have hsp' : sp.map bs = pieces 32 (bs s) := hsp
    have hl2 : sp.length ≤ 1048577 := by
      have := congrArg List.length hsp'
      rw [List.length_map] at this
      omega
    have hf : strings_Split.f s (⟨#[32]⟩ : ByteArray) = some sp := by
      unfold strings_Split.f
      rw [hg, if_pos ⟨by omega, Nat.le_refl _, by omega⟩]
    have hz : ∀ t ∈ sp, t.size ≤ 140737488351232 := fun t ht => by
      have := pieces_small 32 (bs s) (bs t) (hsp' ▸ List.mem_map_of_mem ht)
      rw [bs_length] at this
      omega
    have := impl_ReadFlags_l0 sp (by omega) hz sp.length 0 0 (by omega) (by omega) (by omega)
    rw [List.drop_zero, hsp'] at this
    exact Ev.bindc hf this
theorem cutPrefix_eq (a : ByteArray) (ha : a.size ≤ 1048576) : strings_CutPrefix.f a (⟨#[40]⟩ : ByteArray) = some (if (bs a).head? = some 40 then (a.extract 1 a.size, true) else (a, false)) := by
  have z : (⟨#[40]⟩ : ByteArray).size = 1 := rfl
  have hlen := bs_length a
  have hp : stringslite_HasPrefix.f a (⟨#[40]⟩ : ByteArray) = some (decide ((bs a).head? = some 40)) := by
    unfold stringslite_HasPrefix.f
    rw [z]
    by_cases h : 1 ≤ a.size
    · rw [if_pos (by omega), if_pos (by omega), if_pos (by omega)]
      congr 1
      rw [Bool.eq_iff_iff, beq_iff_eq, decide_eq_true_eq, same_iff, bs_extract]
      have : (bs (⟨#[40]⟩ : ByteArray)) = [40] := rfl
      rw [this]
      show ((bs a).drop 0).take 1 = [40] ↔ _
      cases hb : bs a with
      | nil => rw [hb] at hlen; simp at hlen; omega
      | cons x l => simp
    · rw [if_neg (by omega)]
      have : bs a = [] := List.eq_nil_of_length_eq_zero (by omega)
      rw [this]; rfl
  unfold strings_CutPrefix.f stringslite_CutPrefix.f
  rw [hp, z]
  simp only [Option.bind_some, decide_eq_true_eq]
  by_cases h : (bs a).head? = some 40
  · have h1 : 1 ≤ a.size := by
      rcases Nat.lt_or_ge a.size 1 with h' | h'
      · have : bs a = [] := List.eq_nil_of_length_eq_zero (by omega)
        rw [this] at h; simp at h
      · exact h'
    rw [if_pos h, if_pos h, if_pos (by omega), if_pos (by omega)]; rfl
  · rw [if_neg h, if_neg h]; rfl
theorem cutSuffix_eq (a : ByteArray) (ha : a.size ≤ 1048576) : strings_CutSuffix.f a (⟨#[41]⟩ : ByteArray) = some (if (bs a).getLast? = some 41 then (a.extract 0 (a.size - 1), true) else (a, false)) := by
  have z : (⟨#[41]⟩ : ByteArray).size = 1 := rfl
  have hlen := bs_length a
  have hw : 1 ≤ a.size → wrap64 ((a.size : Int) - ((1 : Nat) : Int)) = ((a.size - 1 : Nat) : Int) := fun h => by rw [w64 (by omega) (by omega)]; omega
  have hp : stringslite_HasSuffix.f a (⟨#[41]⟩ : ByteArray) = some (decide ((bs a).getLast? = some 41)) := by
    unfold stringslite_HasSuffix.f
    rw [z]
    by_cases h : 1 ≤ a.size
    · rw [if_pos (by omega), hw h, if_pos (by omega), if_pos (by omega), Int.toNat_natCast]
      congr 1
      rw [Bool.eq_iff_iff, beq_iff_eq, decide_eq_true_eq, same_iff, bs_extract]
      have : (bs (⟨#[41]⟩ : ByteArray)) = [41] := rfl
      rw [this, List.getLast?_eq_getElem?, show (bs a).length - 1 = a.size - 1 by omega, List.getElem?_eq_getElem (by omega), show a.size - (a.size - 1) = 1 by omega, List.drop_eq_getElem_cons (show a.size - 1 < (bs a).length by omega), List.take_succ_cons, List.take_zero]
      constructor
      · intro h; exact congrArg some (List.cons.inj h).1
      · intro h; rw [Option.some.inj h]
    · rw [if_neg (by omega)]
      have : bs a = [] := List.eq_nil_of_length_eq_zero (by omega)
      rw [this]; rfl
  unfold strings_CutSuffix.f stringslite_CutSuffix.f
  rw [hp, z]
  simp only [Option.bind_some, decide_eq_true_eq]
  by_cases h : (bs a).getLast? = some 41
  · have h1 : 1 ≤ a.size := by
      rcases Nat.lt_or_ge a.size 1 with h' | h'
      · have : bs a = [] := List.eq_nil_of_length_eq_zero (by omega)
        rw [this] at h; simp at h
      · exact h'
    rw [if_pos h, if_pos h, hw h1, if_pos (by omega), if_pos (by omega), Int.toNat_natCast]; rfl
  · rw [if_neg h, if_neg h]; rfl
theorem impl_ReadFlags_ev (a : ByteArray) (ha : a.size ≤ 1048576) : Ev (fun k => impl_ReadFlags.f k a) (flagsRead (bs a)) := by
  have hlen := bs_length a
  unfold flagsRead
  have bad : ∀ (s : ByteArray) (r : Int × Bool), r = (0, false) → Ev (fun k => impl_ReadFlags.j0 k s true) r := fun s r h => by subst h; exact Ev.step (impl_ReadFlags.j0.eq_2 s true) (Ev.yes rfl (Ev.now _))
  refine Ev.bindc (cutPrefix_eq a ha) ?_
  by_cases h : (bs a).head? = some 40
  · rw [if_pos h]
    simp only
    have h1 : 1 ≤ a.size := by
      rcases Nat.lt_or_ge a.size 1 with h' | h'
      · have : bs a = [] := List.eq_nil_of_length_eq_zero (by omega)
        rw [this] at h; simp at h
      · exact h'
    have hx : (a.extract 1 a.size).size = a.size - 1 := by rw [size_extract _ _ _ (Nat.le_refl _)]
    have hbx : bs (a.extract 1 a.size) = (bs a).drop 1 := by rw [bs_extract, List.take_of_length_le (by rw [List.length_drop]; omega)]
    refine Ev.bindc (cutSuffix_eq (a.extract 1 a.size) (by omega)) ?_
    rw [hbx, hx]
    by_cases h2 : ((bs a).drop 1).getLast? = some 41
    · have h3 : 2 ≤ a.size := by
        rcases Nat.lt_or_ge a.size 2 with h' | h'
        · rw [List.drop_of_length_le (by omega)] at h2; simp at h2
        · exact h'
      have h4 : (bs a).getLast? = some 41 := by
        rw [List.getLast?_eq_getElem?] at h2 ⊢
        rw [List.getElem?_drop, List.length_drop] at h2
        rw [← h2]; congr 1; omega
      rw [if_pos h2, if_pos ⟨by omega, h, h4⟩]
      refine Ev.yes trivial ?_
      have := impl_inner ((a.extract 1 a.size).extract 0 (a.size - 1 - 1)) (by rw [size_extract _ _ _ (by omega)]; omega)
      rw [bs_extract, hbx, List.drop_zero, show a.size - 1 - 1 - 0 = (bs a).length - 2 by omega] at this
      exact this
    · rw [if_neg h2]
      refine Ev.yes trivial (bad _ _ (if_neg fun e => h2 ?_))
      have h4 := e.2.2
      rw [List.getLast?_eq_getElem?] at h4 ⊢
      rw [List.getElem?_drop, List.length_drop, ← h4]; congr 1; omega
  · rw [if_neg h]
    simp only
    refine Ev.bindc (cutSuffix_eq a ha) (Ev.no (by simp) (bad _ _ (if_neg fun e => h e.2.1)))

/-! the reader of draws: whatever it tells, it is in its range -/
theorem spec_l01Byte_ev (b : List Int) (i h : Int) (hb : b.length ≤ 140737488351232) (hi : 0 ≤ i) : ∃ r i' h', spec_l01Byte.f b i h = some (r, i', h') ∧ (0 ≤ r ∧ r ≤ 255) ∧ 0 ≤ i' := by
  unfold spec_l01Byte.f
  by_cases hc : i < (b.length : Int)
  · rw [if_pos hc, if_pos hi, w64 (x := i + 1) (by omega) (by omega)]
    exact ⟨_, _, _, rfl, and_255 _, by omega⟩
  · rw [if_neg hc]
    exact ⟨_, _, _, rfl, and_255 _, hi⟩
theorem spec_l01Below_ev (b : List Int) (i h n : Int) (hb : b.length ≤ 140737488351232) (hi : 0 ≤ i) (hn : n ≤ 4294967296) : ∃ r i' h', spec_l01Below.f b i h n = some (r, i', h') ∧ (0 ≤ r ∧ (r < n ∨ n ≤ 0 ∧ r = 0)) ∧ 0 ≤ i' := by
  unfold spec_l01Below.f
  by_cases h0 : n ≤ 0
  · rw [if_pos h0]; exact ⟨_, _, _, rfl, ⟨by omega, Or.inr ⟨h0, rfl⟩⟩, hi⟩
  rw [if_neg h0]
  by_cases h1 : n ≤ 256
  · rw [if_pos h1]
    obtain ⟨r, i1, g1, e1, r1, j1⟩ := spec_l01Byte_ev b i h hb hi
    rw [e1]
    simp only [Option.bind_some]
    rw [if_neg (by omega)]
    have := tmod_range r n r1.1 (by omega)
    exact ⟨_, _, _, rfl, ⟨this.1, Or.inl this.2⟩, j1⟩
  · rw [if_neg h1]
    obtain ⟨x1, i1, g1, e1, r1, j1⟩ := spec_l01Byte_ev b i h hb hi
    obtain ⟨x2, i2, g2, e2, r2, j2⟩ := spec_l01Byte_ev b i1 g1 hb j1
    obtain ⟨x3, i3, g3, e3, r3, j3⟩ := spec_l01Byte_ev b i2 g2 hb j2
    obtain ⟨x4, i4, g4, e4, r4, j4⟩ := spec_l01Byte_ev b i3 g3 hb j3
    rw [e1]; simp only [Option.bind_some]
    rw [e2]; simp only [Option.bind_some]
    rw [e3]; simp only [Option.bind_some]
    rw [e4]; simp only [Option.bind_some]
    rw [if_neg (by omega)]
    have ew : 0 ≤ wrap64 ((wrap64 ((wrap64 ((wrap64 (x1 * 16777216)) + (wrap64 (x2 * 65536)))) + (wrap64 (x3 * 256)))) + x4) := by
      rw [w64 (x := x1 * 16777216) (by omega) (by omega), w64 (x := x2 * 65536) (by omega) (by omega), w64 (x := x3 * 256) (by omega) (by omega), w64 (x := x1 * 16777216 + x2 * 65536) (by omega) (by omega), w64 (x := x1 * 16777216 + x2 * 65536 + x3 * 256) (by omega) (by omega), w64 (by omega) (by omega)]
      omega
    have := tmod_range _ n ew (by omega)
    exact ⟨_, _, _, rfl, ⟨this.1, Or.inl this.2⟩, j4⟩
theorem spec_l01New_l0 (l : List Int) (hl : l.length ≤ 140737488351232) : ∀ (d : Nat) (i h : Int), 0 ≤ i → (l.length : Int) - i ≤ d → ∃ h', Ev (fun k => spec_l01New.l0 k l h i) (l, 0, h') := by
  intro d
  induction d with
  | zero =>
    intro i h h0 hd
    exact ⟨h, Ev.step (spec_l01New.l0.eq_2 l h i) (Ev.no (by omega) (Ev.now _))⟩
  | succ d ih =>
    intro i h h0 hd
    by_cases h1 : i < (l.length : Int)
    · by_cases h2 : i < 4000
      · obtain ⟨h', e⟩ := ih (i + 1) (Go.bits .and .i64 (wrap64 ((wrap64 ((wrap64 (h * 131)) + (wrap64 (rd l i)))) + 7)) 1073741823) (by omega) (by omega)
        refine ⟨h', Ev.step (spec_l01New.l0.eq_2 l h i) (Ev.yes h1 (Ev.yes h2 (Ev.yes h0 ?_)))⟩
        rw [w64 (x := i + 1) (by omega) (by omega)]
        exact e
      · exact ⟨h, Ev.step (spec_l01New.l0.eq_2 l h i) (Ev.yes h1 (Ev.no h2 (Ev.now _)))⟩
    · exact ⟨h, Ev.step (spec_l01New.l0.eq_2 l h i) (Ev.no h1 (Ev.now _))⟩
theorem spec_l01New_ev (l : List Int) (hl : l.length ≤ 140737488351232) : ∃ h, Ev (fun k => spec_l01New.f k l) (l, 0, h) := by
  obtain ⟨h, e⟩ := spec_l01New_l0 l hl l.length 0 (wrap64 (35201 + (l.length : Int))) (by omega) (by omega)
  exact ⟨h, e⟩

theorem spec_DrawPlaces_l0 (b : List Int) (hb : b.length ≤ 140737488351232) : ∀ (d : Nat) (j : Int) (xs : List Int) (i h : Int), j + d = 12 → 0 ≤ j → 0 ≤ i → (xs.length : Int) = j → (∀ x ∈ xs, 0 ≤ x ∧ x < 10000) →
    ∃ ps : List Int, Ev (fun k => spec_DrawPlaces.l0 k xs j b i h) ps ∧ ps.length = 12 ∧ ∀ x ∈ ps, 0 ≤ x ∧ x < 10000 := by
  intro d
  induction d with
  | zero =>
    intro j xs i h hj h0 hi hx hr
    exact ⟨xs, Ev.step (spec_DrawPlaces.l0.eq_2 xs j b i h) (Ev.no (by omega) (Ev.now _)), by omega, hr⟩
  | succ d ih =>
    intro j xs i h hj h0 hi hx hr
    obtain ⟨r, i1, h1, e1, r1, j1⟩ := spec_l01Below_ev b i h 10000 hb hi (by omega)
    obtain ⟨ps, e, hl, hp⟩ := ih (j + 1) (xs ++ [r]) i1 h1 (by omega) (by omega) j1 (by rw [List.length_append, List.length_singleton]; omega) (by
      intro x hx'
      rcases List.mem_append.1 hx' with hx' | hx'
      · exact hr x hx'
      · have := List.mem_singleton.1 hx'; omega)
    refine ⟨ps, Ev.step (spec_DrawPlaces.l0.eq_2 xs j b i h) (Ev.yes (by omega) (Ev.bindc e1 (Ev.yes (by omega) ?_))), hl, hp⟩
    rw [w64 (x := j + 1) (by omega) (by omega)]
    exact e
theorem spec_DrawPlaces_ev (l : List Int) (hl : l.length ≤ 140737488351232) : ∃ ps : List Int, Ev (fun k => spec_DrawPlaces.f k l) ps ∧ ps.length = 12 ∧ ∀ x ∈ ps, 0 ≤ x ∧ x < 10000 := by
  obtain ⟨h, e⟩ := spec_l01New_ev l hl
  obtain ⟨r, i1, h1, e1, -, j1⟩ := spec_l01Byte_ev l 0 h hl (by omega)
  obtain ⟨ps, e2, h2, h3⟩ := spec_DrawPlaces_l0 l hl 12 0 [] i1 h1 (by omega) (by omega) j1 rfl (by simp)
  exact ⟨ps, Ev.bind e (Ev.bindc e1 e2), h2, h3⟩

theorem spec_l01Once_ev (b : List Int) (i h n : Int) (hb : b.length ≤ 140737488351232) (hi : 0 ≤ i) (hn : n ≤ 4294967296) : ∃ r i' h', spec_l01Once.f b i h n = some (r, i', h') ∧ 0 ≤ i' := by
  obtain ⟨r, i1, h1, e1, -, j1⟩ := spec_l01Below_ev b i h n hb hi hn
  unfold spec_l01Once.f
  rw [e1]
  exact ⟨_, _, _, rfl, j1⟩

theorem spec_l01PickInt_ev (b : List Int) (i h : Int) (l : List Int) (hb : b.length ≤ 140737488351232) (hi : 0 ≤ i) (hl : l.length ≤ 256) (h1 : 0 < l.length) : ∃ r i' h', spec_l01PickInt.f b i h l = some (r, i', h') ∧ 0 ≤ i' := by
  unfold spec_l01PickInt.f
  obtain ⟨r, i1, h1', e1, r1, j1⟩ := spec_l01Below_ev b i h l.length hb hi (by omega)
  rw [e1]
  simp only [Option.bind_some]
  rw [if_pos (by omega), if_pos (by omega)]
  exact ⟨_, _, _, rfl, j1⟩
theorem spec_l01Place_ev (b : List Int) (i h n : Int) (hb : b.length ≤ 140737488351232) (hi : 0 ≤ i) (hn : n ≤ 1000) : ∃ r i' h', spec_l01Place.f b i h n = some (r, i', h') ∧ 0 ≤ i' := by
  unfold spec_l01Place.f
  obtain ⟨o, i1, h1, e1, j1⟩ := spec_l01Once_ev b i h 15 hb hi (by omega)
  rw [e1]
  simp only [Option.bind_some]
  split
  · obtain ⟨r, i2, h2, e2, j2⟩ := spec_l01PickInt_ev b i1 h1 [(-1), n, wrap64 (n + 1), 9223372036854775807, (-9223372036854775808)] hb j1 (by simp) (by simp)
    rw [e2]; exact ⟨_, _, _, rfl, j2⟩
  · obtain ⟨r, i2, h2, e2, -, j2⟩ := spec_l01Below_ev b i1 h1 n hb j1 (by omega)
    rw [e2]; exact ⟨_, _, _, rfl, j2⟩
theorem spec_DrawFlagsAfter_ev (l : List Int) (hl : l.length ≤ 140737488351232) : ∃ r : Int × Int × Int, Ev (fun k => spec_DrawFlagsAfter.f k l) r := by
  obtain ⟨h, e⟩ := spec_l01New_ev l hl
  obtain ⟨a, i1, h1, e1, j1⟩ := spec_l01Place_ev l 0 h 32 hl (by omega) (by omega)
  obtain ⟨b, i2, h2, e2, j2⟩ := spec_l01Place_ev l i1 h1 4 hl j1 (by omega)
  obtain ⟨c, i3, h3, e3, j3⟩ := spec_l01Place_ev l i2 h2 32 hl j2 (by omega)
  exact ⟨(a, b, c), Ev.bind e (Ev.bindc e1 (Ev.bindc e2 (Ev.bindc e3 (Ev.now _))))⟩
def picks : List ByteArray := [(⟨#[40, 41]⟩ : ByteArray), (⟨#[40, 115, 101, 101, 110, 41]⟩ : ByteArray), (⟨#[40, 68, 101, 108, 101, 116, 101, 100, 32, 83, 69, 69, 78, 41]⟩ : ByteArray), (⟨#[40, 115, 101, 101, 110, 32, 115, 101, 101, 110, 41]⟩ : ByteArray), (⟨#[40, 32, 115, 101, 101, 110, 41]⟩ : ByteArray), (⟨#[40, 115, 101, 101, 110, 32, 41]⟩ : ByteArray), (⟨#[115, 101, 101, 110]⟩ : ByteArray), (⟨#[]⟩ : ByteArray), (⟨#[40]⟩ : ByteArray), (⟨#[40, 119, 104, 97, 116, 41]⟩ : ByteArray), (⟨#[40, 100, 114, 97, 102, 116, 32, 32, 115, 101, 101, 110, 41]⟩ : ByteArray)]
theorem picks_small : ∀ r : Fin 11, (rdOf ByteArray.empty picks (r.val : Int)).size ≤ 1000 := by decide +kernel
theorem texts_small : ∀ a : Fin 32, (spec_FlagsText.f 10 (a.val : Int)).map (fun t => decide (t.size ≤ 1000)) = some true := by decide +kernel
theorem spec_FlagsText_small (a : Int) (h0 : 0 ≤ a) (h1 : a < 32) : ∃ t : ByteArray, Ev (fun k => spec_FlagsText.f k a) t ∧ t.size ≤ 1000 := by
  obtain ⟨n, rfl⟩ := Int.eq_ofNat_of_zero_le h0
  have := texts_small ⟨n, by omega⟩
  obtain ⟨t, e, h⟩ := Option.map_eq_some_iff.1 this
  exact ⟨t, Ev.of (fun k => spec_FlagsText.mono _ k) e, of_decide_eq_true h⟩
theorem spec_DrawReadFlags_ev (l : List Int) (hl : l.length ≤ 140737488351232) : ∃ t : ByteArray, Ev (fun k => spec_DrawReadFlags.f k l) t ∧ t.size ≤ 1000 := by
  obtain ⟨h, e⟩ := spec_l01New_ev l hl
  obtain ⟨r, i1, h1, e1, r1, j1⟩ := spec_l01Below_ev l 0 h 32 hl (by omega) (by omega)
  obtain ⟨x, i2, h2, e2, x2, j2⟩ := spec_l01Below_ev l i1 h1 (picks.length : Int) hl j1 (by decide)
  have hp : ((picks.length : Nat) : Int) = 11 := rfl
  have hx : 0 ≤ x ∧ x < 11 := by omega
  have e3 : spec_l01Pick.f l i1 h1 picks = some (rdOf ByteArray.empty picks x, i2, h2) := by
    unfold spec_l01Pick.f
    rw [e2]
    simp only [Option.bind_some]
    rw [if_pos hx.1, if_pos (by omega)]
  obtain ⟨o, i4, h4, e4, j4⟩ := spec_l01Once_ev l i2 h2 3 hl j2 (by omega)
  have hsm : (rdOf ByteArray.empty picks x).size ≤ 1000 := by
    obtain ⟨n, rfl⟩ := Int.eq_ofNat_of_zero_le hx.1
    exact picks_small ⟨n, by omega⟩
  obtain ⟨t, et, ht⟩ := spec_FlagsText_small r (by omega) (by omega)
  cases o with
  | true => exact ⟨_, Ev.bind e (Ev.bindc e1 (Ev.bindc e3 (Ev.bindc e4 (Ev.yes rfl (Ev.now _))))), hsm⟩
  | false => exact ⟨t, Ev.bind e (Ev.bindc e1 (Ev.bindc e3 (Ev.bindc e4 (Ev.no (show ¬ (false = true) by decide) (Ev.bind et (Ev.now _)))))), ht⟩
theorem back_fin : ∀ a : Fin 32, (impl_FlagsText.f 12 (a.val : Int)).map (fun t => (decide (t.size ≤ 1000), flagsRead (bs t))) = some (true, ((a.val : Int), true)) := by decide +kernel
theorem flags_back (a : Int) (h0 : 0 ≤ a) (h1 : a < 32) : ∃ t : ByteArray, Ev (fun k => impl_FlagsText.f k a) t ∧ t.size ≤ 1000 ∧ flagsRead (bs t) = (a, true) := by
  obtain ⟨n, rfl⟩ := Int.eq_ofNat_of_zero_le h0
  have := back_fin ⟨n, by omega⟩
  obtain ⟨t, e, h⟩ := Option.map_eq_some_iff.1 this
  injection h with h2 h3
  exact ⟨t, Ev.of (fun k => impl_FlagsText.mono _ k) e, of_decide_eq_true h2, h3⟩
theorem nine : flagsRead (bs (⟨#[40, 68, 101, 108, 101, 116, 101, 100, 32, 83, 69, 69, 78, 41]⟩ : ByteArray)) = (9, true) := by decide +kernel
theorem algebra : ∀ a b : Fin 32, flagsOut (a.val : Int) 1 (b.val : Int) = (b.val : Int) ∧ flagsOut (flagsOut (flagsOut (a.val : Int) 2 (b.val : Int)) 3 (b.val : Int)) 2 (b.val : Int) = flagsOut (a.val : Int) 2 (b.val : Int)
    ∧ flagsOut (flagsOut (flagsOut (a.val : Int) 2 (b.val : Int)) 3 (b.val : Int)) 3 (b.val : Int) = flagsOut (flagsOut (a.val : Int) 2 (b.val : Int)) 3 (b.val : Int) := by decide +kernel
theorem FnFlags : laws_FnFlags.Pure := by
  intro l hm hl hw
  have hl' : l.length ≤ 140737488351232 := by omega
  apply Ev.rounds
  unfold laws_FnFlags.f laws_big.f
  refine Ev.bindc rfl ?_
  refine Ev.ite (fun _ => Ev.now _) (fun _ => ?_)
  obtain ⟨ps, e1, hp, hr⟩ := spec_DrawPlaces_ev l hl'
  have hg : ∀ j : Nat, j < 12 → 0 ≤ rd ps (j : Int) := fun j hj => by
    rw [rd_getElem ps j (by omega)]
    exact (hr _ (List.getElem_mem _)).1
  refine Ev.bind e1 (Ev.yes (by omega) (Ev.yes (by omega) ?_))
  have ha := tmod_range (rd ps 0) 32 (hg 0 (by omega)) (by omega)
  have hb := tmod_range (rd ps 1) 32 (hg 1 (by omega)) (by omega)
  generalize Int.tmod (rd ps 0) 32 = a at ha ⊢
  generalize Int.tmod (rd ps 1) 32 = b at hb ⊢
  obtain ⟨n, rfl⟩ := Int.eq_ofNat_of_zero_le ha.1
  obtain ⟨m, rfl⟩ := Int.eq_ofNat_of_zero_le hb.1
  obtain ⟨al1, al2, al3⟩ := algebra ⟨n, by omega⟩ ⟨m, by omega⟩
  simp only at al1 al2 al3
  obtain ⟨t, et, ht, hf⟩ := flags_back (n : Int) ha.1 ha.2
  obtain ⟨⟨z, three, u⟩, ez⟩ := spec_DrawFlagsAfter_ev l hl'
  obtain ⟨s, es, hs⟩ := spec_DrawReadFlags_ev l hl'
  have er := impl_ReadFlags_ev t (by omega)
  rw [hf] at er
  have e9 := impl_ReadFlags_ev (⟨#[40, 68, 101, 108, 101, 116, 101, 100, 32, 83, 69, 69, 78, 41]⟩ : ByteArray) (by decide)
  rw [nine] at e9
  refine Ev.bind et (Ev.bind er (Ev.bind (impl_FlagsAfter_ev _ _ _) (Ev.bind (impl_FlagsAfter_ev _ _ _) (Ev.bind e9 (Ev.bind ez (Ev.bind es (Ev.bind (impl_ReadFlags_ev s (by omega)) (Ev.bind (spec_ReadFlags_ev s (by omega)) ?_))))))))
  refine Ev.yes rfl (Ev.yes rfl (Ev.bind (impl_FlagsAfter_ev _ _ _) (Ev.yes al1 (Ev.bind (impl_FlagsAfter_ev _ _ _) (Ev.yes al2 (Ev.bind (impl_FlagsAfter_ev _ _ _) (Ev.yes al3 ?_)))))))
  refine Ev.bind (impl_FlagsAfter_ev _ _ _) (Ev.bind (spec_FlagsAfter_ev _ _ _) (Ev.yes rfl (Ev.yes rfl (Ev.yes rfl ?_))))
  refine Ev.bind (impl_FlagsAfter_ev _ _ _) (Ev.bind (spec_FlagsAfter_ev _ _ _) (Ev.yes rfl (Ev.yes (by simp) (Ev.yes rfl ?_))))
  refine Ev.bindc (impl_FlagsOk_ev (n : Int)) (Ev.const ?_)
  rw [decide_eq_true (show 0 ≤ (n : Int) ∧ (n : Int) ≤ 31 by omega)]
end Go.Proofs.YtpeifbiboghceaaDoor.Pure
