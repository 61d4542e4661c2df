/- ReadFlags returns what the reference returns, for every text. No condition. -/
import Derived.Test.YtpeifbiboghceaaDoorSplit
import Derived.Test.YtpeifbiboghceaaDoorQFnExactReadFlagsx3
namespace Go.Proofs.YtpeifbiboghceaaDoor.Pure
open Go.RowKit Go.Proofs.YtpeifbiboghceaaDoor.PFnExactReadFlags Go.Proofs.YtpeifbiboghceaaDoorW.PrintWords Go.Proofs.YtpeifbiboghceaaDoorW.PrintLast Go.Proofs.YtpeifbiboghceaaDoorW.PrintMore Go.Proofs.YtpeifbiboghceaaDoor.Gen
set_option linter.unusedVariables false

theorem impl_within_ev (a b c : Int) : impl_within.f a b c = some (decide (b ≤ a ∧ a ≤ c)) := by
  unfold impl_within.f
  by_cases h : a ≥ b
  · rw [if_pos h]; congr 1; simp; omega
  · rw [if_neg h]; congr 1; simp; omega

/-! flags read -/
def lowI (c : Int) : Int := if 65 ≤ c ∧ c ≤ 90 then c + 32 else c
def low (c : Nat) : Nat := if 65 ≤ c ∧ c ≤ 90 then c + 32 else c
def lowS (s : ByteArray) : ByteArray := strOfNums ((bytesOf s).map lowI)
theorem bytesOf_bs (s : ByteArray) : bytesOf s = (bs s).map Int.ofNat := by
  unfold bytesOf bs; rw [List.map_map]; rfl
theorem bs_lowS (s : ByteArray) : bs (lowS s) = (bs s).map low := by
  unfold lowS
  rw [bytesOf_bs, List.map_map, bs_nums _ (by
    intro x hx
    obtain ⟨y, hy, rfl⟩ := List.mem_map.1 hx
    have := bs_lt s y hy
    show 0 ≤ lowI (y : Int) ∧ lowI (y : Int) < 256
    unfold lowI; split <;> omega), List.map_map]
  apply List.map_congr_left
  intro y hy
  show (lowI (y : Int)).toNat = low y
  unfold lowI low
  by_cases h : 65 ≤ y ∧ y ≤ 90
  · rw [if_pos (by omega), if_pos h]; omega
  · rw [if_neg (by omega), if_neg h]; rfl
theorem bytesOf_mem (s : ByteArray) : ∀ x ∈ bytesOf s, 0 ≤ x ∧ x < 256 := by
  intro x hx
  rw [bytesOf_bs] at hx
  obtain ⟨y, hy, rfl⟩ := List.mem_map.1 hx
  have := bs_lt s y hy
  exact ⟨Int.natCast_nonneg y, by show (y : Int) < 256; omega⟩
theorem rd_getElem (X : List Int) (i : Nat) (h : i < X.length) : rd X (i : Int) = X[i] := by
  unfold rd
  rw [Int.toNat_natCast, List.getD_eq_getElem?_getD, List.getElem?_eq_getElem h]; rfl
theorem low_next (X : List Int) (i : Nat) (h : i < X.length) (v : Int) (hv : v = lowI X[i]) : (X.set i v).take (i + 1) ++ ((X.set i v).drop (i + 1)).map lowI = X.take i ++ (X.drop i).map lowI := by
  rw [take_set_next X i v h, List.drop_set_of_lt (by omega), List.drop_eq_getElem_cons h, List.map_cons, hv, List.append_assoc]; rfl
theorem low_same (X : List Int) (i : Nat) (h : i < X.length) (hv : X[i] = lowI X[i]) : X.take (i + 1) ++ (X.drop (i + 1)).map lowI = X.take i ++ (X.drop i).map lowI := by
  rw [List.take_succ_eq_append_getElem h, List.drop_eq_getElem_cons h, List.map_cons, ← hv, List.append_assoc]; rfl
theorem spec_l06Low_l0 : ∀ (d i : Nat) (X : List Int), i + d = X.length → X.length ≤ 140737488351232 → (∀ x ∈ X, 0 ≤ x ∧ x < 256) → Ev (fun k => spec_l06Low.l0 k X (i : Int)) (strOfNums (X.take i ++ (X.drop i).map lowI)) := by
  intro d
  induction d with
  | zero =>
    intro i X hi hX hx
    refine Ev.step (spec_l06Low.l0.eq_2 X i) (Ev.no (by omega) ?_)
    rw [List.take_of_length_le (by omega), List.drop_of_length_le (by omega)]
    exact Ev.const (by simp)
  | succ d ih =>
    intro i X hi hX hx
    have hil : i < X.length := by omega
    have hr := rd_getElem X i hil
    have hc := hx _ (List.getElem_mem hil)
    have hw : wrap64 ((i : Int) + 1) = ((i + 1 : Nat) : Int) := by rw [w64 (by omega) (by omega)]; rfl
    refine Ev.step (spec_l06Low.l0.eq_2 X i) (Ev.yes (by omega) (Ev.yes (by omega) ?_))
    rw [hr, hw, Int.toNat_natCast]
    have keep : X[i] = lowI X[i] → Ev (fun k => spec_l06Low.l0 k X ((i + 1 : Nat) : Int)) (strOfNums (X.take i ++ (X.drop i).map lowI)) := fun hv => by
      rw [← low_same X i hil hv]; exact ih (i + 1) X (by omega) hX hx
    refine Ev.ite (fun h1 => Ev.ite (fun h2 => ?_) (fun h2 => ?_)) (fun h1 => ?_)
    · have hv : (X[i] + 32) % 256 = lowI X[i] := by unfold lowI; rw [if_pos ⟨h1, h2⟩]; omega
      rw [← low_next X i hil ((X[i] + 32) % 256) hv]
      exact ih (i + 1) _ (by rw [List.length_set]; omega) (by rw [List.length_set]; exact hX) (fun x hm => by
        rcases List.mem_or_eq_of_mem_set hm with h | h
        · exact hx x h
        · subst h; omega)
    · exact keep (by unfold lowI; rw [if_neg (by omega)])
    · exact keep (by unfold lowI; rw [if_neg (by omega)])
theorem spec_l06Low_ev (s : ByteArray) (hs : s.size ≤ 140737488351232) : Ev (fun k => spec_l06Low.f k s) (lowS s) := by
  have hl : (bytesOf s).length = s.size := bytesOf_length s
  have := spec_l06Low_l0 (bytesOf s).length 0 (bytesOf s) (by omega) (by omega) (bytesOf_mem s)
  exact Ev.yes (by omega) this
theorem impl_lower_l0 : ∀ (d i : Nat) (X : List Int), i + d = X.length → X.length ≤ 140737488351232 → (∀ x ∈ X, 0 ≤ x ∧ x < 256) → Ev (fun k => impl_lower.l0 k X (X.length : Int) (i : Int)) (strOfNums (X.take i ++ (X.drop i).map lowI)) := by
  intro d
  induction d with
  | zero =>
    intro i X hi hX hx
    refine Ev.step (impl_lower.l0.eq_2 X X.length i) (Ev.no (by omega) ?_)
    rw [List.take_of_length_le (by omega), List.drop_of_length_le (by omega)]
    exact Ev.const (by simp)
  | succ d ih =>
    intro i X hi hX hx
    have hil : i < X.length := by omega
    have hr := rd_getElem X i hil
    have hc := hx _ (List.getElem_mem hil)
    have hw : wrap64 ((i : Int) + 1) = ((i + 1 : Nat) : Int) := by rw [w64 (by omega) (by omega)]; rfl
    refine Ev.step (impl_lower.l0.eq_2 X X.length i) (Ev.yes (by omega) (Ev.yes (by omega) (Ev.yes (by omega) ?_)))
    rw [hr, hw, Int.toNat_natCast, w64 (x := X[i]) (by omega) (by omega)]
    refine Ev.bindc (impl_within_ev X[i] 65 90) (Ev.ite (fun h => ?_) (fun h => ?_))
    · have h' : 65 ≤ X[i] ∧ X[i] ≤ 90 := by simpa using h
      have hv : (X[i] + 32) % 256 = lowI X[i] := by unfold lowI; rw [if_pos h']; omega
      rw [← low_next X i hil ((X[i] + 32) % 256) hv]
      have := ih (i + 1) (X.set i ((X[i] + 32) % 256)) (by rw [List.length_set]; omega) (by rw [List.length_set]; exact hX) (fun x hm => by
        rcases List.mem_or_eq_of_mem_set hm with h | h
        · exact hx x h
        · subst h; omega)
      rw [List.length_set] at this
      exact this
    · have h' : ¬ (65 ≤ X[i] ∧ X[i] ≤ 90) := by simpa using h
      rw [← low_same X i hil (by unfold lowI; rw [if_neg h'])]
      exact ih (i + 1) X (by omega) hX hx
theorem impl_lower_ev (s : ByteArray) (hs : s.size ≤ 140737488351232) : Ev (fun k => impl_lower.f k s) (lowS s) := by
  have hl : (bytesOf s).length = s.size := bytesOf_length s
  have := impl_lower_l0 (bytesOf s).length 0 (bytesOf s) (by omega) (by omega) (bytesOf_mem s)
  exact Ev.yes (by omega) (Ev.bindc rfl this)
/-- the bit of a name -/
def bitL (w : List Nat) : Int := if [115, 101, 101, 110] = w then 1 else if [97, 110, 115, 119, 101, 114, 101, 100] = w then 2 else if [102, 108, 97, 103, 103, 101, 100] = w then 4 else if [100, 101, 108, 101, 116, 101, 100] = w then 8 else if [100, 114, 97, 102, 116] = w then 16 else 0
theorem same_iff {a b : ByteArray} : a.toList = b.toList ↔ bs a = bs b := by rw [toList_iff]; exact ⟨fun h => by rw [h], bs_inj⟩
def names : List ByteArray := [(⟨#[115, 101, 101, 110]⟩ : ByteArray), (⟨#[97, 110, 115, 119, 101, 114, 101, 100]⟩ : ByteArray), (⟨#[102, 108, 97, 103, 103, 101, 100]⟩ : ByteArray), (⟨#[100, 101, 108, 101, 116, 101, 100]⟩ : ByteArray), (⟨#[100, 114, 97, 102, 116]⟩ : ByteArray)]
theorem spec_l06Bit_ev (s : ByteArray) : Ev (fun k => spec_l06Bit.f k s) (bitL (bs s)) := by
  refine Ev.bindc (show spec_l06Names.f = some names from rfl) ?_
  have hl : ((names.length : Nat) : Int) = 5 := rfl
  unfold bitL
  have go : ∀ (i b i' b' : Int) (nm : ByteArray) (R : Int), 0 ≤ i → i < 5 → wrap64 (2 * b) = b' → wrap64 (i + 1) = i' → rdOf ByteArray.empty names i = nm → Ev (fun k => spec_l06Bit.l0 k s names b' i') R → Ev (fun k => spec_l06Bit.l0 k s names b i) (if bs nm = bs s then b else R) := fun i b i' b' nm R h0 h5 hb hi hn h => by
    rw [← hb, ← hi] at h
    refine Ev.step (spec_l06Bit.l0.eq_2 s names b i) (Ev.yes (by rw [hl]; exact h5) (Ev.yes h0 ?_))
    rw [hn]
    refine Ev.ite (fun e => ?_) (fun e => ?_)
    · rw [if_pos (same_iff.1 e)]; exact Ev.now _
    · rw [if_neg (fun e2 => e (same_iff.2 e2))]; exact h
  refine go 0 1 1 2 _ _ (by omega) (by omega) (by decide +kernel) (by decide +kernel) rfl (go 1 2 2 4 _ _ (by omega) (by omega) (by decide +kernel) (by decide +kernel) rfl (go 2 4 3 8 _ _ (by omega) (by omega) (by decide +kernel) (by decide +kernel) rfl (go 3 8 4 16 _ _ (by omega) (by omega) (by decide +kernel) (by decide +kernel) rfl (go 4 16 5 32 _ _ (by omega) (by omega) (by decide +kernel) (by decide +kernel) rfl ?_))))
  exact Ev.step (spec_l06Bit.l0.eq_2 s names 32 5) (Ev.no (by rw [hl]; decide) (Ev.now _))
theorem impl_flagOf_ev (s : ByteArray) : Ev (fun k => impl_flagOf.f k s) (bitL (bs s)) := by
  refine Ev.bindc (show impl_flagNames.f = some names from rfl) ?_
  have hl : ((names.length : Nat) : Int) = 5 := rfl
  rw [hl]
  unfold bitL
  have go : ∀ (i b i' : Int) (nm : ByteArray) (R : Int), 0 ≤ i → i < 5 → shl .i64 1 i = b → wrap64 (i + 1) = i' → rdOf ByteArray.empty names i = nm → Ev (fun k => impl_flagOf.l0 k s names 5 i') R → Ev (fun k => impl_flagOf.l0 k s names 5 i) (if bs nm = bs s then b else R) := fun i b i' nm R h0 h5 hb hi hn h => by
    rw [← hi] at h
    refine Ev.step (impl_flagOf.l0.eq_2 s names 5 i) (Ev.yes h5 (Ev.yes h0 (Ev.yes (by rw [hl]; exact h5) ?_)))
    rw [hn, hb]
    refine Ev.ite (fun e => ?_) (fun e => ?_)
    · rw [if_pos (same_iff.1 e)]; exact Ev.now _
    · rw [if_neg (fun e2 => e (same_iff.2 e2))]; exact h
  refine go 0 1 1 _ _ (by omega) (by omega) (by decide +kernel) (by decide +kernel) rfl (go 1 2 2 _ _ (by omega) (by omega) (by decide +kernel) (by decide +kernel) rfl (go 2 4 3 _ _ (by omega) (by omega) (by decide +kernel) (by decide +kernel) rfl (go 3 8 4 _ _ (by omega) (by omega) (by decide +kernel) (by decide +kernel) rfl (go 4 16 5 _ _ (by omega) (by omega) (by decide +kernel) (by decide +kernel) rfl ?_))))
  exact Ev.step (impl_flagOf.l0.eq_2 s names 5 5) (Ev.no (by decide) (Ev.now _))
theorem bitL_cases (w : List Nat) : bitL w = 0 ∨ ∃ j : Fin 5, bitL w = ((2 ^ j.val : Nat) : Int) := by
  unfold bitL
  repeat' split
  · exact .inr ⟨0, rfl⟩
  · exact .inr ⟨1, rfl⟩
  · exact .inr ⟨2, rfl⟩
  · exact .inr ⟨3, rfl⟩
  · exact .inr ⟨4, rfl⟩
  · exact .inl rfl
theorem flag_fin : ∀ (a : Fin 32) (j : Fin 5), (Int.tmod (wrap64 (Int.tdiv (a.val : Int) ((2 ^ j.val : Nat) : Int))) 2 = 1 ↔ ¬ Go.bits .and .i64 (a.val : Int) ((2 ^ j.val : Nat) : Int) = 0) ∧ (Go.bits .and .i64 (a.val : Int) ((2 ^ j.val : Nat) : Int) = 0 → wrap64 ((a.val : Int) + ((2 ^ j.val : Nat) : Int)) = Go.bits .or .i64 (a.val : Int) ((2 ^ j.val : Nat) : Int) ∧ 0 ≤ Go.bits .or .i64 (a.val : Int) ((2 ^ j.val : Nat) : Int) ∧ Go.bits .or .i64 (a.val : Int) ((2 ^ j.val : Nat) : Int) < 32) := by decide +kernel
theorem flag_step (a b : Int) (h0 : 0 ≤ a) (h1 : a < 32) (hb : ∃ j : Fin 5, b = ((2 ^ j.val : Nat) : Int)) : (Int.tmod (wrap64 (Int.tdiv a b)) 2 = 1 ↔ ¬ Go.bits .and .i64 a b = 0) ∧ (Go.bits .and .i64 a b = 0 → wrap64 (a + b) = Go.bits .or .i64 a b ∧ 0 ≤ Go.bits .or .i64 a b ∧ Go.bits .or .i64 a b < 32) := by
  obtain ⟨n, rfl⟩ := Int.eq_ofNat_of_zero_le h0
  obtain ⟨j, rfl⟩ := hb
  exact flag_fin ⟨n, by omega⟩ j
/-- words told as flags -/
def readW : Int → List (List Nat) → Int × Bool
  | acc, [] => (acc, true)
  | acc, w :: ws => if bitL w = 0 then (0, false) else if Go.bits .and .i64 acc (bitL w) = 0 then readW (Go.bits .or .i64 acc (bitL w)) ws else (0, false)
theorem low32 (c : Nat) : low c = 32 ↔ c = 32 := by unfold low; split <;> omega
theorem pieces_low : ∀ l : List Nat, pieces 32 (l.map low) = (pieces 32 l).map (·.map low)
  | [] => rfl
  | b :: l => by
    obtain ⟨h, t, e1, e2⟩ := pieces_cons 32 b l
    have ih := pieces_low l
    rw [e1] at ih
    rw [e2, List.map_cons, pieces, ih]
    by_cases hb : b = 32
    · rw [if_pos ((low32 b).2 hb), if_pos hb]; rfl
    · rw [if_neg (fun e => hb ((low32 b).1 e)), if_neg hb]; rfl
/-- the pieces, where one is under way -/
def piecesAt (cur l : List Nat) : List (List Nat) := match pieces 32 l with
  | [] => [cur]
  | h :: t => (cur ++ h) :: t
theorem piecesAt_nil (cur : List Nat) : piecesAt cur [] = [cur] := by unfold piecesAt; simp [pieces]
theorem piecesAt_hit (cur l : List Nat) : piecesAt cur (32 :: l) = cur :: piecesAt [] l := by
  obtain ⟨h, t, e1, e2⟩ := pieces_cons 32 32 l
  unfold piecesAt
  rw [e2, if_pos rfl, e1]; simp
theorem piecesAt_next (cur l : List Nat) (c : Nat) (hc : c ≠ 32) : piecesAt cur (c :: l) = piecesAt (cur ++ [c]) l := by
  obtain ⟨h, t, e1, e2⟩ := pieces_cons 32 c l
  unfold piecesAt
  rw [e2, if_neg hc, e1]; simp
theorem piecesAt_start (l : List Nat) : piecesAt [] l = pieces 32 l := by
  unfold piecesAt
  cases e : pieces 32 l with
  | nil => exact absurd e (pieces_ne 32 l)
  | cons h t => rfl
theorem bt_at (a : ByteArray) (i : Nat) (hi : i < (bs a).length) : bt a (i : Int) = (((bs a)[i] : Nat) : Int) := bt_eq hi
theorem spec_ReadFlags_l0 (s : ByteArray) (hs : s.size ≤ 140737488351232) (hne : bs s ≠ []) : ∀ (d i b : Nat) (acc : Int), i + d = s.size → b ≤ i → 0 ≤ acc → acc < 32 →
    Ev (fun k => spec_ReadFlags.l0 k s acc (b : Int) (i : Int)) (readW acc (piecesAt (((bs s).drop b).take (i - b)) ((bs s).drop i))) := by
  have hlen : (bs s).length = s.size := bs_length s
  have hq : (s.toList != ([] : List UInt8)) = true := bne_iff_ne.mpr (fun e => hne ((toList_nil s).1 e))
  -- a word's end
  have word : ∀ (b i : Nat) (acc : Int) (ws : List (List Nat)), b ≤ i → i ≤ s.size → 0 ≤ acc → acc < 32 → (∀ acc', 0 ≤ acc' → acc' < 32 → Ev (fun k => spec_ReadFlags.l0 k s acc' ((i + 1 : Nat) : Int) ((i + 1 : Nat) : Int)) (readW acc' ws)) →
      Ev (fun k => spec_ReadFlags.j3 k s acc (b : Int) (i : Int) false) (readW acc ((((bs s).drop b).take (i - b)) :: ws)) := fun b i acc ws hb hi h0 h1 hR => by
    have hw : wrap64 ((i : Int) + 1) = ((i + 1 : Nat) : Int) := by rw [w64 (by omega) (by omega)]; rfl
    have hbit := spec_l06Bit_ev (s.extract b i)
    rw [bs_extract] at hbit
    refine Ev.step (spec_ReadFlags.j3.eq_2 s acc b i false) (Ev.no (by simp) (Ev.yes (by omega) (Ev.yes (by omega) (Ev.yes (by omega) (Ev.bind hbit ?_)))))
    rw [readW]
    refine Ev.ite (fun h => ?_) (fun h => ?_)
    · rw [if_pos h]; exact Ev.now _
    · rw [if_neg h]
      obtain ⟨f1, f2⟩ := flag_step acc _ h0 h1 ((bitL_cases _).resolve_left h)
      refine Ev.ite (fun h2 => ?_) (fun h2 => ?_)
      · rw [if_neg (f1.1 h2)]; exact Ev.now _
      · have h3 : Go.bits .and .i64 acc (bitL (((bs s).drop b).take (i - b))) = 0 := Decidable.byContradiction fun e => h2 (f1.2 e)
        obtain ⟨f3, f4, f5⟩ := f2 h3
        rw [if_pos h3, f3, hw]
        exact hR _ f4 f5
  intro d
  induction d with
  | zero =>
    intro i b acc hi hb h0 h1
    rw [List.drop_of_length_le (show (bs s).length ≤ i by omega), piecesAt_nil]
    refine Ev.step (spec_ReadFlags.l0.eq_2 s acc b i) (Ev.yes (by omega) ?_)
    rw [hq]
    refine Ev.step (spec_ReadFlags.j2.eq_2 s acc b i true) (Ev.yes rfl (Ev.no (by omega) ?_))
    refine word b i acc [] hb (by omega) h0 h1 (fun acc' _ _ => ?_)
    exact Ev.step (spec_ReadFlags.l0.eq_2 s acc' _ _) (Ev.no (by omega) (Ev.step (spec_ReadFlags.j2.eq_2 s acc' _ _ false) (Ev.no (by simp) (Ev.now _))))
  | succ d ih =>
    intro i b acc hi hb h0 h1
    have hil : i < (bs s).length := by omega
    have hb2 := bt_at s i hil
    have htake : ((bs s).drop b).take (i + 1 - b) = ((bs s).drop b).take (i - b) ++ [(bs s)[i]] := by
      rw [show i + 1 - b = (i - b) + 1 by omega, List.take_succ_eq_append_getElem (by rw [List.length_drop]; omega)]
      congr 2
      rw [List.getElem_drop]; congr 1; omega
    rw [List.drop_eq_getElem_cons hil]
    refine Ev.step (spec_ReadFlags.l0.eq_2 s acc b i) (Ev.yes (by omega) ?_)
    rw [hq]
    refine Ev.step (spec_ReadFlags.j2.eq_2 s acc b i true) (Ev.yes rfl (Ev.yes (by omega) (Ev.yes (by omega) ?_)))
    rw [hb2]
    by_cases hc : (bs s)[i] = 32
    · have e : ((((bs s)[i] : Nat) : Int) != 32) = false := by rw [hc]; rfl
      rw [e, hc, piecesAt_hit]
      refine word b i acc _ hb (by omega) h0 h1 (fun acc' g0 g1 => ?_)
      have := ih (i + 1) (i + 1) acc' (by omega) (Nat.le_refl _) g0 g1
      rw [Nat.sub_self, List.take_zero] at this
      exact this
    · have e : ((((bs s)[i] : Nat) : Int) != 32) = true := bne_iff_ne.mpr (by omega)
      rw [e, piecesAt_next _ _ _ hc]
      have := ih (i + 1) b acc (by omega) (by omega) h0 h1
      rw [htake] at this
      refine Ev.step (spec_ReadFlags.j3.eq_2 s acc b i true) (Ev.yes rfl ?_)
      rw [w64 (by omega) (by omega)]
      exact this
/-- what is told of what stands between the brackets -/
def innerOut (l : List Nat) : Int × Bool := if l = [] then (0, true) else readW 0 ((pieces 32 l).map (·.map low))
def flagsRead (l : List Nat) : Int × Bool := if 2 ≤ l.length ∧ l.head? = some 40 ∧ l.getLast? = some 41 then innerOut ((l.drop 1).take (l.length - 2)) else (0, false)
theorem spec_inner (s : ByteArray) (hs : s.size ≤ 140737488351232) : Ev (fun k => spec_ReadFlags.l0 k (lowS s) 0 0 0) (innerOut (bs s)) := by
  have hsz : (lowS s).size = s.size := by rw [← bs_length, bs_lowS, List.length_map, bs_length]
  unfold innerOut
  by_cases h : bs s = []
  · rw [if_pos h]
    have hn : (lowS s).toList = [] := (toList_nil _).2 (by rw [bs_lowS, h]; rfl)
    refine Ev.step (spec_ReadFlags.l0.eq_2 (lowS s) 0 0 0) (Ev.yes (by omega) ?_)
    rw [hn]
    exact Ev.step (spec_ReadFlags.j2.eq_2 (lowS s) 0 0 0 false) (Ev.no (by simp) (Ev.now _))
  · rw [if_neg h]
    have := spec_ReadFlags_l0 (lowS s) (by omega) (by rw [bs_lowS]; simpa using h) (lowS s).size 0 0 0 (by omega) (Nat.le_refl _) (by omega) (by omega)
    rw [List.drop_zero, Nat.sub_zero, List.take_zero, piecesAt_start, bs_lowS, pieces_low] at this
    exact this
theorem spec_ReadFlags_ev (a : ByteArray) (ha : a.size ≤ 140737488351232) : Ev (fun k => spec_ReadFlags.f k a) (flagsRead (bs a)) := by
  have hlen : (bs a).length = a.size := bs_length a
  unfold flagsRead
  have bad : ∀ (r : Int × Bool), r = (0, false) → Ev (fun k => spec_ReadFlags.j0 k a true) r := fun r h => by subst h; exact Ev.step (spec_ReadFlags.j0.eq_2 a true) (Ev.yes rfl (Ev.now _))
  refine Ev.ite (fun h => bad _ (if_neg (by omega))) (fun h => ?_)
  have hw : wrap64 ((a.size : Int) - 1) = ((a.size - 1 : Nat) : Int) := by rw [w64 (by omega) (by omega)]; omega
  refine Ev.yes (by omega) ?_
  have h0 : bt a 0 = (((bs a)[0]'(by omega) : Nat) : Int) := bt_at a 0 (by omega)
  have hh : (bs a).head? = some ((bs a)[0]'(by omega)) := by rw [List.head?_eq_getElem?, List.getElem?_eq_getElem (by omega)]
  have hg : (bs a).getLast? = some ((bs a)[a.size - 1]'(by omega)) := by rw [List.getLast?_eq_getElem?, show (bs a).length - 1 = a.size - 1 by omega, List.getElem?_eq_getElem (by omega)]
  refine Ev.ite (fun h1 => ?_) (fun h1 => bad _ (if_neg (fun e => h1 (by rw [hh] at e; have := Option.some.inj e.2.1; rw [h0, this]; rfl))))
  have h1' : (bs a)[0]'(by omega) = 40 := by rw [h0] at h1; omega
  rw [hw]
  refine Ev.yes (by omega) (Ev.yes (by omega) ?_)
  rw [bt_at a (a.size - 1) (by omega)]
  by_cases h2 : (bs a)[a.size - 1]'(by omega) = 41
  · have e : ((((bs a)[a.size - 1]'(by omega) : Nat) : Int) != 41) = false := by rw [h2]; rfl
    rw [e, if_pos ⟨by omega, by rw [hh, h1'], by rw [hg, h2]⟩]
    refine Ev.step (spec_ReadFlags.j0.eq_2 a false) (Ev.no (by simp) ?_)
    rw [hw]
    refine Ev.yes (by omega) (Ev.yes (by omega) ?_)
    rw [Int.toNat_natCast]
    have hx : (a.extract 1 (a.size - 1)).size ≤ 140737488351232 := by rw [size_extract _ _ _ (by omega)]; omega
    refine Ev.bind (spec_l06Low_ev _ hx) ?_
    have := spec_inner (a.extract 1 (a.size - 1)) hx
    rw [bs_extract, show a.size - 1 - 1 = (bs a).length - 2 by omega] at this
    exact this
  · have e : ((((bs a)[a.size - 1]'(by omega) : Nat) : Int) != 41) = true := bne_iff_ne.mpr (by omega)
    rw [e]
    exact bad _ (if_neg (fun e => h2 (by rw [hg] at e; exact Option.some.inj e.2.2)))
theorem impl_ReadFlags_l0 (sp : List ByteArray) (hs : sp.length ≤ 140737488351232) (hz : ∀ s ∈ sp, s.size ≤ 140737488351232) : ∀ (d j : Nat) (acc : Int), j + d = sp.length → 0 ≤ acc → acc < 32 →
    Ev (fun k => impl_ReadFlags.l0 k acc sp (sp.length : Int) (j : Int)) (readW acc (((sp.drop j).map bs).map (·.map low))) := by
  intro d
  induction d with
  | zero =>
    intro j acc hj h0 h1
    rw [List.drop_of_length_le (by omega)]
    exact Ev.step (impl_ReadFlags.l0.eq_2 acc sp sp.length j) (Ev.no (by omega) (Ev.now _))
  | succ d ih =>
    intro j acc hj h0 h1
    have hjl : j < sp.length := by omega
    have hrd : rdOf ByteArray.empty sp (j : Int) = sp[j] := by
      unfold rdOf
      rw [Int.toNat_natCast, List.getD_eq_getElem?_getD, List.getElem?_eq_getElem hjl]; rfl
    have hw : wrap64 ((j : Int) + 1) = ((j + 1 : Nat) : Int) := by rw [w64 (by omega) (by omega)]; rfl
    rw [List.drop_eq_getElem_cons hjl, List.map_cons, List.map_cons, readW]
    refine Ev.step (impl_ReadFlags.l0.eq_2 acc sp sp.length j) (Ev.yes (by omega) (Ev.yes (by omega) (Ev.yes (by omega) ?_)))
    rw [hrd, hw]
    have hbit := impl_flagOf_ev (lowS sp[j])
    rw [bs_lowS] at hbit
    refine Ev.bind (impl_lower_ev _ (hz _ (List.getElem_mem hjl))) (Ev.bind hbit ?_)
    refine Ev.ite (fun h => ?_) (fun h => ?_)
    · rw [if_pos h]; exact Ev.now _
    · rw [if_neg h]
      obtain ⟨f1, f2⟩ := flag_step acc _ h0 h1 ((bitL_cases _).resolve_left h)
      refine Ev.ite (fun h3 => ?_) (fun h3 => ?_)
      · rw [if_pos h3]
        obtain ⟨f3, f4, f5⟩ := f2 h3
        exact ih (j + 1) _ (by omega) f4 f5
      · rw [if_neg h3]; exact Ev.now _
theorem pieces_small (c : Nat) : ∀ (l : List Nat) (p : List Nat), p ∈ pieces c l → p.length ≤ l.length
  | [], p, h => by
    have : p = [] := by simpa [pieces] using h
    subst this; exact Nat.le_refl _
  | b :: l, p, h => by
    obtain ⟨x, t, e1, e2⟩ := pieces_cons c b l
    have ih := pieces_small c l
    rw [e1] at ih
    rw [e2] at h
    split at h
    · rcases List.mem_cons.1 h with rfl | h
      · exact Nat.zero_le _
      · have := ih p h; simp; omega
    · rcases List.mem_cons.1 h with rfl | h
      · have := ih x List.mem_cons_self; simp; omega
      · have := ih p (List.mem_cons_of_mem _ h); simp; omega
/-- what ReadFlags does behind the brackets -/
theorem impl_inner (s : ByteArray) (hs : s.size ≤ 1048576) : Ev (fun k => impl_ReadFlags.j0 k s false) (innerOut (bs s)) := by
  unfold innerOut
  refine Ev.step (impl_ReadFlags.j0.eq_2 s false) (Ev.no (by simp) ?_)
  refine Ev.ite (fun h => ?_) (fun h => ?_)
  · rw [if_pos ((toList_nil s).1 h)]; exact Ev.now _
  · rw [if_neg (fun e => h ((toList_nil s).2 e))]
    have hsp := split_pieces 32 s.size s (Nat.le_refl _)
    have hl := pieces_len 32 (bs s)
    have hlen := bs_length s
    generalize hg : Lib.splitB ⟨#[32]⟩ 0 (Lib.countB s ⟨#[32]⟩) s = sp at hsp
    have hsp' : sp.map bs = pieces 32 (bs s) := hsp
    have hl2 : sp.length ≤ 1048577 := by
      have := congrArg List.length hsp'
      rw [List.length_map] at this
      omega
    have hf : strings_Split.f s (⟨#[32]⟩ : ByteArray) = some sp := by
      unfold strings_Split.f
      rw [hg, if_pos ⟨by omega, Nat.le_refl _, by omega⟩]
    have hz : ∀ t ∈ sp, t.size ≤ 140737488351232 := fun t ht => by
      have := pieces_small 32 (bs s) (bs t) (hsp' ▸ List.mem_map_of_mem ht)
      rw [bs_length] at this
      omega
    have := impl_ReadFlags_l0 sp (by omega) hz sp.length 0 0 (by omega) (by omega) (by omega)
    rw [List.drop_zero, hsp'] at this
    exact Ev.bindc hf this
theorem cutPrefix_eq (a : ByteArray) (ha : a.size ≤ 1048576) : strings_CutPrefix.f a (⟨#[40]⟩ : ByteArray) = some (if (bs a).head? = some 40 then (a.extract 1 a.size, true) else (a, false)) := by
  have z : (⟨#[40]⟩ : ByteArray).size = 1 := rfl
  have hlen := bs_length a
  have hp : stringslite_HasPrefix.f a (⟨#[40]⟩ : ByteArray) = some (decide ((bs a).head? = some 40)) := by
    unfold stringslite_HasPrefix.f
    rw [z]
    by_cases h : 1 ≤ a.size
    · rw [if_pos (by omega), if_pos (by omega), if_pos (by omega)]
      congr 1
      rw [Bool.eq_iff_iff, beq_iff_eq, decide_eq_true_eq, same_iff, bs_extract]
      have : (bs (⟨#[40]⟩ : ByteArray)) = [40] := rfl
      rw [this]
      show ((bs a).drop 0).take 1 = [40] ↔ _
      cases hb : bs a with
      | nil => rw [hb] at hlen; simp at hlen; omega
      | cons x l => simp
    · rw [if_neg (by omega)]
      have : bs a = [] := List.eq_nil_of_length_eq_zero (by omega)
      rw [this]; rfl
  unfold strings_CutPrefix.f stringslite_CutPrefix.f
  rw [hp, z]
  simp only [Option.bind_some, decide_eq_true_eq]
  by_cases h : (bs a).head? = some 40
  · have h1 : 1 ≤ a.size := by
      rcases Nat.lt_or_ge a.size 1 with h' | h'
      · have : bs a = [] := List.eq_nil_of_length_eq_zero (by omega)
        rw [this] at h; simp at h
      · exact h'
    rw [if_pos h, if_pos h, if_pos (by omega), if_pos (by omega)]; rfl
  · rw [if_neg h, if_neg h]; rfl
theorem cutSuffix_eq (a : ByteArray) (ha : a.size ≤ 1048576) : strings_CutSuffix.f a (⟨#[41]⟩ : ByteArray) = some (if (bs a).getLast? = some 41 then (a.extract 0 (a.size - 1), true) else (a, false)) := by
  have z : (⟨#[41]⟩ : ByteArray).size = 1 := rfl
  have hlen := bs_length a
  have hw : 1 ≤ a.size → wrap64 ((a.size : Int) - ((1 : Nat) : Int)) = ((a.size - 1 : Nat) : Int) := fun h => by rw [w64 (by omega) (by omega)]; omega
  have hp : stringslite_HasSuffix.f a (⟨#[41]⟩ : ByteArray) = some (decide ((bs a).getLast? = some 41)) := by
    unfold stringslite_HasSuffix.f
    rw [z]
    by_cases h : 1 ≤ a.size
    · rw [if_pos (by omega), hw h, if_pos (by omega), if_pos (by omega), Int.toNat_natCast]
      congr 1
      rw [Bool.eq_iff_iff, beq_iff_eq, decide_eq_true_eq, same_iff, bs_extract]
      have : (bs (⟨#[41]⟩ : ByteArray)) = [41] := rfl
      rw [this, List.getLast?_eq_getElem?, show (bs a).length - 1 = a.size - 1 by omega, List.getElem?_eq_getElem (by omega), show a.size - (a.size - 1) = 1 by omega, List.drop_eq_getElem_cons (show a.size - 1 < (bs a).length by omega), List.take_succ_cons, List.take_zero]
      constructor
      · intro h; exact congrArg some (List.cons.inj h).1
      · intro h; rw [Option.some.inj h]
    · rw [if_neg (by omega)]
      have : bs a = [] := List.eq_nil_of_length_eq_zero (by omega)
      rw [this]; rfl
  unfold strings_CutSuffix.f stringslite_CutSuffix.f
  rw [hp, z]
  simp only [Option.bind_some, decide_eq_true_eq]
  by_cases h : (bs a).getLast? = some 41
  · have h1 : 1 ≤ a.size := by
      rcases Nat.lt_or_ge a.size 1 with h' | h'
      · have : bs a = [] := List.eq_nil_of_length_eq_zero (by omega)
        rw [this] at h; simp at h
      · exact h'
    rw [if_pos h, if_pos h, hw h1, if_pos (by omega), if_pos (by omega), Int.toNat_natCast]; rfl
  · rw [if_neg h, if_neg h]; rfl
theorem impl_ReadFlags_ev (a : ByteArray) (ha : a.size ≤ 1048576) : Ev (fun k => impl_ReadFlags.f k a) (flagsRead (bs a)) := by
  have hlen := bs_length a
  unfold flagsRead
  have bad : ∀ (s : ByteArray) (r : Int × Bool), r = (0, false) → Ev (fun k => impl_ReadFlags.j0 k s true) r := fun s r h => by subst h; exact Ev.step (impl_ReadFlags.j0.eq_2 s true) (Ev.yes rfl (Ev.now _))
  refine Ev.bindc (cutPrefix_eq a ha) ?_
  by_cases h : (bs a).head? = some 40
  · rw [if_pos h]
    simp only
    have h1 : 1 ≤ a.size := by
      rcases Nat.lt_or_ge a.size 1 with h' | h'
      · have : bs a = [] := List.eq_nil_of_length_eq_zero (by omega)
        rw [this] at h; simp at h
      · exact h'
    have hx : (a.extract 1 a.size).size = a.size - 1 := by rw [size_extract _ _ _ (Nat.le_refl _)]
    have hbx : bs (a.extract 1 a.size) = (bs a).drop 1 := by rw [bs_extract, List.take_of_length_le (by rw [List.length_drop]; omega)]
    refine Ev.bindc (cutSuffix_eq (a.extract 1 a.size) (by omega)) ?_
    rw [hbx, hx]
    by_cases h2 : ((bs a).drop 1).getLast? = some 41
    · have h3 : 2 ≤ a.size := by
        rcases Nat.lt_or_ge a.size 2 with h' | h'
        · rw [List.drop_of_length_le (by omega)] at h2; simp at h2
        · exact h'
      have h4 : (bs a).getLast? = some 41 := by
        rw [List.getLast?_eq_getElem?] at h2 ⊢
        rw [List.getElem?_drop, List.length_drop] at h2
        rw [← h2]; congr 1; omega
      rw [if_pos h2, if_pos ⟨by omega, h, h4⟩]
      refine Ev.yes trivial ?_
      have := impl_inner ((a.extract 1 a.size).extract 0 (a.size - 1 - 1)) (by rw [size_extract _ _ _ (by omega)]; omega)
      rw [bs_extract, hbx, List.drop_zero, show a.size - 1 - 1 - 0 = (bs a).length - 2 by omega] at this
      exact this
    · rw [if_neg h2]
      refine Ev.yes trivial (bad _ _ (if_neg fun e => h2 ?_))
      have h4 := e.2.2
      rw [List.getLast?_eq_getElem?] at h4 ⊢
      rw [List.getElem?_drop, List.length_drop, ← h4]; congr 1; omega
  · rw [if_neg h]
    simp only
    refine Ev.bindc (cutSuffix_eq a ha) (Ev.no (by simp) (bad _ _ (if_neg fun e => h e.2.1)))

theorem FnExactReadFlags : laws_FnExactReadFlags.Pure := by
  intro a ha
  apply Ev.rounds
  unfold laws_FnExactReadFlags.f
  refine Ev.ite (fun _ => Ev.now _) (fun h => ?_)
  refine Ev.bind (spec_ReadFlags_ev a ha) (Ev.bind (impl_ReadFlags_ev a (by omega)) ?_)
  exact Ev.yes rfl (Ev.no (by simp) (Ev.now _))
end Go.Proofs.YtpeifbiboghceaaDoor.Pure
