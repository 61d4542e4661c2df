/- SetText returns what the reference returns, for every list of ranges; its argument stays as it was. No condition. -/
import Derived.Test.YthngecooaddddaaDoorSet
import Derived.Test.YthngecooaddddaaDoorDec
import Derived.Test.YthngecooaddddaaDoorQFnExactSetTextx4
namespace Go.Proofs.YthngecooaddddaaDoor.Pure
open Go.RowKit Go.Proofs.YthngecooaddddaaDoor.PFnExactSetText Go.Proofs.YthngecooaddddaaDoorW.PrintWords Go.Proofs.YthngecooaddddaaDoorW.PrintLast Go.Proofs.YthngecooaddddaaDoorW.PrintMore Go.Proofs.YthngecooaddddaaDoor.Gen
set_option linter.unusedVariables false

theorem spec_l01In_ev (a b c : Int) : spec_l01In.f a b c = some (decide (b ≤ a ∧ a ≤ c)) := by
  unfold spec_l01In.f
  by_cases h : a ≥ b
  · rw [if_pos h]; congr 1; simp; omega
  · rw [if_neg h]; congr 1; simp; omega

theorem impl_within_ev (a b c : Int) : impl_within.f a b c = some (decide (b ≤ a ∧ a ≤ c)) := by
  unfold impl_within.f
  by_cases h : a ≥ b
  · rw [if_pos h]; congr 1; simp; omega
  · rw [if_neg h]; congr 1; simp; omega

/-- a range as a pair -/
def pr (x : S40) : Int × Int := (x.f0, x.f1)
def to45 (x : S75) : S40 := ⟨x.f0, x.f1⟩
theorem rd45_at (l : List S40) (i : Nat) (h : i < l.length) : rd_T40 l (i : Int) = l[i] := by
  unfold rd_T40
  rw [Int.toNat_natCast, List.getD_eq_getElem?_getD, List.getElem?_eq_getElem h]; rfl
theorem rd47_at (l : List S75) (i : Nat) (h : i < l.length) : rd_T75 l (i : Int) = l[i] := by
  unfold rd_T75
  rw [Int.toNat_natCast, List.getD_eq_getElem?_getD, List.getElem?_eq_getElem h]; rfl
theorem laws_szRangeS_ev (l : List S75) (a : Int) (hl : l.length ≤ 9223372036854775807) (h0 : 0 ≤ a) (ha : a ≤ 1048576) : laws_szRangeS.f l a = some (if a - (l.length : Int) < 0 then -1 else a - (l.length : Int)) := by
  unfold laws_szRangeS.f
  rw [w64 (by omega) (by omega)]
  split <;> rfl
theorem laws_toRangeS_l0 (l : List S75) (hl : l.length ≤ 1048576) : ∀ (d i : Nat) (ys : List S40), i + d = l.length → ys.length = l.length → ys.take i = (l.take i).map to45 → Ev (fun k => laws_toRangeS.l0 k l ys (i : Int)) (l.map to45) := by
  intro d
  induction d with
  | zero =>
    intro i ys hi hy ht
    refine Ev.step (laws_toRangeS.l0.eq_2 l ys (i : Int)) (Ev.no (by omega) (Ev.const ?_))
    rw [List.take_of_length_le (by omega), List.take_of_length_le (by omega)] at ht
    rw [ht]
  | succ d ih =>
    intro i ys hi hy ht
    have hlt : i < l.length := by omega
    have hlt2 : i < ys.length := by omega
    have e := rd47_at l i hlt
    refine Ev.step (laws_toRangeS.l0.eq_2 l ys (i : Int)) (Ev.yes (by omega) (Ev.yes (by omega) (Ev.bindc rfl (Ev.yes (by omega) ?_))))
    rw [e, Int.toNat_natCast, w64 (by omega) (by omega)]
    refine ih (i + 1) _ (by omega) (by rw [List.length_set]; exact hy) ?_
    rw [take_set_next ys i _ hlt2, ht, List.take_succ_eq_append_getElem hlt, List.map_append]
    rfl
theorem laws_toRangeS_ev (l : List S75) (hl : l.length ≤ 1048576) : Ev (fun k => laws_toRangeS.f k l) (l.map to45) := by
  unfold laws_toRangeS.f
  refine Ev.yes (by omega) (Ev.yes (by omega) ?_)
  exact laws_toRangeS_l0 l hl l.length 0 _ (by omega) (by rw [List.length_replicate]; omega) (by simp)
theorem laws_eqRangeS_l0 (l : List S40) (hl : l.length ≤ 1048576) : ∀ (d i : Nat), i + d = l.length → Ev (fun k => laws_eqRangeS.l0 k l l (i : Int)) true := by
  intro d
  induction d with
  | zero =>
    intro i hi
    exact Ev.step (laws_eqRangeS.l0.eq_2 l l (i : Int)) (Ev.no (by omega) (Ev.now _))
  | succ d ih =>
    intro i hi
    have e : laws_eqRange.f ((rd_T40 l (i : Int)).f0) ((rd_T40 l (i : Int)).f1) ((rd_T40 l (i : Int)).f0) ((rd_T40 l (i : Int)).f1) = some true := by
      unfold laws_eqRange.f; rw [if_pos rfl, if_pos rfl]
    refine Ev.step (laws_eqRangeS.l0.eq_2 l l (i : Int)) (Ev.yes (by omega) (Ev.yes (by omega) (Ev.yes (by omega) (Ev.bindc e (Ev.yes rfl ?_)))))
    rw [w64 (by omega) (by omega)]
    exact ih (i + 1) (by omega)
theorem laws_eqRangeS_ev (l : List S40) (hl : l.length ≤ 1048576) : Ev (fun k => laws_eqRangeS.f k l l) true := by
  unfold laws_eqRangeS.f
  exact Ev.yes rfl (laws_eqRangeS_l0 l hl l.length 0 (by omega))

theorem spec_SetOk_l0 (l : List S40) (hl : l.length ≤ 1048576) : ∀ (d i : Nat) (b : Int), i + d = l.length → (i = 0 → b = 0) → (0 < i → b = (rd_T40 l ((i : Int) - 1)).f1 + 1 ∧ 1 ≤ b ∧ b ≤ 10000) →
    Ev (fun k => spec_SetOk.l0 k l (i : Int)) (okL b ((l.drop i).map pr) && decide ((l.length : Int) ≤ 40)) := by
  intro d
  induction d with
  | zero =>
    intro i b hi h0 h1
    refine Ev.step (spec_SetOk.l0.eq_2 l (i : Int)) (Ev.no (by omega) (Ev.const ?_))
    rw [List.drop_eq_nil_of_le (by omega)]; rfl
  | succ d ih =>
    intro i b hi h0 h1
    have hlt : i < l.length := by omega
    have e := rd45_at l i hlt
    rw [List.drop_eq_getElem_cons hlt]
    simp only [List.map_cons, okL]
    have ep : pr l[i] = ((rd_T40 l (i : Int)).f0, (rd_T40 l (i : Int)).f1) := by rw [e]; rfl
    rw [ep]
    generalize rd_T40 l (i : Int) = x at ep e
    have hn : ∀ c : Int, c = x.f1 + 1 → 1 ≤ x.f1 ∧ x.f1 ≤ 9999 → Ev (fun k => spec_SetOk.l0 k l ((i + 1 : Nat) : Int)) (okL c ((l.drop (i + 1)).map pr) && decide ((l.length : Int) ≤ 40)) := by
      intro c hc hx
      refine ih (i + 1) c (by omega) (fun h => by omega) (fun _ => ?_)
      have e3 : (((i + 1 : Nat) : Int) - 1) = (i : Int) := by omega
      rw [e3, rd45_at l i hlt, ← e]
      exact ⟨hc, by omega, by omega⟩
    have e2 : wrap64 ((i : Int) + 1) = ((i + 1 : Nat) : Int) := by rw [w64 (by omega) (by omega)]; omega
    have hx0 : (rd_T40 l (i : Int)) = x := by rw [rd45_at l i hlt]; exact e.symm
    refine Ev.step (spec_SetOk.l0.eq_2 l (i : Int)) ?_
    rw [e2]
    clear e2 e ep ih
    rw [hx0]
    have hz : 0 < i → wrap64 ((i : Int) - 1) = (i : Int) - 1 := fun h => w64 (by omega) (by omega)
    refine Ev.yes (by omega) (Ev.yes (by omega) (Ev.bindc (spec_l01In_ev _ _ _) ?_))
    refine Ev.ite (fun h2 => ?_) (fun h2 => ?_)
    · rw [decide_eq_true_eq] at h2
      refine Ev.ite (fun h3 => ?_) (fun h3 => ?_)
      · rw [decide_eq_false (by omega)]; exact Ev.now _
      · refine Ev.ite (fun h4 => ?_) (fun h4 => ?_)
        · obtain ⟨h5, h6, h7⟩ := h1 (by omega)
          rw [hz (by omega), w64 (x := (rd_T40 l ((i : Int) - 1)).f1 + 1) (by omega) (by omega), ← h5]
          clear hz
          refine Ev.yes (by omega) (Ev.yes (by omega) ?_)
          refine Ev.ite (fun h8 => ?_) (fun h8 => ?_)
          · rw [decide_eq_false (by omega)]; exact Ev.now _
          · rw [decide_eq_true (show b < x.f0 ∧ 1 ≤ x.f0 ∧ x.f0 ≤ x.f1 ∧ x.f1 ≤ 9999 by omega), Bool.true_and]
            exact hn _ rfl (by omega)
        · clear hz
          have h9 := h0 (by omega)
          rw [decide_eq_true (show b < x.f0 ∧ 1 ≤ x.f0 ∧ x.f0 ≤ x.f1 ∧ x.f1 ≤ 9999 by omega), Bool.true_and]
          exact hn _ rfl (by omega)
    · rw [decide_eq_true_eq] at h2
      rw [decide_eq_false (by omega)]; exact Ev.now _

theorem spec_SetOk_ev (l : List S40) (hl : l.length ≤ 1048576) : Ev (fun k => spec_SetOk.f k l) (setOkB (l.map pr)) := by
  have := spec_SetOk_l0 l hl l.length 0 0 (by omega) (fun _ => rfl) (fun h => by omega)
  unfold setOkB
  rw [List.length_map]
  exact this

theorem impl_isUid_ev (a : Int) : impl_isUid.f a = some (decide (1 ≤ a ∧ a ≤ 9999)) := by unfold impl_isUid.f; rw [impl_within_ev]; rfl
theorem impl_SetOk_l0 (l : List S40) (hl : l.length ≤ 1048576) : ∀ (d i : Nat) (b : Int), i + d = l.length → (i = 0 → b = 0) → (0 < i → b = (rd_T40 l ((i : Int) - 1)).f1 + 1 ∧ 1 ≤ b ∧ b ≤ 10000) →
    Ev (fun k => impl_SetOk.l0 k l l (l.length : Int) (i : Int)) (okL b ((l.drop i).map pr) && decide ((l.length : Int) ≤ 40)) := by
  intro d
  induction d with
  | zero =>
    intro i b hi h0 h1
    refine Ev.step (impl_SetOk.l0.eq_2 l l (l.length : Int) (i : Int)) (Ev.no (by omega) (Ev.const ?_))
    rw [List.drop_eq_nil_of_le (by omega)]; rfl
  | succ d ih =>
    intro i b hi h0 h1
    have hlt : i < l.length := by omega
    have e := rd45_at l i hlt
    rw [List.drop_eq_getElem_cons hlt]
    simp only [List.map_cons, okL]
    have ep : pr l[i] = ((rd_T40 l (i : Int)).f0, (rd_T40 l (i : Int)).f1) := by rw [e]; rfl
    rw [ep]
    generalize rd_T40 l (i : Int) = x at ep e
    have hn : ∀ c : Int, c = x.f1 + 1 → 1 ≤ x.f1 ∧ x.f1 ≤ 9999 → Ev (fun k => impl_SetOk.l0 k l l (l.length : Int) ((i + 1 : Nat) : Int)) (okL c ((l.drop (i + 1)).map pr) && decide ((l.length : Int) ≤ 40)) := by
      intro c hc hx
      refine ih (i + 1) c (by omega) (fun h => by omega) (fun _ => ?_)
      have e3 : (((i + 1 : Nat) : Int) - 1) = (i : Int) := by omega
      rw [e3, rd45_at l i hlt, ← e]
      exact ⟨hc, by omega, by omega⟩
    have e2 : wrap64 ((i : Int) + 1) = ((i + 1 : Nat) : Int) := by rw [w64 (by omega) (by omega)]; omega
    have hx0 : (rd_T40 l (i : Int)) = x := by rw [rd45_at l i hlt]; exact e.symm
    refine Ev.step (impl_SetOk.l0.eq_2 l l (l.length : Int) (i : Int)) ?_
    rw [e2]
    clear e2 e ep ih
    rw [hx0]
    have hz : 0 < i → wrap64 ((i : Int) - 1) = (i : Int) - 1 := fun h => w64 (by omega) (by omega)
    refine Ev.yes (by omega) (Ev.yes (by omega) (Ev.yes (by omega) (Ev.bindc (impl_isUid_ev _) ?_)))
    refine Ev.ite (fun h2 => ?_) (fun h2 => ?_)
    · rw [decide_eq_true_eq] at h2
      refine Ev.bindc (impl_within_ev _ _ _) ?_
      refine Ev.ite (fun h3 => ?_) (fun h3 => ?_)
      · rw [decide_eq_true_eq] at h3
        refine Ev.ite (fun h4 => ?_) (fun h4 => ?_)
        · obtain ⟨h5, h6, h7⟩ := h1 (by omega)
          rw [hz (by omega), w64 (x := (rd_T40 l ((i : Int) - 1)).f1 + 1) (by omega) (by omega), ← h5]
          clear hz
          refine Ev.yes (by omega) (Ev.yes (by omega) ?_)
          refine Ev.ite (fun h8 => ?_) (fun h8 => ?_)
          · rw [decide_eq_false (by omega)]; exact Ev.now _
          · rw [decide_eq_true (show b < x.f0 ∧ 1 ≤ x.f0 ∧ x.f0 ≤ x.f1 ∧ x.f1 ≤ 9999 by omega), Bool.true_and]
            exact hn _ rfl (by omega)
        · clear hz
          have h9 := h0 (by omega)
          rw [decide_eq_true (show b < x.f0 ∧ 1 ≤ x.f0 ∧ x.f0 ≤ x.f1 ∧ x.f1 ≤ 9999 by omega), Bool.true_and]
          exact hn _ rfl (by omega)
      · rw [decide_eq_true_eq] at h3
        rw [decide_eq_false (by omega)]; exact Ev.now _
    · rw [decide_eq_true_eq] at h2
      rw [decide_eq_false (by omega)]; exact Ev.now _

theorem impl_SetOk_ev (l : List S40) (hl : l.length ≤ 1048576) : Ev (fun k => impl_SetOk.f k l) (setOkB (l.map pr)) := by
  have := impl_SetOk_l0 l hl l.length 0 0 (by omega) (fun _ => rfl) (fun h => by omega)
  unfold setOkB
  rw [List.length_map]
  exact this


/-! decimal figures -/
theorem figure_ev (d : Int) (h0 : 0 ≤ d) (h1 : d < 10) : spec_l01Figure.f d = some (48 + d) := by
  unfold spec_l01Figure.f
  rw [if_pos h1, w64 (x := 48 + d) (by omega) (by omega)]
  congr 1; omega
theorem bs_fig (d : Nat) (h : d < 10) : bs (strOfNums [48 + (d : Int)]) = [48 + d] := by
  rw [bs_nums [48 + (d : Int)] (by simp; omega)]
  simp; omega
theorem spec_Decimal_l0 (neg : Bool) : ∀ (m u : Nat) (x : Int) (acc : ByteArray), u ≤ m → ((neg = true ∧ x = -(u : Int)) ∨ (neg = false ∧ x = (u : Int))) → u ≤ 9223372036854775808 → (u = 0 → acc.size ≤ 4611686018427387905) → (0 < u → acc.size + u / 2 ≤ 4611686018427387904) →
    ∃ r, Ev (fun k => spec_Decimal.l0 k x neg acc) r ∧ bs r = (if neg = true then [45] else []) ++ (digs u ++ bs acc) := by
  intro m
  induction m with
  | zero =>
    intro u x acc hu hx hb h0 _
    have hu0 : u = 0 := by omega
    subst hu0
    have hx0 : x = 0 := by omega
    subst hx0
    cases neg
    · exact ⟨acc, Ev.step (spec_Decimal.l0.eq_2 0 false acc) (Ev.yes rfl (Ev.no (by simp) (Ev.now _))), by rw [digs]; simp⟩
    · refine ⟨(⟨#[45]⟩ : ByteArray) ++ acc, Ev.step (spec_Decimal.l0.eq_2 0 true acc) (Ev.yes rfl (Ev.yes rfl (Ev.yes (by have := h0 rfl; omega) (Ev.now _)))), ?_⟩
      rw [bs_append, digs]; rfl
  | succ m ih =>
    intro u x acc hu hx hb h0 h1
    by_cases hz : u = 0
    · exact ih u x acc (by omega) hx hb h0 h1
    have hpos : 0 < u := by omega
    have h2 := h1 hpos
    clear h0 h1
    have hd : u % 10 < 10 := Nat.mod_lt _ (by omega)
    have tm : (neg = true ∧ Int.tmod x 10 = -((u % 10 : Nat) : Int)) ∨ (neg = false ∧ Int.tmod x 10 = ((u % 10 : Nat) : Int)) := by
      rcases hx with ⟨h, rfl⟩ | ⟨h, rfl⟩
      · exact .inl ⟨h, by rw [Int.neg_tmod, tm10]⟩
      · exact .inr ⟨h, tm10 u⟩
    have td : (neg = true ∧ Int.tdiv x 10 = -((u / 10 : Nat) : Int)) ∨ (neg = false ∧ Int.tdiv x 10 = ((u / 10 : Nat) : Int)) := by
      rcases hx with ⟨h, rfl⟩ | ⟨h, rfl⟩
      · exact .inl ⟨h, by rw [Int.neg_tdiv, td10]⟩
      · exact .inr ⟨h, td10 u⟩
    have hx0 : x ≠ 0 := by omega
    have hsz : (strOfNums [48 + ((u % 10 : Nat) : Int)]).size = 1 := by rw [size_nums]; rfl
    obtain ⟨r, hr, er⟩ := ih (u / 10) (Int.tdiv x 10) (strOfNums [48 + ((u % 10 : Nat) : Int)] ++ acc) (by omega) (by rcases td with h | h <;> simp [h]) (by omega)
      (fun h => by rw [size_append, hsz]; omega) (fun h => by rw [size_append, hsz]; omega)
    have er2 : bs r = (if neg = true then [45] else []) ++ (digs u ++ bs acc) := by
      rw [er, bs_append, bs_fig _ hd, digs.eq_def u, dif_neg hz, List.append_assoc]
    refine ⟨r, Ev.step (spec_Decimal.l0.eq_2 x neg acc) (Ev.no hx0 ?_), er2⟩
    have hq : -9223372036854775808 ≤ Int.tdiv x 10 ∧ Int.tdiv x 10 ≤ 9223372036854775807 := by omega
    rw [w64 (x := Int.tdiv x 10) hq.1 hq.2]
    have fin : Ev (fun k => ((some (([48 + ((u % 10 : Nat) : Int)] : List Int) : List Int)).bind fun y => (if (strOfNums y).size + acc.size ≤ 9223372036854775807 then (spec_Decimal.l0 k (Int.tdiv x 10) neg ((strOfNums y) ++ acc)) else (none)))) r :=
      Ev.bindc rfl (Ev.yes (by rw [hsz]; omega) hr)
    refine Ev.ite (fun h => ?_) (fun h => ?_)
    · have e1 : -(Int.tmod x 10) = ((u % 10 : Nat) : Int) := by omega
      rw [e1, w64 (by omega) (by omega)]
      exact Ev.bindc (figure_ev _ (by omega) (by omega)) fin
    · have e1 : Int.tmod x 10 = ((u % 10 : Nat) : Int) := by omega
      rw [e1]
      exact Ev.bindc (figure_ev _ (by omega) (by omega)) fin
/-- the numeral of an int -/
theorem spec_Decimal_ev (a : Int) (h1 : -9223372036854775808 ≤ a) (h2 : a ≤ 9223372036854775807) : Ev (fun k => spec_Decimal.f k a) ⟨(Lib.itoa a).toArray⟩ := by
  unfold spec_Decimal.f
  by_cases h0 : a = 0
  · subst h0
    exact Ev.yes rfl (Ev.const (by congr 1; apply bs_inj; rw [bs_itoa]; rfl))
  · refine Ev.no h0 ?_
    obtain ⟨r, hr, er⟩ := spec_Decimal_l0 (decide (a < 0)) a.natAbs a.natAbs a (⟨#[]⟩ : ByteArray) (Nat.le_refl _) (by
      by_cases h : a < 0
      · exact .inl ⟨decide_eq_true h, by omega⟩
      · exact .inr ⟨decide_eq_false h, by omega⟩) (by omega) (fun _ => by show 0 ≤ _; omega) (fun _ => by show 0 + _ ≤ _; omega)
    have : r = ⟨(Lib.itoa a).toArray⟩ := by
      apply bs_inj
      rw [er, bs_itoa]
      by_cases h : a < 0
      · rw [if_pos (decide_eq_true h)]; unfold numeral figs; rw [if_pos h, if_neg (by omega)]; simp [bs_empty]
      · rw [if_neg (by simp [h])]; unfold numeral figs; rw [if_neg h, if_neg (by omega), show a.toNat = a.natAbs by omega]; simp [bs_empty]
    rw [← this]; exact hr

/-! sets told as text -/
def joinN : List (List Nat) → List Nat
  | [] => []
  | x :: r => x ++ (r.map (44 :: ·)).flatten
theorem joinN_snoc (l : List (List Nat)) (x : List Nat) (h : l ≠ []) : joinN (l ++ [x]) = joinN l ++ 44 :: x := by
  cases l with
  | nil => exact absurd rfl h
  | cons y r => simp [joinN, List.append_assoc]
theorem joinN_len : ∀ (l : List (List Nat)) (m : Nat), (∀ x ∈ l, x.length ≤ m) → (joinN l).length ≤ l.length * (m + 1)
  | [], m, _ => by simp [joinN]
  | x :: r, m, h => by
    have hx := h x List.mem_cons_self
    have : ∀ r : List (List Nat), (∀ x ∈ r, x.length ≤ m) → ((r.map (44 :: ·)).flatten).length ≤ r.length * (m + 1) := by
      intro r
      induction r with
      | nil => intro _; simp
      | cons y r ih =>
        intro hr
        have hy := hr y List.mem_cons_self
        have := ih fun z hz => hr z (List.mem_cons_of_mem _ hz)
        simp only [List.map_cons, List.flatten_cons, List.length_append, List.length_cons, Nat.succ_mul] at this ⊢
        omega
    have := this r fun z hz => h z (List.mem_cons_of_mem _ hz)
    simp only [joinN, List.length_append, List.length_cons, Nat.succ_mul]
    omega
theorem lib_join (ls : List ByteArray) : (Lib.join (ls.map (·.data.toList)) [44]).map UInt8.toNat = joinN (ls.map bs) := by
  cases ls with
  | nil => rfl
  | cons x r =>
    rw [List.map_cons, Lib.join_cons, List.map_append, List.map_cons, joinN]
    congr 1
    unfold Lib.joinTail
    rw [List.map_flatten, List.map_map, List.map_map, List.map_map]
    congr 1
def partB (r : S40) : List Nat := figs r.f0.toNat ++ (if r.f1 > r.f0 then 58 :: figs r.f1.toNat else [])
theorem partB_len (r : S40) (h : 1 ≤ r.f0 ∧ r.f0 ≤ r.f1 ∧ r.f1 ≤ 9999) : (partB r).length ≤ 9 := by
  have h1 := figs_len 4 r.f0.toNat (by omega) (by omega)
  have h2 := figs_len 4 r.f1.toNat (by omega) (by omega)
  unfold partB
  split <;> simp only [List.length_append, List.length_cons, List.length_nil] <;> omega
def itT (v : Int) : ByteArray := ⟨(Lib.itoa v).toArray⟩
theorem bs_itT (v : Int) (h : 0 ≤ v) : bs (itT v) = figs v.toNat := by
  unfold itT; rw [bs_itoa, numeral, if_neg (by omega)]
theorem itT_size (v : Int) (h : 0 ≤ v) (h1 : v ≤ 9999) : (itT v).size ≤ 4 := by
  rw [← bs_length, bs_itT v h]; exact figs_len 4 _ (by omega) (by omega)
theorem impl_Decimal_eq (v : Int) (h : 0 ≤ v) (h1 : v ≤ 9999) : impl_Decimal.f v = some (itT v) := by
  show (strconv_Itoa.f v).bind _ = _
  rw [strconv_Itoa.f, if_pos (by omega)]; rfl
theorem impl_SetText_l0 (l : List S40) (h40 : l.length ≤ 40) (hok : ∀ r ∈ l, 1 ≤ r.f0 ∧ r.f0 ≤ r.f1 ∧ r.f1 ≤ 9999) : ∀ (d i : Nat) (ps : List ByteArray), i + d = l.length → ps.map bs = (l.take i).map partB →
    ∃ t : ByteArray, Ev (fun k => impl_SetText.l0 k ps l (l.length : Int) (i : Int)) t ∧ bs t = joinN (l.map partB) := by
  intro d
  induction d with
  | zero =>
    intro i ps hi hp
    rw [List.take_of_length_le (by omega)] at hp
    have hj := lib_join ps
    rw [hp] at hj
    have hl := joinN_len (l.map partB) 9 (fun x hx => by
      obtain ⟨r, hr, rfl⟩ := List.mem_map.1 hx
      exact partB_len r (hok r hr))
    rw [List.length_map] at hl
    have hl2 : (Lib.join (ps.map (·.data.toList)) [44]).length ≤ 400 := by
      have := congrArg List.length hj
      rw [List.length_map] at this
      omega
    have hpl : ps.length = l.length := by
      have := congrArg List.length hp
      simpa using this
    refine ⟨⟨(Lib.join (ps.map (·.data.toList)) [44]).toArray⟩, Ev.step (impl_SetText.l0.eq_2 ps l l.length i) (Ev.no (by omega) (Ev.bindc (a := ⟨(Lib.join (ps.map (·.data.toList)) [44]).toArray⟩) ?_ (Ev.now _))), ?_⟩
    · unfold strings_Join.f
      rw [if_pos ⟨by show (Lib.join (ps.map (·.data.toList)) [44]).length ≤ _; omega, by omega⟩]
    · exact hj
  | succ d ih =>
    intro i ps hi hp
    have hil : i < l.length := by omega
    have hr := hok _ (List.getElem_mem hil)
    have hw : wrap64 ((i : Int) + 1) = ((i + 1 : Nat) : Int) := by rw [w64 (by omega) (by omega)]; rfl
    have hpl : ps.length = i := by
      have := congrArg List.length hp
      rw [List.length_map, List.length_map, List.length_take] at this
      omega
    have z0 := itT_size (l[i]).f0 (by omega) (by omega)
    have z1 := itT_size (l[i]).f1 (by omega) (by omega)
    have zc : (⟨#[58]⟩ : ByteArray).size = 1 := rfl
    have nxt : ∀ t : ByteArray, bs t = partB l[i] → ∃ r : ByteArray, Ev (fun k => impl_SetText.l0 k (ps ++ [t]) l (l.length : Int) ((i + 1 : Nat) : Int)) r ∧ bs r = joinN (l.map partB) := fun t ht =>
      ih (i + 1) (ps ++ [t]) (by omega) (by rw [List.map_append, hp, List.take_succ_eq_append_getElem hil, List.map_append, List.map_cons, List.map_nil, List.map_cons, List.map_nil, ht])
    have go : ∀ R, Ev (fun k => (if (l[i]).f1 > (l[i]).f0 then ((impl_Decimal.f (l[i]).f1).bind fun t116 => (if 1 + t116.size ≤ 9223372036854775807 then (if (itT (l[i]).f0).size + ((⟨#[58]⟩ : ByteArray) ++ t116).size ≤ 9223372036854775807 then (if ps.length < 8796093022208 then (impl_SetText.l0 k (ps ++ [itT (l[i]).f0 ++ ((⟨#[58]⟩ : ByteArray) ++ t116)]) l (l.length : Int) ((i + 1 : Nat) : Int)) else (none)) else (none)) else (none))) else (if ps.length < 8796093022208 then (impl_SetText.l0 k (ps ++ [itT (l[i]).f0]) l (l.length : Int) ((i + 1 : Nat) : Int)) else (none)))) R → Ev (fun k => impl_SetText.l0 k ps l (l.length : Int) (i : Int)) R := fun R h => by
      refine Ev.step (impl_SetText.l0.eq_2 ps l l.length i) (Ev.yes (by omega) (Ev.yes (by omega) (Ev.yes (by omega) ?_)))
      rw [rd45_at l i hil, hw]
      exact Ev.bindc (impl_Decimal_eq _ (by omega) (by omega)) h
    by_cases hgt : (l[i]).f1 > (l[i]).f0
    · obtain ⟨r, er, hb⟩ := nxt (itT (l[i]).f0 ++ ((⟨#[58]⟩ : ByteArray) ++ itT (l[i]).f1)) (by
        rw [bs_append, bs_append, bs_itT _ (by omega), bs_itT _ (by omega), partB, if_pos hgt]; rfl)
      exact ⟨r, go r (Ev.yes hgt (Ev.bindc (impl_Decimal_eq _ (by omega) (by omega)) (Ev.yes (by omega) (Ev.yes (by rw [size_append]; omega) (Ev.yes (by omega) er))))), hb⟩
    · obtain ⟨r, er, hb⟩ := nxt (itT (l[i]).f0) (by rw [bs_itT _ (by omega), partB, if_neg hgt, List.append_nil])
      exact ⟨r, go r (Ev.no hgt (Ev.yes (by omega) er)), hb⟩
theorem spec_SetText_l0 (l : List S40) (h40 : l.length ≤ 40) (hok : ∀ r ∈ l, 1 ≤ r.f0 ∧ r.f0 ≤ r.f1 ∧ r.f1 ≤ 9999) : ∀ (d i : Nat) (out : ByteArray), i + d = l.length → bs out = joinN ((l.take i).map partB) →
    ∃ t : ByteArray, Ev (fun k => spec_SetText.l0 k l out (i : Int)) t ∧ bs t = joinN (l.map partB) := by
  intro d
  induction d with
  | zero =>
    intro i out hi hp
    rw [List.take_of_length_le (by omega)] at hp
    exact ⟨out, Ev.step (spec_SetText.l0.eq_2 l out i) (Ev.no (by omega) (Ev.now _)), hp⟩
  | succ d ih =>
    intro i out hi hp
    have hil : i < l.length := by omega
    have hr := hok _ (List.getElem_mem hil)
    have hw : wrap64 ((i : Int) + 1) = ((i + 1 : Nat) : Int) := by rw [w64 (by omega) (by omega)]; rfl
    have z0 := itT_size (l[i]).f0 (by omega) (by omega)
    have z1 := itT_size (l[i]).f1 (by omega) (by omega)
    have zc : (⟨#[58]⟩ : ByteArray).size = 1 := rfl
    have zk : (⟨#[44]⟩ : ByteArray).size = 1 := rfl
    have hz : out.size ≤ 400 := by
      have hl := joinN_len ((l.take i).map partB) 9 (fun x hx => by
        obtain ⟨r, hr, rfl⟩ := List.mem_map.1 hx
        exact partB_len r (hok r (List.mem_of_mem_take hr)))
      rw [← hp, bs_length, List.length_map, List.length_take] at hl
      omega
    have hne : 0 < i → (l.take i).map partB ≠ [] := fun h e => by
      have := congrArg List.length e
      rw [List.length_map, List.length_take, List.length_nil] at this
      clear hw
      omega
    have nxt : ∀ o t : ByteArray, bs t = partB l[i] → ((i = 0 ∧ o = out) ∨ (0 < i ∧ o = out ++ (⟨#[44]⟩ : ByteArray))) → ∃ r : ByteArray, Ev (fun k => spec_SetText.l0 k l (o ++ t) ((i + 1 : Nat) : Int)) r ∧ bs r = joinN (l.map partB) := fun o t ht ho =>
      ih (i + 1) (o ++ t) (by omega) (by
        rw [List.take_succ_eq_append_getElem hil, List.map_append, List.map_cons, List.map_nil, bs_append, ht]
        rcases ho with ⟨h0, rfl⟩ | ⟨h0, rfl⟩
        · subst h0
          rw [hp]
          simp [joinN]
        · rw [joinN_snoc _ _ (hne h0), bs_append, hp, List.append_assoc]; rfl)
    have d0 := spec_Decimal_ev (l[i]).f0 (by omega) (by omega)
    have d1 := spec_Decimal_ev (l[i]).f1 (by omega) (by omega)
    have j1 : ∀ o : ByteArray, o.size ≤ 401 → ((i = 0 ∧ o = out) ∨ (0 < i ∧ o = out ++ (⟨#[44]⟩ : ByteArray))) → ∃ r : ByteArray, Ev (fun k => spec_SetText.j1 k l o (i : Int)) r ∧ bs r = joinN (l.map partB) := fun o hoz ho => by
      have go : ∀ R, Ev (fun k => (if o.size + (itT (l[i]).f0).size ≤ 9223372036854775807 then (if (l[i]).f1 > (l[i]).f0 then (if (o ++ itT (l[i]).f0).size + 1 ≤ 9223372036854775807 then ((spec_Decimal.f k (l[i]).f1).bind fun t143 => (if ((o ++ itT (l[i]).f0) ++ (⟨#[58]⟩ : ByteArray)).size + t143.size ≤ 9223372036854775807 then (spec_SetText.l0 k l (((o ++ itT (l[i]).f0) ++ (⟨#[58]⟩ : ByteArray)) ++ t143) ((i + 1 : Nat) : Int)) else (none))) else (none)) else (spec_SetText.l0 k l (o ++ itT (l[i]).f0) ((i + 1 : Nat) : Int))) else (none))) R → Ev (fun k => spec_SetText.j1 k l o (i : Int)) R := fun R h => by
        refine Ev.step (spec_SetText.j1.eq_2 l o i) (Ev.yes (by omega) (Ev.yes (by omega) ?_))
        rw [rd45_at l i hil, hw]
        exact Ev.bind d0 h
      by_cases hgt : (l[i]).f1 > (l[i]).f0
      · obtain ⟨r, er, hb⟩ := nxt o (itT (l[i]).f0 ++ ((⟨#[58]⟩ : ByteArray) ++ itT (l[i]).f1)) (by
          rw [bs_append, bs_append, bs_itT _ (by omega), bs_itT _ (by omega), partB, if_pos hgt]; rfl) ho
        have e : o ++ (itT (l[i]).f0 ++ ((⟨#[58]⟩ : ByteArray) ++ itT (l[i]).f1)) = ((o ++ itT (l[i]).f0) ++ (⟨#[58]⟩ : ByteArray)) ++ itT (l[i]).f1 := bs_inj (by simp only [bs_append, List.append_assoc])
        rw [e] at er
        exact ⟨r, go r (Ev.yes (by omega) (Ev.yes hgt (Ev.yes (by rw [size_append]; omega) (Ev.bind d1 (Ev.yes (by show _ + (itT (l[i]).f1).size ≤ _; rw [size_append, size_append]; omega) er))))), hb⟩
      · obtain ⟨r, er, hb⟩ := nxt o (itT (l[i]).f0) (by rw [bs_itT _ (by omega), partB, if_neg hgt, List.append_nil]) ho
        exact ⟨r, go r (Ev.yes (by omega) (Ev.no hgt er)), hb⟩
    by_cases h0 : 0 < i
    · obtain ⟨r, er, hb⟩ := j1 (out ++ (⟨#[44]⟩ : ByteArray)) (by rw [size_append]; omega) (.inr ⟨h0, rfl⟩)
      exact ⟨r, Ev.step (spec_SetText.l0.eq_2 l out i) (Ev.yes (by omega) (Ev.yes (by omega) (Ev.yes (by omega) er))), hb⟩
    · obtain ⟨r, er, hb⟩ := j1 out (by omega) (.inl ⟨by omega, rfl⟩)
      exact ⟨r, Ev.step (spec_SetText.l0.eq_2 l out i) (Ev.yes (by omega) (Ev.no (by omega) er)), hb⟩
/-- what SetText tells -/
def textB (l : List S40) : List Nat := if setOkB (l.map pr) = true then joinN (l.map partB) else []
theorem setOk_facts {l : List S40} (h : setOkB (l.map pr) = true) : l.length ≤ 40 ∧ ∀ r ∈ l, 1 ≤ r.f0 ∧ r.f0 ≤ r.f1 ∧ r.f1 ≤ 9999 := by
  unfold setOkB at h
  simp only [Bool.and_eq_true, decide_eq_true_eq, List.length_map] at h
  have := h
  constructor
  · first | omega | exact h.2 | exact h.1
  · intro r hr
    first | exact okL_mem h.1 (pr r) (List.mem_map_of_mem hr) | exact okL_mem h.2 (pr r) (List.mem_map_of_mem hr)
theorem impl_SetText_ev (l : List S40) (hl : l.length ≤ 1048576) : ∃ t : ByteArray, Ev (fun k => impl_SetText.f k l) t ∧ bs t = textB l := by
  unfold impl_SetText.f textB
  by_cases h : setOkB (l.map pr) = true
  · obtain ⟨h40, hok⟩ := setOk_facts h
    obtain ⟨t, e, hb⟩ := impl_SetText_l0 l h40 hok l.length 0 [] (by omega) rfl
    exact ⟨t, Ev.bind (impl_SetOk_ev l hl) (Ev.yes h e), by rw [if_pos h]; exact hb⟩
  · exact ⟨⟨#[]⟩, Ev.bind (impl_SetOk_ev l hl) (Ev.no h (Ev.now _)), by rw [if_neg h]; rfl⟩
theorem spec_SetText_ev (l : List S40) (hl : l.length ≤ 1048576) : ∃ t : ByteArray, Ev (fun k => spec_SetText.f k l) t ∧ bs t = textB l := by
  unfold spec_SetText.f textB
  by_cases h : setOkB (l.map pr) = true
  · obtain ⟨h40, hok⟩ := setOk_facts h
    obtain ⟨t, e, hb⟩ := spec_SetText_l0 l h40 hok l.length 0 (⟨#[]⟩ : ByteArray) (by omega) rfl
    exact ⟨t, Ev.bind (spec_SetOk_ev l hl) (Ev.yes h e), by rw [if_pos h]; exact hb⟩
  · exact ⟨⟨#[]⟩, Ev.bind (spec_SetOk_ev l hl) (Ev.no h (Ev.now _)), by rw [if_neg h]; rfl⟩


theorem FnExactSetText : ∀ (l0 : List S75), l0.length ≤ 9223372036854775807 → (∀ x ∈ l0, (Lit.int .i64 x.f0).wf = true ∧ (Lit.int .i64 x.f1).wf = true) → ∃ k, laws_FnExactSetText.f k l0 = some true := by
  intro l hl hw
  apply Ev.rounds
  unfold laws_FnExactSetText.f
  refine Ev.bindc (laws_szRangeS_ev l 1048576 hl (by omega) (by omega)) ?_
  by_cases hbig : (1048576 : Int) - (l.length : Int) < 0
  · rw [if_pos hbig]; exact Ev.yes (by omega) (Ev.now _)
  rw [if_neg hbig]
  have hl2 : l.length ≤ 1048576 := by omega
  have hm : (l.map to45).length ≤ 1048576 := by rw [List.length_map]; exact hl2
  have ht := laws_toRangeS_ev l hl2
  obtain ⟨t, e1, b1⟩ := spec_SetText_ev _ hm
  obtain ⟨u, e2, b2⟩ := impl_SetText_ev _ hm
  obtain rfl : u = t := bs_inj (b2.trans b1.symm)
  refine Ev.no hbig (Ev.bind ht (Ev.bind e1 (Ev.bind ht (Ev.bind e2 (Ev.yes rfl (Ev.bind ht (Ev.bind (laws_eqRangeS_ev _ hm) (Ev.yes rfl (Ev.now _)))))))))

end Go.Proofs.YthngecooaddddaaDoor.Pure
