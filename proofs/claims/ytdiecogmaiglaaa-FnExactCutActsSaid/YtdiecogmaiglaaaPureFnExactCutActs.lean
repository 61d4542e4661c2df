/- CutActs returns what the reference returns, for every disk, every list of acts, every part of them and every list of ints; its arguments stay as they were, its answer is new memory. No condition. -/
import Derived.Test.YtdiecogmaiglaaaDisk
import Derived.Test.YtdiecogmaiglaaaCopy
import Derived.Test.YtdiecogmaiglaaaQFnExactCutActsx20
namespace Go.Proofs.Ytdiecogmaiglaaa.Pure
open Go.RowKit Go.Proofs.Ytdiecogmaiglaaa.PFnExactCutActs Go.Proofs.YtdiecogmaiglaaaW.PrintWords Go.Proofs.YtdiecogmaiglaaaW.PrintLast Go.Proofs.YtdiecogmaiglaaaW.PrintMore Go.Proofs.Ytdiecogmaiglaaa.Gen
set_option linter.unusedVariables false

theorem spec_l01In_ev (a b c : Int) : spec_l01In.f a b c = some (decide (b ≤ a ∧ a ≤ c)) := by
  unfold spec_l01In.f
  by_cases h : a ≥ b
  · rw [if_pos h]; congr 1; simp; omega
  · rw [if_neg h]; congr 1; simp; omega

theorem impl_within_ev (a b c : Int) : impl_within.f a b c = some (decide (b ≤ a ∧ a ≤ c)) := by
  unfold impl_within.f
  by_cases h : a ≥ b
  · rw [if_pos h]; congr 1; simp; omega
  · rw [if_neg h]; congr 1; simp; omega

def pf (x : S45) : Fl := ⟨x.f0, x.f1, x.f2⟩
def to45 (x : S94) : S45 := ⟨x.f0, x.f1, x.f2⟩
theorem rd45_at (l : List S45) (i : Nat) (h : i < l.length) : rd_T45 l (i : Int) = l[i] := by
  unfold rd_T45
  rw [Int.toNat_natCast, List.getD_eq_getElem?_getD, List.getElem?_eq_getElem h]; rfl
theorem rd94_at (l : List S94) (i : Nat) (h : i < l.length) : rd_T94 l (i : Int) = l[i] := by
  unfold rd_T94
  rw [Int.toNat_natCast, List.getD_eq_getElem?_getD, List.getElem?_eq_getElem h]; rfl
def Small (l : List S94) : Prop := l.length ≤ 1048576 ∧ ∀ x ∈ l, x.f0.size ≤ 1048576 ∧ x.f1.size ≤ 1048576
def szOut (x : S94) (n : Int) : Int := if n - (x.f0.size : Int) < 0 then -1 else if n - (x.f0.size : Int) - (x.f1.size : Int) < 0 then -1 else n - (x.f0.size : Int) - (x.f1.size : Int)
theorem laws_szFile_ev (x : S94) (n : Int) (ha : x.f0.size ≤ 9223372036854775807) (hb : x.f1.size ≤ 9223372036854775807) (h0 : 0 ≤ n) (hn : n ≤ 1048576) : laws_szFile.f x.f0 x.f1 x.f2 n = some (szOut x n) := by
  unfold laws_szFile.f szOut
  rw [w64 (x := n - (x.f0.size : Int)) (by omega) (by omega)]
  by_cases h1 : n - (x.f0.size : Int) < 0
  · rw [if_pos h1, if_pos h1]
  · rw [if_neg h1, if_neg h1, w64 (x := n - (x.f0.size : Int) - (x.f1.size : Int)) (by omega) (by omega)]
    split <;> rfl
theorem szOut_small (x : S94) (n : Int) (h0 : 0 ≤ n) (hn : n ≤ 1048576) : szOut x n ≤ 1048576 ∧ (szOut x n < 0 ∨ 0 ≤ szOut x n ∧ x.f0.size ≤ 1048576 ∧ x.f1.size ≤ 1048576) := by
  unfold szOut
  split
  · omega
  · split <;> omega
theorem laws_szFileS_l0 (l : List S94) (hl : l.length ≤ 1048576) (hs : ∀ x ∈ l, x.f0.size ≤ 9223372036854775807 ∧ x.f1.size ≤ 9223372036854775807) : ∀ (d i : Nat) (n : Int), i + d = l.length → 0 ≤ n → n ≤ 1048576 →
    ∃ r, Ev (fun k => laws_szFileS.l0 k l n (i : Int)) r ∧ (r < 0 ∨ 0 ≤ r ∧ r ≤ 1048576 ∧ ∀ x ∈ l.drop i, x.f0.size ≤ 1048576 ∧ x.f1.size ≤ 1048576) := by
  intro d
  induction d with
  | zero =>
    intro i n hi h0 hn
    refine ⟨n, Ev.step (laws_szFileS.l0.eq_2 l n (i : Int)) (Ev.no (by omega) (Ev.now _)), Or.inr ⟨h0, hn, ?_⟩⟩
    rw [List.drop_eq_nil_of_le (by omega)]
    intro x hx; cases hx
  | succ d ih =>
    intro i n hi h0 hn
    have hlt : i < l.length := by omega
    obtain ⟨x, hx⟩ : ∃ x, x = rd_T94 l (i : Int) := ⟨_, rfl⟩
    have e : x = l[i] := hx.trans (rd94_at l i hlt)
    have hs' := hs _ (List.getElem_mem hlt)
    rw [← e] at hs'
    have he := laws_szFile_ev x n hs'.1 hs'.2 h0 hn
    have hz := szOut_small x n h0 hn
    by_cases h1 : szOut x n < 0
    · refine ⟨-1, Ev.step (laws_szFileS.l0.eq_2 l n (i : Int)) (Ev.yes (by omega) (Ev.yes (by omega) ?_)), Or.inl (by omega)⟩
      rw [← hx]
      exact Ev.bindc he (Ev.yes h1 (Ev.now _))
    · obtain ⟨r, hr, h2⟩ := ih (i + 1) (szOut x n) (by omega) (by omega) hz.1
      refine ⟨r, Ev.step (laws_szFileS.l0.eq_2 l n (i : Int)) (Ev.yes (by omega) (Ev.yes (by omega) ?_)), ?_⟩
      · rw [← hx, w64 (by omega) (by omega)]
        exact Ev.bindc he (Ev.no h1 hr)
      · rcases h2 with h2 | ⟨h2, h3, h4⟩
        · exact Or.inl h2
        · refine Or.inr ⟨h2, h3, ?_⟩
          rw [List.drop_eq_getElem_cons hlt, ← e]
          intro y hy
          rcases List.mem_cons.1 hy with rfl | hy
          · rcases hz.2 with hz | hz
            · exact absurd hz h1
            · exact hz.2
          · exact h4 y hy
theorem laws_szDisk_ev (l : List S94) (n : Int) (h0 : 0 ≤ n) (hn : n ≤ 1048576) (hl : l.length ≤ 9223372036854775807) (hs : ∀ x ∈ l, x.f0.size ≤ 9223372036854775807 ∧ x.f1.size ≤ 9223372036854775807) :
    ∃ r, Ev (fun k => laws_szDisk.f k l n) r ∧ (r < 0 ∨ 0 ≤ r ∧ r ≤ 1048576 ∧ Small l) := by
  unfold laws_szDisk.f laws_szFileS.f
  rw [w64 (x := n - (l.length : Int)) (by omega) (by omega)]
  by_cases h1 : n - (l.length : Int) < 0
  · exact ⟨-1, Ev.bind (Ev.yes h1 (Ev.now _)) (Ev.yes (by omega) (Ev.now _)), Or.inl (by omega)⟩
  · obtain ⟨r, hr, h2⟩ := laws_szFileS_l0 l (by omega) hs l.length 0 (n - (l.length : Int)) (by omega) (by omega) (by omega)
    by_cases h3 : r < 0
    · exact ⟨-1, Ev.bind (Ev.no h1 hr) (Ev.yes h3 (Ev.now _)), Or.inl (by omega)⟩
    · refine ⟨r, Ev.bind (Ev.no h1 hr) (Ev.no h3 (Ev.now _)), ?_⟩
      rcases h2 with h2 | ⟨h2, h4, h5⟩
      · exact absurd h2 h3
      · exact Or.inr ⟨h2, h4, by omega, by rw [List.drop_zero] at h5; exact h5⟩
theorem laws_toFileS_l0 (l : List S94) (hl : l.length ≤ 1048576) : ∀ (d i : Nat) (ys : List S45), i + d = l.length → ys.length = l.length → ys.take i = (l.take i).map to45 → Ev (fun k => laws_toFileS.l0 k l ys (i : Int)) (l.map to45) := by
  intro d
  induction d with
  | zero =>
    intro i ys hi hy ht
    refine Ev.step (laws_toFileS.l0.eq_2 l ys (i : Int)) (Ev.no (by omega) (Ev.const ?_))
    rw [List.take_of_length_le (by omega), List.take_of_length_le (by omega)] at ht
    rw [ht]
  | succ d ih =>
    intro i ys hi hy ht
    have hlt : i < l.length := by omega
    have hlt2 : i < ys.length := by omega
    have e := rd94_at l i hlt
    refine Ev.step (laws_toFileS.l0.eq_2 l ys (i : Int)) (Ev.yes (by omega) (Ev.yes (by omega) (Ev.bindc rfl (Ev.yes (by omega) ?_))))
    rw [e, Int.toNat_natCast, w64 (by omega) (by omega)]
    refine ih (i + 1) _ (by omega) (by rw [List.length_set]; exact hy) ?_
    rw [take_set_next ys i _ hlt2, ht, List.take_succ_eq_append_getElem hlt, List.map_append]
    rfl
theorem laws_toDisk_ev (l : List S94) (hl : l.length ≤ 1048576) : Ev (fun k => laws_toDisk.f k l) (l.map to45) := by
  unfold laws_toDisk.f laws_toFileS.f
  refine Ev.bind (Ev.yes (by omega) (Ev.yes (by omega) (laws_toFileS_l0 l hl l.length 0 _ (by omega) (by rw [List.length_replicate]; omega) (by simp)))) (Ev.now _)
theorem laws_eqFileS_l0 (l : List S45) (hl : l.length ≤ 2097152) : ∀ (d i : Nat), i + d = l.length → Ev (fun k => laws_eqFileS.l0 k l l (i : Int)) true := by
  intro d
  induction d with
  | zero =>
    intro i hi
    exact Ev.step (laws_eqFileS.l0.eq_2 l l (i : Int)) (Ev.no (by omega) (Ev.now _))
  | succ d ih =>
    intro i hi
    have e : ∀ x : S45, laws_eqFile.f x.f0 x.f1 x.f2 x.f0 x.f1 x.f2 = some true := by
      intro x
      unfold laws_eqFile.f; rw [if_pos rfl, if_pos rfl, if_pos rfl]
    refine Ev.step (laws_eqFileS.l0.eq_2 l l (i : Int)) (Ev.yes (by omega) (Ev.yes (by omega) (Ev.yes (by omega) (Ev.bindc (e _) (Ev.yes rfl ?_)))))
    rw [w64 (by omega) (by omega)]
    exact ih (i + 1) (by omega)
theorem laws_eqDisk_ev (l : List S45) (hl : l.length ≤ 2097152) : Ev (fun k => laws_eqDisk.f k l l) true := by
  unfold laws_eqDisk.f laws_eqFileS.f
  exact Ev.bind (Ev.yes rfl (laws_eqFileS_l0 l hl l.length 0 (by omega))) (Ev.yes rfl (Ev.now _))

theorem spec_l03Name_ev (a : ByteArray) : spec_l03Name.f a = some (decide (1 ≤ (a.size : Int) ∧ (a.size : Int) ≤ 8)) := by unfold spec_l03Name.f; rw [spec_l01In_ev]; rfl
theorem spec_DiskOk_l0 (l : List S45) (hl : l.length ≤ 2097152) : ∀ (d i : Nat) (p : Option ByteArray), i + d = l.length → (i = 0 → p = none) → (0 < i → p = some (rd_T45 l ((i : Int) - 1)).f0) →
    Ev (fun k => spec_DiskOk.l0 k (i : Int) l) (diskOkL p ((l.drop i).map pf)) := by
  intro d
  induction d with
  | zero =>
    intro i p hi h0 h1
    refine Ev.step (spec_DiskOk.l0.eq_2 (i : Int) l) (Ev.no (by omega) (Ev.const ?_))
    rw [List.drop_eq_nil_of_le (by omega)]; rfl
  | succ d ih =>
    intro i p hi h0 h1
    have hlt : i < l.length := by omega
    obtain ⟨x, hx⟩ : ∃ x, x = rd_T45 l (i : Int) := ⟨_, rfl⟩
    have e : x = l[i] := hx.trans (rd45_at l i hlt)
    have hn : Ev (fun k => spec_DiskOk.l0 k ((i + 1 : Nat) : Int) l) (diskOkL (some x.f0) ((l.drop (i + 1)).map pf)) := by
      refine ih (i + 1) (some x.f0) (by omega) (fun h => by omega) (fun _ => ?_)
      have e3 : (((i + 1 : Nat) : Int) - 1) = (i : Int) := by omega
      rw [e3, ← hx]
    have hd : diskOkL p ((l.drop i).map pf) = (decide ((1 ≤ (x.f0.size : Int) ∧ (x.f0.size : Int) ≤ 8) ∧ (x.f1.size : Int) ≤ 20000 ∧ (0 ≤ x.f2 ∧ x.f2 ≤ (x.f1.size : Int))) && ordB p x.f0 && diskOkL (some x.f0) ((l.drop (i + 1)).map pf)) := by
      rw [List.drop_eq_getElem_cons hlt, ← e]; rfl
    have e2 : wrap64 ((i : Int) + 1) = ((i + 1 : Nat) : Int) := by rw [w64 (by omega) (by omega)]; omega
    refine Ev.step (spec_DiskOk.l0.eq_2 (i : Int) l) ?_
    rw [e2, ← hx, hd]
    clear e2 e ih hd
    have hz : 0 < i → wrap64 ((i : Int) - 1) = (i : Int) - 1 := fun h => w64 (by omega) (by omega)
    refine Ev.yes (by omega) (Ev.yes (by omega) (Ev.bindc (spec_l03Name_ev _) ?_))
    refine Ev.ite (fun h2 => ?_) (fun h2 => ?_)
    · rw [decide_eq_true_eq] at h2
      refine Ev.ite (fun h3 => ?_) (fun h3 => ?_)
      · rw [decide_eq_false (fun h7 => by omega)]; exact Ev.now _
      · refine Ev.bindc (spec_l01In_ev _ _ _) ?_
        refine Ev.ite (fun h4 => ?_) (fun h4 => ?_)
        · rw [decide_eq_true_eq] at h4
          refine Ev.ite (fun h5 => ?_) (fun h5 => ?_)
          · rw [hz (by omega)]
            rw [h1 (by omega)]
            have eo : ∀ q : ByteArray, ordB (some q) x.f0 = Op.bytesLess q.toList x.f0.toList := fun _ => rfl
            rw [eo]
            clear hz
            refine Ev.yes (by omega) (Ev.yes (by omega) ?_)
            rw [decide_eq_true (show (1 ≤ (x.f0.size : Int) ∧ (x.f0.size : Int) ≤ 8) ∧ (x.f1.size : Int) ≤ 20000 ∧ (0 ≤ x.f2 ∧ x.f2 ≤ (x.f1.size : Int)) from ⟨h2, by omega, h4⟩), Bool.true_and]
            refine Ev.ite (fun h6 => ?_) (fun h6 => ?_)
            · simp only [h6, Bool.true_and]; exact hn
            · rw [Bool.not_eq_true] at h6
              simp only [h6, Bool.false_and]; exact Ev.now _
          · clear hz
            rw [h0 (by omega), show ordB none x.f0 = true from rfl]
            rw [decide_eq_true (show (1 ≤ (x.f0.size : Int) ∧ (x.f0.size : Int) ≤ 8) ∧ (x.f1.size : Int) ≤ 20000 ∧ (0 ≤ x.f2 ∧ x.f2 ≤ (x.f1.size : Int)) from ⟨h2, by omega, h4⟩), Bool.true_and, Bool.true_and]
            exact hn
        · rw [decide_eq_true_eq] at h4
          rw [decide_eq_false (fun h7 => h4 h7.2.2)]; exact Ev.now _
    · rw [decide_eq_true_eq] at h2
      rw [decide_eq_false (fun h7 => h2 h7.1)]; exact Ev.now _
theorem spec_DiskOk_ev (l : List S45) (hl : l.length ≤ 2097152) : Ev (fun k => spec_DiskOk.f k l) (diskOkB (l.map pf)) := by
  unfold spec_DiskOk.f diskOkB
  rw [List.length_map]
  refine Ev.ite (fun h => ?_) (fun h => ?_)
  · rw [decide_eq_false (by omega), Bool.false_and]; exact Ev.now _
  · rw [decide_eq_true (show (l.length : Int) ≤ 30 by omega), Bool.true_and]
    exact spec_DiskOk_l0 l hl l.length 0 none (by omega) (fun _ => rfl) (fun h => by omega)

theorem impl_DiskOk_l0 (l : List S45) (hl : l.length ≤ 2097152) : ∀ (d i : Nat) (p : Option ByteArray), i + d = l.length → (i = 0 → p = none) → (0 < i → p = some (rd_T45 l ((i : Int) - 1)).f0) →
    Ev (fun k => impl_DiskOk.l0 k l (l.length : Int) (i : Int) l) (diskOkL p ((l.drop i).map pf) && decide ((l.length : Int) ≤ 30)) := by
  intro d
  induction d with
  | zero =>
    intro i p hi h0 h1
    refine Ev.step (impl_DiskOk.l0.eq_2 l (l.length : Int) (i : Int) l) (Ev.no (by omega) (Ev.const ?_))
    rw [List.drop_eq_nil_of_le (by omega)]; rfl
  | succ d ih =>
    intro i p hi h0 h1
    have hlt : i < l.length := by omega
    obtain ⟨x, hx⟩ : ∃ x, x = rd_T45 l (i : Int) := ⟨_, rfl⟩
    have e : x = l[i] := hx.trans (rd45_at l i hlt)
    have hn : Ev (fun k => impl_DiskOk.l0 k l (l.length : Int) ((i + 1 : Nat) : Int) l) (diskOkL (some x.f0) ((l.drop (i + 1)).map pf) && decide ((l.length : Int) ≤ 30)) := by
      refine ih (i + 1) (some x.f0) (by omega) (fun h => by omega) (fun _ => ?_)
      have e3 : (((i + 1 : Nat) : Int) - 1) = (i : Int) := by omega
      rw [e3, ← hx]
    have hd : diskOkL p ((l.drop i).map pf) = (decide ((1 ≤ (x.f0.size : Int) ∧ (x.f0.size : Int) ≤ 8) ∧ (x.f1.size : Int) ≤ 20000 ∧ (0 ≤ x.f2 ∧ x.f2 ≤ (x.f1.size : Int))) && ordB p x.f0 && diskOkL (some x.f0) ((l.drop (i + 1)).map pf)) := by
      rw [List.drop_eq_getElem_cons hlt, ← e]; rfl
    have e2 : wrap64 ((i : Int) + 1) = ((i + 1 : Nat) : Int) := by rw [w64 (by omega) (by omega)]; omega
    refine Ev.step (impl_DiskOk.l0.eq_2 l (l.length : Int) (i : Int) l) ?_
    rw [e2, ← hx, hd]
    clear e2 e ih hd
    have hz : 0 < i → wrap64 ((i : Int) - 1) = (i : Int) - 1 := fun h => w64 (by omega) (by omega)
    refine Ev.yes (by omega) (Ev.yes (by omega) (Ev.yes (by omega) (Ev.bindc (impl_within_ev _ _ _) ?_)))
    refine Ev.ite (fun h2 => ?_) (fun h2 => ?_)
    · rw [decide_eq_true_eq] at h2
      refine Ev.ite (fun h3 => ?_) (fun h3 => ?_)
      · rw [decide_eq_false (fun h7 => by omega)]; exact Ev.now _
      · refine Ev.bindc (impl_within_ev _ _ _) ?_
        refine Ev.ite (fun h4 => ?_) (fun h4 => ?_)
        · rw [decide_eq_true_eq] at h4
          refine Ev.ite (fun h5 => ?_) (fun h5 => ?_)
          · rw [hz (by omega)]
            rw [h1 (by omega)]
            have eo : ∀ q : ByteArray, ordB (some q) x.f0 = Op.bytesLess q.toList x.f0.toList := fun _ => rfl
            rw [eo]
            clear hz
            refine Ev.yes (by omega) (Ev.yes (by omega) ?_)
            rw [decide_eq_true (show (1 ≤ (x.f0.size : Int) ∧ (x.f0.size : Int) ≤ 8) ∧ (x.f1.size : Int) ≤ 20000 ∧ (0 ≤ x.f2 ∧ x.f2 ≤ (x.f1.size : Int)) from ⟨h2, by omega, h4⟩), Bool.true_and]
            refine Ev.ite (fun h6 => ?_) (fun h6 => ?_)
            · simp only [h6, Bool.true_and]; exact hn
            · rw [Bool.not_eq_true] at h6
              simp only [h6, Bool.false_and]; exact Ev.now _
          · clear hz
            rw [h0 (by omega), show ordB none x.f0 = true from rfl]
            rw [decide_eq_true (show (1 ≤ (x.f0.size : Int) ∧ (x.f0.size : Int) ≤ 8) ∧ (x.f1.size : Int) ≤ 20000 ∧ (0 ≤ x.f2 ∧ x.f2 ≤ (x.f1.size : Int)) from ⟨h2, by omega, h4⟩), Bool.true_and, Bool.true_and]
            exact hn
        · rw [decide_eq_true_eq] at h4
          rw [decide_eq_false (fun h7 => h4 h7.2.2)]; exact Ev.now _
    · rw [decide_eq_true_eq] at h2
      rw [decide_eq_false (fun h7 => h2 h7.1)]; exact Ev.now _
theorem impl_DiskOk_ev (l : List S45) (hl : l.length ≤ 2097152) : Ev (fun k => impl_DiskOk.f k l) (diskOkB (l.map pf)) := by
  have := impl_DiskOk_l0 l hl l.length 0 none (by omega) (fun _ => rfl) (fun h => by omega)
  unfold diskOkB
  rw [List.length_map, Bool.and_comm]
  exact this

/-! the order of texts -/
theorem less_trans : ∀ a b c : List UInt8, Op.bytesLess a b = true → Op.bytesLess b c = true → Op.bytesLess a c = true
  | _, [], c, h, _ => by cases c <;> simp [Op.bytesLess] at h
  | _, _ :: _, [], _, h => by simp [Op.bytesLess] at h
  | [], _ :: _, _ :: _, _, _ => rfl
  | x :: a, y :: b, z :: c, h1, h2 => by
    simp only [Op.bytesLess, Bool.or_eq_true, decide_eq_true_eq, Bool.and_eq_true, beq_iff_eq] at h1 h2 ⊢
    rcases h1 with h1 | ⟨rfl, h1⟩
    · rcases h2 with h2 | ⟨rfl, h2⟩
      · exact .inl (UInt8.lt_trans h1 h2)
      · exact .inl h1
    · rcases h2 with h2 | ⟨rfl, h2⟩
      · exact .inl h2
      · exact .inr ⟨rfl, less_trans a b c h1 h2⟩
theorem less_self : ∀ a : List UInt8, Op.bytesLess a a = false
  | [] => rfl
  | x :: a => by
    simp only [Op.bytesLess, less_self a, Bool.and_false, Bool.or_false, decide_eq_false_iff_not]
    exact UInt8.lt_irrefl x
/-- one name ahead of another -/
def nless (a b : ByteArray) : Bool := Op.bytesLess a.toList b.toList
theorem nless_trans {a b c : ByteArray} (h1 : nless a b = true) (h2 : nless b c = true) : nless a c = true := less_trans _ _ _ h1 h2
def fileOk (x : S45) : Prop := (1 ≤ (x.f0.size : Int) ∧ (x.f0.size : Int) ≤ 8) ∧ (x.f1.size : Int) ≤ 20000 ∧ (0 ≤ x.f2 ∧ x.f2 ≤ (x.f1.size : Int))
def sorted (l : List S45) : Prop := l.Pairwise (fun a b => nless a.f0 b.f0 = true)
theorem diskOkL_iff : ∀ (l : List S45) (p : Option ByteArray), diskOkL p (l.map pf) = true ↔ (∀ x ∈ l, fileOk x) ∧ sorted l ∧ (∀ q, p = some q → ∀ x ∈ l, nless q x.f0 = true)
  | [], p => by simp [diskOkL, sorted]
  | x :: l, p => by
    have ih := diskOkL_iff l (some x.f0)
    constructor
    · intro h
      obtain ⟨h1, h2, h3⟩ := diskOkL_cons (f := pf x) (l := l.map pf) (by simpa using h)
      obtain ⟨a1, a2, a3⟩ := ih.1 h3
      refine ⟨?_, ?_, ?_⟩
      · intro y hy
        rcases List.mem_cons.1 hy with rfl | hy
        · exact h1
        · exact a1 y hy
      · exact List.pairwise_cons.2 ⟨fun y hy => a3 _ rfl y hy, a2⟩
      · intro q hq y hy
        rcases List.mem_cons.1 hy with rfl | hy
        · exact h2 q hq
        · exact nless_trans (h2 q hq) (a3 _ rfl y hy)
    · rintro ⟨a1, a2, a3⟩
      obtain ⟨b1, b2⟩ := List.pairwise_cons.1 a2
      have h3 := ih.2 ⟨fun y hy => a1 y (List.mem_cons_of_mem _ hy), b2, fun q hq y hy => by cases hq; exact b1 y hy⟩
      have h4 : ordB p x.f0 = true := by
        cases p with
        | none => rfl
        | some q => exact a3 q rfl x (by simp)
      have h1 := a1 x (by simp)
      simp only [List.map_cons, diskOkL, Bool.and_eq_true]
      exact ⟨⟨decide_eq_true h1, h4⟩, h3⟩
theorem diskOk_iff (l : List S45) : diskOkB (l.map pf) = true ↔ l.length ≤ 30 ∧ (∀ x ∈ l, fileOk x) ∧ sorted l := by
  unfold diskOkB
  rw [Bool.and_eq_true, diskOkL_iff, List.length_map, decide_eq_true_eq]
  constructor
  · rintro ⟨h1, h2, h3, -⟩; exact ⟨by omega, h2, h3⟩
  · rintro ⟨h1, h2, h3⟩; exact ⟨by omega, h2, h3, fun q hq => by cases hq⟩
/-- a file put in its place -/
def putL (d : List S45) (x : S45) : List S45 := d.filter (fun y => nless y.f0 x.f0) ++ x :: d.filter (fun y => nless x.f0 y.f0)
theorem putL_sorted {d : List S45} (h : sorted d) (x : S45) : sorted (putL d x) := by
  unfold putL sorted
  refine List.pairwise_append.2 ⟨h.sublist List.filter_sublist, List.pairwise_cons.2 ⟨fun y hy => (List.mem_filter.1 hy).2, h.sublist List.filter_sublist⟩, ?_⟩
  intro a ha b hb
  have h1 := (List.mem_filter.1 ha).2
  rcases List.mem_cons.1 hb with rfl | hb
  · exact h1
  · exact nless_trans h1 (List.mem_filter.1 hb).2
theorem putL_ok {d : List S45} (h : ∀ y ∈ d, fileOk y) {x : S45} (hx : fileOk x) : ∀ y ∈ putL d x, fileOk y := by
  intro y hy
  unfold putL at hy
  rcases List.mem_append.1 hy with hy | hy
  · exact h y (List.mem_filter.1 hy).1
  · rcases List.mem_cons.1 hy with rfl | hy
    · exact hx
    · exact h y (List.mem_filter.1 hy).1
theorem less_not {a b : ByteArray} (h : nless a b = true) : nless b a = false := by
  cases e : nless b a with
  | false => rfl
  | true =>
    have := nless_trans h e
    unfold nless at this
    rw [less_self] at this; cases this
theorem putL_length (x : S45) : ∀ d : List S45, (putL d x).length ≤ d.length + 1 := by
  intro d
  unfold putL
  rw [List.length_append, List.length_cons]
  have : (d.filter (fun y => nless y.f0 x.f0)).length + (d.filter (fun y => nless x.f0 y.f0)).length ≤ d.length := by
    induction d with
    | nil => simp
    | cons y d ih =>
      rw [List.filter_cons, List.filter_cons]
      by_cases h1 : nless y.f0 x.f0 = true
      · rw [if_pos h1, if_neg (by rw [less_not h1]; simp)]
        simp only [List.length_cons]; omega
      · rw [if_neg h1]
        split <;> simp only [List.length_cons] <;> omega
  omega

/-- some text for each number, whatever it is -/
theorem laws_markText_l0 : ∀ (n : Nat) (s : ByteArray), n < 9223372036854775808 → s.size + n ≤ 9223372036854775800 → ∃ t, Ev (fun k => laws_markText.l0 k (n : Int) s) t := by
  intro n
  induction n using Nat.strongRecOn with
  | _ n ih =>
    intro s hn hs
    by_cases h : n = 0
    · subst h
      refine ⟨(⟨#[109]⟩ : ByteArray) ++ s, Ev.step (laws_markText.l0.eq_2 _ s) ?_⟩
      exact Ev.no (by omega) (Ev.yes (by omega) (Ev.now _))
    · have e1 : wrap64 (Int.tdiv (n : Int) 10) = ((n / 10 : Nat) : Int) := by rw [td10, w64] <;> omega
      obtain ⟨t, ht⟩ := ih (n / 10) (by omega) (strOfNums [wrap64 (48 + Int.tmod (n : Int) 10) % 256] ++ s) (by omega) (by rw [size_append, size_nums, List.length_singleton]; omega)
      refine ⟨t, Ev.step (laws_markText.l0.eq_2 _ s) ?_⟩
      refine Ev.yes (by omega) (Ev.bindc rfl (Ev.yes (by rw [size_nums, List.length_singleton]; omega) ?_))
      rw [e1]
      exact ht
theorem laws_markText_ev (n : Int) (h0 : n < 1000000000000000) : ∃ t, Ev (fun k => laws_markText.f k n) t := by
  unfold laws_markText.f
  by_cases h : n ≤ 0
  · exact ⟨_, Ev.yes h (Ev.now _)⟩
  · obtain ⟨m, rfl⟩ := Int.eq_ofNat_of_zero_le (show 0 ≤ n by omega)
    obtain ⟨t, ht⟩ := laws_markText_l0 m (⟨#[]⟩ : ByteArray) (by omega) (by show 0 + m ≤ _; omega)
    exact ⟨t, Ev.no h ht⟩

theorem rd45_set (xs : List S45) (i : Nat) (v : S45) (h : i < xs.length) : rd_T45 (xs.set i v) (i : Int) = v := by
  unfold rd_T45
  rw [Int.toNat_natCast, List.getD_eq_getElem?_getD, List.getElem?_set_self h]; rfl
def Marked (ys : List S45) (i : Nat) (m : Int) : Prop :=
  Ev (fun k => laws_markText.f k m) (rd_T45 ys (i : Int)).f0 ∧ Ev (fun k => laws_markText.f k (m + 1)) (rd_T45 ys (i : Int)).f1 ∧ (rd_T45 ys (i : Int)).f2 = m + 2
theorem laws_markFileS_l0 : ∀ (d i : Nat) (xs : List S45) (m : Int), i + d = xs.length → xs.length ≤ 2097152 → 0 ≤ m → m + 3 * d ≤ 1000000000000 →
    ∃ ys : List S45, Ev (fun k => laws_markFileS.l0 k xs m (i : Int)) (m + 3 * d, ys) ∧ ys.length = xs.length ∧ ys.take i = xs.take i ∧ (∀ j, j < d → Marked ys (i + j) (m + 3 * j)) := by
  intro d
  induction d with
  | zero =>
    intro i xs m hi hx h0 hm
    refine ⟨xs, Ev.step (laws_markFileS.l0.eq_2 xs m (i : Int)) (Ev.no (by omega) (Ev.const ?_)), rfl, rfl, fun j hj => by omega⟩
    simp
  | succ d ih =>
    intro i xs m hi hx h0 hm
    have hlt : i < xs.length := by omega
    obtain ⟨t0, ht0⟩ := laws_markText_ev m (by omega)
    obtain ⟨t1, ht1⟩ := laws_markText_ev (m + 1) (by omega)
    obtain ⟨v, hv⟩ : ∃ v : S45, v = ⟨t0, t1, m + 2⟩ := ⟨_, rfl⟩
    obtain ⟨ys, hy, hlen, htake, hall⟩ := ih (i + 1) (xs.set i v) (m + 3) (by rw [List.length_set]; omega) (by rw [List.length_set]; exact hx) (by omega) (by omega)
    rw [List.length_set] at hlen
    refine ⟨ys, Ev.step (laws_markFileS.l0.eq_2 xs m (i : Int)) ?_, hlen, ?_, ?_⟩
    · have w1 : wrap64 (m + 1) = m + 1 := w64 (by omega) (by omega)
      have w2 : wrap64 (m + 1 + 1) = m + 2 := by rw [w64 (by omega) (by omega)]; omega
      have w3 : wrap64 (m + 2 + 1) = m + 3 := by rw [w64 (by omega) (by omega)]; omega
      have w4 : wrap64 ((i : Int) + 1) = ((i + 1 : Nat) : Int) := by rw [w64 (by omega) (by omega)]; omega
      rw [w1, w2, w3, w4]
      clear w1 w2 w3 w4
      refine Ev.yes (by omega) (Ev.bind ht0 (Ev.yes (by omega) (Ev.bindc rfl (Ev.bind ht1 (Ev.bindc rfl ?_)))))
      simp only [Int.toNat_natCast, List.set_set, rd45_set xs i _ hlt]
      rw [← hv]
      have e : m + 3 + 3 * (d : Int) = m + 3 * ((d + 1 : Nat) : Int) := by omega
      rw [e] at hy
      exact hy
    · have h1 := congrArg (List.take i) htake
      rw [List.take_take, List.take_take, Nat.min_eq_left (by omega), List.take_set_of_le (Nat.le_refl i)] at h1
      exact h1
    · intro j hj
      cases j with
      | zero =>
        have e : rd_T45 ys (i : Int) = v := by
          have h1 := congrArg (fun l => l[i]?) htake
          change (ys.take (i + 1))[i]? = ((xs.set i v).take (i + 1))[i]? at h1
          rw [List.getElem?_take_of_lt (by omega), List.getElem?_take_of_lt (by omega), List.getElem?_set_self hlt] at h1
          unfold rd_T45
          rw [Int.toNat_natCast, List.getD_eq_getElem?_getD, h1]; rfl
        unfold Marked
        rw [Nat.add_zero, e, hv]
        have e0 : m + 3 * ((0 : Nat) : Int) = m := by omega
        rw [e0]
        exact ⟨ht0, ht1, rfl⟩
      | succ j =>
        have h1 := hall j (by omega)
        have e1 : m + 3 * ((j + 1 : Nat) : Int) = m + 3 + 3 * (j : Int) := by omega
        have e2 : i + (j + 1) = i + 1 + j := by omega
        rw [e1, e2]
        exact h1
theorem laws_heldFileS_l0 : ∀ (d i : Nat) (ys : List S45) (m : Int), i + d = ys.length → ys.length ≤ 2097152 → 0 ≤ m → m + 3 * d ≤ 1000000000000 →
    (∀ j, j < d → Marked ys (i + j) (m + 3 * j)) → Ev (fun k => laws_heldFileS.l0 k ys m (i : Int)) (m + 3 * d) := by
  intro d
  induction d with
  | zero =>
    intro i ys m hi hx h0 hm _
    refine Ev.step (laws_heldFileS.l0.eq_2 ys m (i : Int)) (Ev.no (by omega) (Ev.const ?_))
    simp
  | succ d ih =>
    intro i ys m hi hx h0 hm hall
    have h1 := hall 0 (by omega)
    have e0 : m + 3 * ((0 : Nat) : Int) = m := by omega
    rw [Nat.add_zero, e0] at h1
    obtain ⟨a1, a2, a3⟩ := h1
    have w1 : wrap64 (m + 1) = m + 1 := w64 (by omega) (by omega)
    have w2 : wrap64 (m + 1 + 1) = m + 2 := by rw [w64 (by omega) (by omega)]; omega
    have w3 : wrap64 (m + 2 + 1) = m + 3 := by rw [w64 (by omega) (by omega)]; omega
    have w4 : wrap64 ((i : Int) + 1) = ((i + 1 : Nat) : Int) := by rw [w64 (by omega) (by omega)]; omega
    refine Ev.step (laws_heldFileS.l0.eq_2 ys m (i : Int)) ?_
    rw [w1, w2, w3, w4]
    clear w1 w2 w3 w4
    refine Ev.yes (by omega) (Ev.yes (by omega) (Ev.bind a1 (Ev.yes rfl (Ev.bind a2 (Ev.yes rfl (Ev.yes a3 ?_))))))
    have := ih (i + 1) ys (m + 3) (by omega) hx (by omega) (by omega) (fun j hj => by
      have h2 := hall (j + 1) (by omega)
      have e1 : m + 3 * ((j + 1 : Nat) : Int) = m + 3 + 3 * (j : Int) := by omega
      have e2 : i + (j + 1) = i + 1 + j := by omega
      rw [e1, e2] at h2
      exact h2)
    have e : m + 3 + 3 * (d : Int) = m + 3 * ((d + 1 : Nat) : Int) := by omega
    rw [e] at this
    exact this
theorem markdisk_ev (xs : List S45) (m : Int) (hx : xs.length ≤ 2097152) (h0 : 0 ≤ m) (hm : m ≤ 100000000000) :
    ∃ (ys : List S45) (n : Int), Ev (fun k => laws_markDisk.f k xs m) (n, ys) ∧ ys.length = xs.length ∧ m ≤ n ∧ n ≤ m + 6291456 ∧ Ev (fun k => laws_heldDisk.f k ys m) n := by
  obtain ⟨ys, h1, h2, _, h4⟩ := laws_markFileS_l0 xs.length 0 xs m (by omega) hx h0 (by omega)
  refine ⟨ys, m + 3 * xs.length, ?_, h2, by omega, by omega, ?_⟩
  · unfold laws_markDisk.f
    have h5 : Ev (fun k => laws_markFileS.f k xs m) (m + 3 * (xs.length : Int), ys) := h1
    exact Ev.bind h5 (Ev.now _)
  · have h3 := laws_heldFileS_l0 xs.length 0 ys m (by omega) (by omega) h0 (by omega) h4
    unfold laws_heldDisk.f
    have h5 : Ev (fun k => laws_heldFileS.f k ys m) (m + 3 * (xs.length : Int)) := h3
    exact Ev.bind h5 (Ev.no (by omega) (Ev.now _))

theorem laws_toIntS_l0 (l : List Int) (hl : l.length ≤ 1048576) : ∀ (d i : Nat) (ys : List Int), i + d = l.length → ys.length = l.length → ys.take i = l.take i → Ev (fun k => laws_toIntS.l0 k l ys (i : Int)) l := by
  intro d
  induction d with
  | zero =>
    intro i ys hi hy ht
    refine Ev.step (laws_toIntS.l0.eq_2 l ys (i : Int)) (Ev.no (by omega) (Ev.const ?_))
    rw [List.take_of_length_le (by omega), List.take_of_length_le (by omega)] at ht
    rw [ht]
  | succ d ih =>
    intro i ys hi hy ht
    have hlt : i < l.length := by omega
    have hlt2 : i < ys.length := by omega
    have e : rd l (i : Int) = l[i] := by
      unfold rd
      rw [Int.toNat_natCast, List.getD_eq_getElem?_getD, List.getElem?_eq_getElem hlt]; rfl
    refine Ev.step (laws_toIntS.l0.eq_2 l ys (i : Int)) (Ev.yes (by omega) (Ev.yes (by omega) (Ev.yes (by omega) ?_)))
    rw [e, Int.toNat_natCast, w64 (by omega) (by omega)]
    refine ih (i + 1) _ (by omega) (by rw [List.length_set]; exact hy) ?_
    rw [take_set_next ys i _ hlt2, ht, List.take_succ_eq_append_getElem hlt]
theorem laws_toIntS_ev (l : List Int) (hl : l.length ≤ 1048576) : Ev (fun k => laws_toIntS.f k l) l := by
  unfold laws_toIntS.f
  exact Ev.yes (by omega) (Ev.yes (by omega) (laws_toIntS_l0 l hl l.length 0 _ (by omega) (by rw [List.length_replicate]; omega) (by simp)))
theorem laws_eqIntS_l0 (l : List Int) (hl : l.length ≤ 1048576) : ∀ (d i : Nat), i + d = l.length → Ev (fun k => laws_eqIntS.l0 k l l (i : Int)) true := by
  intro d
  induction d with
  | zero =>
    intro i hi
    exact Ev.step (laws_eqIntS.l0.eq_2 l l (i : Int)) (Ev.no (by omega) (Ev.now _))
  | succ d ih =>
    intro i hi
    refine Ev.step (laws_eqIntS.l0.eq_2 l l (i : Int)) (Ev.yes (by omega) (Ev.yes (by omega) (Ev.yes (by omega) (Ev.yes rfl ?_))))
    rw [w64 (by omega) (by omega)]
    exact ih (i + 1) (by omega)
theorem laws_eqIntS_ev (l : List Int) (hl : l.length ≤ 1048576) : Ev (fun k => laws_eqIntS.f k l l) true := by
  unfold laws_eqIntS.f
  exact Ev.yes rfl (laws_eqIntS_l0 l hl l.length 0 (by omega))
theorem laws_markIntS_l0 : ∀ (d i : Nat) (xs : List Int) (m : Int), i + d = xs.length → xs.length ≤ 1048576 → 0 ≤ m → m + d ≤ 1000000000000 → ∃ ys : List Int, Ev (fun k => laws_markIntS.l0 k xs m (i : Int)) (m + d, ys) := by
  intro d
  induction d with
  | zero =>
    intro i xs m hi hx h0 hm
    refine ⟨xs, Ev.step (laws_markIntS.l0.eq_2 xs m (i : Int)) (Ev.no (by omega) (Ev.const ?_))⟩
    simp
  | succ d ih =>
    intro i xs m hi hx h0 hm
    obtain ⟨ys, hy⟩ := ih (i + 1) (xs.set i m) (m + 1) (by rw [List.length_set]; omega) (by rw [List.length_set]; exact hx) (by omega) (by omega)
    refine ⟨ys, Ev.step (laws_markIntS.l0.eq_2 xs m (i : Int)) (Ev.yes (by omega) (Ev.yes (by omega) ?_))⟩
    rw [w64 (x := m + 1) (by omega) (by omega), w64 (x := (i : Int) + 1) (by omega) (by omega), Int.toNat_natCast]
    have e : m + 1 + (d : Int) = m + ((d + 1 : Nat) : Int) := by omega
    rw [e] at hy
    exact hy
theorem laws_markIntS_ev (xs : List Int) (m : Int) (hx : xs.length ≤ 1048576) (h0 : 0 ≤ m) (hm : m ≤ 100000000000) : ∃ (ys : List Int) (n : Int), Ev (fun k => laws_markIntS.f k xs m) (n, ys) ∧ m ≤ n ∧ n ≤ m + 1048576 := by
  obtain ⟨ys, h⟩ := laws_markIntS_l0 xs.length 0 xs m (by omega) hx h0 (by omega)
  exact ⟨ys, _, h, by omega, by omega⟩

/-- how many bytes are left of the file at place i -/
def loseN (left : List Int) (i : Nat) (x : S45) : Int := mx x.f2 (mn (if (i : Int) < (left.length : Int) then rd left (i : Int) else 0) (x.f1.size : Int))
def loseS (left : List Int) (i : Nat) (x : S45) : S45 := ⟨x.f0, x.f1.extract 0 (loseN left i x).toNat, loseN left i x⟩
def loseL (left : List Int) : Nat → List S45 → List S45
  | _, [] => []
  | i, x :: l => loseS left i x :: loseL left (i + 1) l
theorem loseL_length (left : List Int) : ∀ (l : List S45) (i : Nat), (loseL left i l).length = l.length
  | [], _ => rfl
  | x :: l, i => by simp [loseL, loseL_length left l (i + 1)]
theorem loseL_get (left : List Int) : ∀ (l : List S45) (i j : Nat) (h : j < l.length), (loseL left i l)[j]'(by rw [loseL_length]; exact h) = loseS left (i + j) l[j]
  | [], _, _, h => by simp at h
  | x :: l, i, 0, _ => rfl
  | x :: l, i, j + 1, h => by
    have := loseL_get left l (i + 1) j (by simpa using h)
    simp only [loseL, List.getElem_cons_succ]
    rw [this]; congr 1; omega
theorem loseN_range (left : List Int) (i : Nat) (x : S45) (h0 : 0 ≤ x.f2) (h1 : x.f2 ≤ (x.f1.size : Int)) : 0 ≤ loseN left i x ∧ loseN left i x ≤ (x.f1.size : Int) := by
  unfold loseN mx mn
  generalize (if (i : Int) < (left.length : Int) then rd left (i : Int) else 0) = m
  split <;> split at * <;> omega
def Kept (l : List S45) : Prop := ∀ f ∈ l.map pf, 0 ≤ f.k ∧ f.k ≤ (f.t.size : Int)
def loseOut (l : List S45) (left : List Int) : List S45 × Bool := if diskOkB (l.map pf) = true then (loseL left 0 l, true) else ([], false)

theorem spec_LoseDisk_l0 (l : List S45) (left : List Int) (hl : l.length ≤ 2097152) (hok : Kept l) : ∀ (d i : Nat) (acc : List S45), i + d = l.length → acc.length = i →
    Ev (fun k => spec_LoseDisk.l0 k left (i : Int) l acc) (acc ++ loseL left i (l.drop i), true) := by
  intro d
  induction d with
  | zero =>
    intro i acc hi ha
    refine Ev.step (spec_LoseDisk.l0.eq_2 left (i : Int) l acc) (Ev.no (by omega) (Ev.const ?_))
    rw [List.drop_eq_nil_of_le (by omega)]; simp [loseL]
  | succ d ih =>
    intro i acc hi ha
    have hlt : i < l.length := by omega
    obtain ⟨x, hx⟩ : ∃ x, x = rd_T45 l (i : Int) := ⟨_, rfl⟩
    have e : x = l[i] := hx.trans (rd45_at l i hlt)
    have hk := hok (pf l[i]) (List.mem_map_of_mem (List.getElem_mem hlt))
    rw [← e] at hk
    have hk' : 0 ≤ x.f2 ∧ x.f2 ≤ (x.f1.size : Int) := hk
    have hnext : Ev (fun k => spec_LoseDisk.l0 k left ((i + 1 : Nat) : Int) l (acc ++ [loseS left i x])) (acc ++ loseL left i (l.drop i), true) := by
      have := ih (i + 1) (acc ++ [loseS left i x]) (by omega) (by rw [List.length_append, List.length_singleton, ha])
      rw [List.drop_eq_getElem_cons hlt, ← e]
      rw [List.append_assoc] at this
      exact this
    have hj : ∀ m : Int, m = (if (i : Int) < (left.length : Int) then rd left (i : Int) else 0) → Ev (fun k => spec_LoseDisk.j1 k left (i : Int) m l acc x.f0 x.f1 x.f2) (acc ++ loseL left i (l.drop i), true) := by
      intro m hm
      have en : loseN left i x = mx x.f2 (mn m (x.f1.size : Int)) := by unfold loseN; rw [← hm]
      have w4 : wrap64 ((i : Int) + 1) = ((i + 1 : Nat) : Int) := by rw [w64 (by omega) (by omega)]; omega
      refine Ev.step (spec_LoseDisk.j1.eq_2 left (i : Int) m l acc x.f0 x.f1 x.f2) ?_
      rw [w4]
      clear w4
      have fin : ∀ n : Int, n = loseN left i x → Ev (fun k => spec_LoseDisk.l0 k left ((i + 1 : Nat) : Int) l (acc ++ [(⟨x.f0, x.f1.extract 0 n.toNat, n⟩ : S45)])) (acc ++ loseL left i (l.drop i), true) := by
        rintro n rfl; exact hnext
      clear hnext ih hm
      refine Ev.ite (fun h => ?_) (fun h => ?_)
      · have e1 : mn m (x.f1.size : Int) = (x.f1.size : Int) := by unfold mn; rw [if_pos (by omega)]
        rw [e1] at en
        refine Ev.ite (fun h2 => ?_) (fun h2 => ?_)
        · omega
        · refine Ev.yes (by omega) (Ev.yes (by omega) (Ev.yes (by omega) (fin _ ?_)))
          rw [en]; unfold mx; split <;> omega
      · have e1 : mn m (x.f1.size : Int) = m := by
          unfold mn; split <;> omega
        rw [e1] at en
        refine Ev.ite (fun h2 => ?_) (fun h2 => ?_)
        · refine Ev.yes (by omega) (Ev.yes (by omega) (Ev.yes (by omega) (fin _ ?_)))
          rw [en]; unfold mx; split <;> omega
        · refine Ev.yes (by omega) (Ev.yes (by omega) (Ev.yes (by omega) (fin _ ?_)))
          rw [en]; unfold mx; split <;> omega
    refine Ev.step (spec_LoseDisk.l0.eq_2 left (i : Int) l acc) ?_
    rw [← hx]
    refine Ev.yes (by omega) (Ev.yes (by omega) ?_)
    refine Ev.ite (fun h => ?_) (fun h => ?_)
    · exact hj _ (by rw [if_pos h])
    · exact hj _ (by rw [if_neg h])
theorem spec_LoseDisk_ev (l : List S45) (left : List Int) (hl : l.length ≤ 2097152) : Ev (fun k => spec_LoseDisk.f k l left) (loseOut l left) := by
  unfold spec_LoseDisk.f loseOut
  refine Ev.bind (spec_DiskOk_ev l hl) ?_
  refine Ev.ite (fun h => ?_) (fun h => ?_)
  · rw [if_pos h]
    have h' := h
    simp only [diskOkB, Bool.and_eq_true] at h'
    have := spec_LoseDisk_l0 l left hl (fun f hf => (diskOkL_mem h'.2 f hf).2.2) l.length 0 [] (by omega) rfl
    rw [List.drop_zero, List.nil_append] at this
    exact this
  · rw [if_neg h]; exact Ev.now _

theorem impl_LoseDisk_l0 (l : List S45) (left : List Int) (hl : l.length ≤ 2097152) (hok : Kept l) : ∀ (d i : Nat) (out : List S45), i + d = l.length → out.length = l.length → out.take i = (loseL left 0 l).take i →
    Ev (fun k => impl_LoseDisk.l0 k left l (l.length : Int) (i : Int) out) (loseL left 0 l, true) := by
  intro d
  induction d with
  | zero =>
    intro i out hi ho ht
    refine Ev.step (impl_LoseDisk.l0.eq_2 left l (l.length : Int) (i : Int) out) (Ev.no (by omega) (Ev.const ?_))
    rw [List.take_of_length_le (by omega), List.take_of_length_le (by rw [loseL_length]; omega)] at ht
    rw [ht]
  | succ d ih =>
    intro i out hi ho ht
    have hlt : i < l.length := by omega
    have hlt2 : i < out.length := by omega
    obtain ⟨x, hx⟩ : ∃ x, x = rd_T45 l (i : Int) := ⟨_, rfl⟩
    have e : x = l[i] := hx.trans (rd45_at l i hlt)
    have hk := hok (pf l[i]) (List.mem_map_of_mem (List.getElem_mem hlt))
    rw [← e] at hk
    have hk' : 0 ≤ x.f2 ∧ x.f2 ≤ (x.f1.size : Int) := hk
    have hr := loseN_range left i x hk'.1 hk'.2
    have hnext : Ev (fun k => impl_LoseDisk.l0 k left l (l.length : Int) ((i + 1 : Nat) : Int) (out.set i (loseS left i x))) (loseL left 0 l, true) := by
      refine ih (i + 1) _ (by omega) (by rw [List.length_set]; exact ho) ?_
      rw [take_set_next out i _ hlt2, ht, List.take_succ_eq_append_getElem (by rw [loseL_length]; exact hlt), loseL_get left l 0 i hlt, Nat.zero_add, e]
    have w4 : wrap64 ((i : Int) + 1) = ((i + 1 : Nat) : Int) := by rw [w64 (by omega) (by omega)]; omega
    refine Ev.step (impl_LoseDisk.l0.eq_2 left l (l.length : Int) (i : Int) out) ?_
    rw [w4, ← hx]
    clear w4
    refine Ev.yes (by omega) (Ev.yes (by omega) (Ev.yes (by omega) ?_))
    rw [Int.toNat_natCast]
    refine Ev.ite (fun h => ?_) (fun h => ?_)
    · have en : mx x.f2 (mn (rd left (i : Int)) (x.f1.size : Int)) = loseN left i x := by unfold loseN; rw [if_pos h]
      rw [en]
      exact Ev.yes hr.1 (Ev.yes hr.2 (Ev.yes (by omega) hnext))
    · have en : x.f2 = loseN left i x := by
        unfold loseN; rw [if_neg h]; unfold mx mn
        split <;> split at * <;> omega
      refine Ev.yes hk'.1 (Ev.yes hk'.2 (Ev.yes (by omega) ?_))
      have es : (⟨x.f0, x.f1.extract 0 x.f2.toNat, x.f2⟩ : S45) = loseS left i x := by unfold loseS; rw [← en]
      rw [es]
      exact hnext
theorem impl_LoseDisk_ev (l : List S45) (left : List Int) (hl : l.length ≤ 2097152) : Ev (fun k => impl_LoseDisk.f k l left) (loseOut l left) := by
  unfold impl_LoseDisk.f loseOut
  refine Ev.bind (impl_DiskOk_ev l hl) ?_
  refine Ev.ite (fun h => ?_) (fun h => ?_)
  · rw [if_pos h]
    have h' := h
    simp only [diskOkB, Bool.and_eq_true] at h'
    have hc : impl_copyDisk.f l = some l := by
      unfold impl_copyDisk.f
      simp only [Option.bind_some, List.length_nil, List.nil_append]
      rw [if_pos (by omega)]
    refine Ev.bindc hc ?_
    exact impl_LoseDisk_l0 l left hl (fun f hf => (diskOkL_mem h'.2 f hf).2.2) l.length 0 l (by omega) rfl (by simp)
  · rw [if_neg h]; exact Ev.now _

theorem spec_l03Put_l1 (d : List S45) (x : S45) (hd : d.length ≤ 2097152) : ∀ (m i : Nat) (acc : List S45), i + m = d.length → acc.length ≤ d.length + 1 + i →
    Ev (fun k => spec_l03Put.l1 k (i : Int) d x.f0 x.f1 x.f2 acc) (acc ++ (d.drop i).filter (fun y => nless x.f0 y.f0)) := by
  intro m
  induction m with
  | zero =>
    intro i acc hi ha
    refine Ev.step (spec_l03Put.l1.eq_2 (i : Int) d x.f0 x.f1 x.f2 acc) (Ev.no (by omega) (Ev.const ?_))
    rw [List.drop_eq_nil_of_le (by omega)]; simp
  | succ m ih =>
    intro i acc hi ha
    have hlt : i < d.length := by omega
    have e := rd45_at d i hlt
    have w4 : wrap64 ((i : Int) + 1) = ((i + 1 : Nat) : Int) := by rw [w64 (by omega) (by omega)]; omega
    refine Ev.step (spec_l03Put.l1.eq_2 (i : Int) d x.f0 x.f1 x.f2 acc) (Ev.yes (by omega) (Ev.yes (by omega) ?_))
    rw [w4, e, List.drop_eq_getElem_cons hlt, List.filter_cons]
    refine Ev.ite (fun h => ?_) (fun h => ?_)
    · rw [if_pos (show nless x.f0 d[i].f0 = true from h)]
      refine Ev.yes (by omega) ?_
      have := ih (i + 1) (acc ++ [d[i]]) (by omega) (by rw [List.length_append, List.length_singleton]; omega)
      rw [List.append_assoc] at this
      exact this
    · rw [if_neg (show ¬ nless x.f0 d[i].f0 = true from h)]
      exact ih (i + 1) acc (by omega) (by omega)
theorem spec_l03Put_l0 (d : List S45) (x : S45) (hd : d.length ≤ 2097152) : ∀ (m i : Nat) (acc : List S45), i + m = d.length → acc.length ≤ i →
    Ev (fun k => spec_l03Put.l0 k (i : Int) d x.f0 x.f1 x.f2 acc) ((acc ++ (d.drop i).filter (fun y => nless y.f0 x.f0)) ++ x :: d.filter (fun y => nless x.f0 y.f0)) := by
  intro m
  induction m with
  | zero =>
    intro i acc hi ha
    refine Ev.step (spec_l03Put.l0.eq_2 (i : Int) d x.f0 x.f1 x.f2 acc) (Ev.no (by omega) (Ev.yes (by omega) ?_))
    have := spec_l03Put_l1 d x hd d.length 0 (acc ++ [x]) (by omega) (by rw [List.length_append, List.length_singleton]; omega)
    rw [List.drop_zero, List.append_assoc] at this
    rw [List.drop_eq_nil_of_le (by omega), List.filter_nil, List.append_nil]
    exact this
  | succ m ih =>
    intro i acc hi ha
    have hlt : i < d.length := by omega
    have e := rd45_at d i hlt
    have w4 : wrap64 ((i : Int) + 1) = ((i + 1 : Nat) : Int) := by rw [w64 (by omega) (by omega)]; omega
    refine Ev.step (spec_l03Put.l0.eq_2 (i : Int) d x.f0 x.f1 x.f2 acc) (Ev.yes (by omega) (Ev.yes (by omega) ?_))
    rw [w4, e, List.drop_eq_getElem_cons hlt, List.filter_cons]
    refine Ev.ite (fun h => ?_) (fun h => ?_)
    · rw [if_pos (show nless d[i].f0 x.f0 = true from h)]
      refine Ev.yes (by omega) ?_
      have := ih (i + 1) (acc ++ [d[i]]) (by omega) (by rw [List.length_append, List.length_singleton]; omega)
      rw [List.append_assoc acc] at this
      exact this
    · rw [if_neg (show ¬ nless d[i].f0 x.f0 = true from h)]
      exact ih (i + 1) acc (by omega) (by omega)
theorem spec_l03Put_ev (d : List S45) (x : S45) (hd : d.length ≤ 2097152) : Ev (fun k => spec_l03Put.f k d x.f0 x.f1 x.f2) (putL d x) := by
  have := spec_l03Put_l0 d x hd d.length 0 [] (by omega) (by simp)
  rw [List.drop_zero, List.nil_append] at this
  exact this

theorem find_range (a : ByteArray) : ∀ (l : List S45) (i : Int), impl_placeOf.find a l i = -1 ∨ (i ≤ impl_placeOf.find a l i ∧ impl_placeOf.find a l i < i + l.length)
  | [], i => .inl rfl
  | x :: r, i => by
    unfold impl_placeOf.find
    split
    · right; simp only [List.length_cons]; omega
    · rcases find_range a r (i + 1) with h | h
      · exact .inl h
      · right; simp only [List.length_cons]; omega
theorem spec_l03At_l0 (l : List S45) (hl : l.length ≤ 2097152) (a : ByteArray) : ∀ (d i : Nat), i + d = l.length → Ev (fun k => spec_l03At.l0 k a (i : Int) l) (impl_placeOf.find a (l.drop i) (i : Int)) := by
  intro d
  induction d with
  | zero =>
    intro i hi
    rw [List.drop_of_length_le (by omega)]
    exact Ev.step (spec_l03At.l0.eq_2 a i l) (Ev.no (by omega) (Ev.now _))
  | succ d ih =>
    intro i hi
    have hil : i < l.length := by omega
    rw [List.drop_eq_getElem_cons hil, impl_placeOf.find]
    refine Ev.step (spec_l03At.l0.eq_2 a i l) (Ev.yes (by omega) (Ev.yes (by omega) ?_))
    rw [rd45_at l i hil]
    refine Ev.ite (fun h => ?_) (fun h => ?_)
    · rw [if_pos h]; exact Ev.now _
    · rw [if_neg h, w64 (by omega) (by omega)]
      exact ih (i + 1) (by omega)
theorem spec_l03At_ev (l : List S45) (hl : l.length ≤ 2097152) (a : ByteArray) : Ev (fun k => spec_l03At.f k l a) (impl_placeOf.find a l 0) := by
  have := spec_l03At_l0 l hl a l.length 0 (by omega)
  rw [List.drop_zero] at this
  exact this

/-! what an act does -/
theorem less_total : ∀ a b : List UInt8, a ≠ b → Op.bytesLess a b = true ∨ Op.bytesLess b a = true
  | [], [], h => absurd rfl h
  | [], _ :: _, _ => .inl rfl
  | _ :: _, [], _ => .inr rfl
  | x :: a, y :: b, h => by
    simp only [Op.bytesLess, Bool.or_eq_true, decide_eq_true_eq, Bool.and_eq_true, beq_iff_eq]
    by_cases h1 : x < y
    · exact .inl (.inl h1)
    · by_cases h2 : y < x
      · exact .inr (.inl h2)
      · have e : x = y := UInt8.le_antisymm (UInt8.not_lt.1 h2) (UInt8.not_lt.1 h1)
        subst e
        rcases less_total a b (fun e => h (by rw [e])) with h3 | h3
        · exact .inl (.inr ⟨rfl, h3⟩)
        · exact .inr (.inr ⟨rfl, h3⟩)
theorem less_ne {a b : ByteArray} (h : nless a b = true) : ¬ a.toList = b.toList := fun e => by
  unfold nless at h
  rw [e, less_self] at h
  cases h
theorem put_ahead (x : S45) : ∀ d : List S45, (∀ z ∈ d, nless x.f0 z.f0 = true) → impl_withoutFile.keep x.f0 d = d ∧ impl_withFile.ins x d = x :: d ∧ putL d x = x :: d
  | [], _ => ⟨rfl, rfl, rfl⟩
  | z :: d, h => by
    have hz := h z (by simp)
    have hn := less_not hz
    refine ⟨?_, ?_, ?_⟩
    · unfold impl_withoutFile.keep
      refine List.filter_eq_self.2 (fun y hy => ?_)
      have hy2 := less_ne (h y hy)
      have hb : (y.f0.toList == x.f0.toList) = false := beq_eq_false_iff_ne.2 (fun e => hy2 e.symm)
      rw [hb]; rfl
    · rw [impl_withFile.ins]
      exact if_neg (show ¬ nless z.f0 x.f0 = true by rw [hn]; simp)
    · unfold putL
      rw [List.filter_eq_nil_iff.2 (fun y hy => by rw [less_not (h y hy)]; simp), List.filter_eq_self.2 (fun y hy => h y hy), List.nil_append]
theorem ins_put (x : S45) : ∀ d : List S45, sorted d → impl_withFile.ins x (impl_withoutFile.keep x.f0 d) = putL d x
  | [], _ => rfl
  | y :: d, hs => by
    obtain ⟨h1, h2⟩ := List.pairwise_cons.1 hs
    by_cases hl : nless y.f0 x.f0 = true
    · have ih := ins_put x d h2
      have hb : (y.f0.toList == x.f0.toList) = false := beq_eq_false_iff_ne.2 (less_ne hl)
      have ek : impl_withoutFile.keep x.f0 (y :: d) = y :: impl_withoutFile.keep x.f0 d := by
        unfold impl_withoutFile.keep
        rw [List.filter_cons_of_pos (by rw [hb]; rfl)]
      rw [ek, impl_withFile.ins]
      refine (if_pos hl).trans ?_
      rw [ih]
      unfold putL
      rw [List.filter_cons_of_pos (p := fun (y : S45) => nless y.f0 x.f0) hl, List.filter_cons_of_neg (p := fun (y : S45) => nless x.f0 y.f0) (by rw [less_not hl]; simp)]
      rfl
    · by_cases he : y.f0.toList = x.f0.toList
      · have ha : ∀ z ∈ d, nless x.f0 z.f0 = true := fun z hz => by
          have := h1 z hz
          unfold nless at this ⊢
          rw [← he]; exact this
        obtain ⟨a1, a2, a3⟩ := put_ahead x d ha
        have ek : impl_withoutFile.keep x.f0 (y :: d) = impl_withoutFile.keep x.f0 d := by
          unfold impl_withoutFile.keep
          rw [List.filter_cons_of_neg (by rw [beq_iff_eq.2 he]; simp)]
        have es : nless x.f0 y.f0 = false := by unfold nless; rw [he, less_self]
        rw [ek, a1, a2, ← a3]
        unfold putL
        rw [List.filter_cons_of_neg (p := fun (y : S45) => nless y.f0 x.f0) hl, List.filter_cons_of_neg (p := fun (y : S45) => nless x.f0 y.f0) (by rw [es]; simp)]
      · have hg : nless x.f0 y.f0 = true := (less_total _ _ he).resolve_left hl
        obtain ⟨a1, a2, a3⟩ := put_ahead x (y :: d) (fun z hz => by
          rcases List.mem_cons.1 hz with rfl | hz
          · exact hg
          · exact nless_trans hg (h1 z hz))
        rw [a1, a2, a3]
theorem keep_sorted {d : List S45} (h : sorted d) (a : ByteArray) : sorted (impl_withoutFile.keep a d) := h.sublist List.filter_sublist
theorem keep_len (a : ByteArray) (d : List S45) : (impl_withoutFile.keep a d).length ≤ d.length := List.length_filter_le _ _
theorem spec_l03Without_l0 (a : ByteArray) (l : List S45) (hl : l.length ≤ 2097152) : ∀ (d i : Nat) (acc : List S45), i + d = l.length → acc.length ≤ i →
    Ev (fun k => spec_l03Without.l0 k a (i : Int) l acc) (acc ++ impl_withoutFile.keep a (l.drop i)) := by
  intro d
  induction d with
  | zero =>
    intro i acc hi ha
    refine Ev.step (spec_l03Without.l0.eq_2 a (i : Int) l acc) (Ev.no (by omega) (Ev.const ?_))
    rw [List.drop_eq_nil_of_le (by omega)]; simp [impl_withoutFile.keep]
  | succ d ih =>
    intro i acc hi ha
    have hlt : i < l.length := by omega
    have e := rd45_at l i hlt
    have w4 : wrap64 ((i : Int) + 1) = ((i + 1 : Nat) : Int) := by rw [w64 (by omega) (by omega)]; omega
    refine Ev.step (spec_l03Without.l0.eq_2 a (i : Int) l acc) (Ev.yes (by omega) (Ev.yes (by omega) ?_))
    rw [w4, e, List.drop_eq_getElem_cons hlt]
    refine Ev.ite (fun h => ?_) (fun h => ?_)
    · have ek : impl_withoutFile.keep a (l[i] :: l.drop (i + 1)) = impl_withoutFile.keep a (l.drop (i + 1)) := by
        unfold impl_withoutFile.keep
        rw [List.filter_cons_of_neg (by rw [beq_iff_eq.2 h]; simp)]
      rw [ek]
      exact ih (i + 1) acc (by omega) (by omega)
    · have hb : ((l[i]).f0.toList == a.toList) = false := beq_eq_false_iff_ne.2 h
      have ek : impl_withoutFile.keep a (l[i] :: l.drop (i + 1)) = l[i] :: impl_withoutFile.keep a (l.drop (i + 1)) := by
        unfold impl_withoutFile.keep
        rw [List.filter_cons_of_pos (by rw [hb]; rfl)]
      rw [ek]
      have := ih (i + 1) (acc ++ [l[i]]) (by omega) (by rw [List.length_append, List.length_singleton]; omega)
      rw [List.append_assoc] at this
      exact Ev.yes (by omega) this
theorem spec_l03Without_ev (a : ByteArray) (l : List S45) (hl : l.length ≤ 2097152) : Ev (fun k => spec_l03Without.f k l a) (impl_withoutFile.keep a l) := by
  have := spec_l03Without_l0 a l hl l.length 0 [] (by omega) (by simp)
  rw [List.drop_zero, List.nil_append] at this
  exact this
def finO (l : List S45) : List S45 × Bool := if diskOkB (l.map pf) = true then (l, true) else ([], false)
def nameOk (a : ByteArray) : Prop := 1 ≤ (a.size : Int) ∧ (a.size : Int) ≤ 8
instance (a : ByteArray) : Decidable (nameOk a) := by unfold nameOk; exact inferInstance
/-- the file of a name; a new one without -/
def fileOf (d : List S45) (nm : ByteArray) : S45 := if impl_placeOf.find nm d 0 < 0 then ⟨nm, (⟨#[]⟩ : ByteArray), 0⟩ else rd_T45 d (impl_placeOf.find nm d 0)
def actO (d : List S45) (k : Int) (nm tx tg : ByteArray) : List S45 × Bool :=
  if diskOkB (d.map pf) = true ∧ nameOk nm ∧ (k = 3 ∨ tg.toList = []) ∧ (k = 1 ∨ tx.toList = []) then
    if k = 1 then finO (putL d ⟨nm, (fileOf d nm).f1 ++ tx, (fileOf d nm).f2⟩)
    else if impl_placeOf.find nm d 0 < 0 then ([], false)
    else if k = 2 then finO (putL d ⟨nm, (fileOf d nm).f1, ((fileOf d nm).f1.size : Int)⟩)
    else if k = 3 then (if (fileOf d nm).f2 < ((fileOf d nm).f1.size : Int) ∨ tg.toList = nm.toList ∨ ¬ nameOk tg then ([], false) else finO (putL (impl_withoutFile.keep nm d) ⟨tg, (fileOf d nm).f1, (fileOf d nm).f2⟩))
    else if k = 4 then finO (impl_withoutFile.keep nm d)
    else ([], false)
  else ([], false)
theorem find_at (a : ByteArray) : ∀ (l : List S45) (i : Int), 0 ≤ i → ¬ impl_placeOf.find a l i < 0 → ∃ (k : Nat) (h : k < l.length), impl_placeOf.find a l i = i + k ∧ (l[k]).f0 = a
  | [], i, _, h => absurd (show impl_placeOf.find a [] i < 0 by unfold impl_placeOf.find; omega) h
  | x :: r, i, h0, h => by
    unfold impl_placeOf.find at h ⊢
    by_cases hq : x.f0.toList = a.toList
    · rw [if_pos hq]
      exact ⟨0, by simp, by omega, toList_iff.1 hq⟩
    · rw [if_neg hq] at h ⊢
      obtain ⟨k, hk, e, e2⟩ := find_at a r (i + 1) (by omega) h
      exact ⟨k + 1, by simpa using hk, by rw [e]; omega, by simpa using e2⟩
theorem fileOf_ok {d : List S45} {nm : ByteArray} (hd : diskOkB (d.map pf) = true) : (0 ≤ (fileOf d nm).f2 ∧ (fileOf d nm).f2 ≤ ((fileOf d nm).f1.size : Int)) ∧ ((fileOf d nm).f1.size : Int) ≤ 20000 ∧ (fileOf d nm).f0 = nm ∧ (¬ impl_placeOf.find nm d 0 < 0 → nameOk nm) := by
  have hok := ((diskOk_iff d).1 hd).2.1
  unfold fileOf
  by_cases h : impl_placeOf.find nm d 0 < 0
  · rw [if_pos h]
    exact ⟨⟨Int.le_refl 0, by show (0 : Int) ≤ ((0 : Nat) : Int); omega⟩, by show ((0 : Nat) : Int) ≤ 20000; omega, rfl, fun h2 => absurd h h2⟩
  · rw [if_neg h]
    obtain ⟨k, hk, e, e2⟩ := find_at nm d 0 (by omega) h
    have e3 : rd_T45 d (impl_placeOf.find nm d 0) = d[k] := by rw [e, Int.zero_add]; exact rd45_at d k hk
    have hx := hok _ (List.getElem_mem hk)
    rw [e3]
    exact ⟨hx.2.2, hx.2.1, e2, fun _ => by rw [← e2]; exact hx.1⟩
theorem finO_bad {l : List S45} {x : S45} (hx : x ∈ l) (h : ¬ nameOk x.f0) : finO l = ([], false) := by
  unfold finO
  rw [if_neg (fun hd => h (((diskOk_iff l).1 hd).2.1 x hx).1)]
theorem mem_put (d : List S45) (x : S45) : x ∈ putL d x := by unfold putL; simp
theorem finO_len (l : List S45) : (finO l).1.length ≤ 30 := by
  unfold finO
  split
  · rename_i h; exact ((diskOk_iff l).1 h).1
  · simp
theorem actO_len (d : List S45) (k : Int) (nm tx tg : ByteArray) : (actO d k nm tx tg).1.length ≤ 30 := by
  unfold actO
  repeat' split
  all_goals first | exact finO_len _ | simp
theorem spec_fin (l : List S45) (hl : l.length ≤ 2097152) : Ev (fun k => (spec_DiskOk.f k l).bind fun t => (if t = true then (some (l, true)) else (some (([] : List S45), false)))) (finO l) := by
  unfold finO
  exact Ev.bind (spec_DiskOk_ev l hl) (Ev.ite (fun h => by rw [if_pos h]; exact Ev.now _) (fun h => by rw [if_neg h]; exact Ev.now _))
theorem impl_fin (l : List S45) (hl : l.length ≤ 2097152) : Ev (fun k => (impl_DiskOk.f k l).bind fun t => (if t = true then (some (l, true)) else (some (([] : List S45), false)))) (finO l) := by
  unfold finO
  exact Ev.bind (impl_DiskOk_ev l hl) (Ev.ite (fun h => by rw [if_pos h]; exact Ev.now _) (fun h => by rw [if_neg h]; exact Ev.now _))
theorem spec_l03Name_eq (a : ByteArray) : spec_l03Name.f a = some (decide (nameOk a)) := by
  unfold spec_l03Name.f
  rw [spec_l01In_ev]
  rfl
theorem wrap_bne (t : ByteArray) : (t.toList != ([] : List UInt8)) = true ↔ ¬ t.toList = [] := bne_iff_ne
theorem spec_DoAct_ev (d : List S45) (k0 : Int) (nm tx tg : ByteArray) (hl : d.length ≤ 2097151) (ht : tx.size ≤ 4611686018427387904) : Ev (fun k => spec_DoAct.f k d k0 nm tx tg) (actO d k0 nm tx tg) := by
  have bad : ∀ R : List S45 × Bool, R = ([], false) → Ev (fun k => spec_DoAct.j0 k true d k0 nm tx tg) R := fun R h => by
    rw [h]; exact Ev.step (spec_DoAct.j0.eq_2 true d k0 nm tx tg) (Ev.yes rfl (Ev.now _))
  unfold spec_DoAct.f
  refine Ev.bind (spec_DiskOk_ev d (by omega)) ?_
  by_cases hd : diskOkB (d.map pf) = true
  case neg => exact Ev.no hd (bad _ (by unfold actO; rw [if_neg (fun h => hd h.1)]))
  refine Ev.yes hd (Ev.bindc (spec_l03Name_eq nm) ?_)
  by_cases hn : nameOk nm
  case neg => exact Ev.no (by rw [decide_eq_false hn]; simp) (bad _ (by unfold actO; rw [if_neg (fun h => hn h.2.1)]))
  refine Ev.yes (decide_eq_true hn) ?_
  obtain ⟨hf1, hf2, hf3, -⟩ := fileOf_ok (nm := nm) hd
  have main : (k0 = 3 ∨ tg.toList = []) → (k0 = 1 ∨ tx.toList = []) → Ev (fun k => spec_DoAct.j0 k false d k0 nm tx tg) (actO d k0 nm tx tg) := fun h3 h1 => by
    have hcond : diskOkB (d.map pf) = true ∧ nameOk nm ∧ (k0 = 3 ∨ tg.toList = []) ∧ (k0 = 1 ∨ tx.toList = []) := ⟨hd, hn, h3, h1⟩
    have j2 : ∀ (b : Bool) (f0 f1 : ByteArray) (f2 : Int) (R : List S45 × Bool), (b = true → R = ([], false)) → (b = false → R = finO (putL (impl_withoutFile.keep nm d) ⟨tg, f1, f2⟩)) → Ev (fun k => spec_DoAct.j2 k b d k0 nm tx tg f0 f1 f2) R := fun b f0 f1 f2 R hb1 hb2 => by
      cases b
      · rw [hb2 rfl]
        have hk := keep_len nm d
        have hp := spec_l03Put_ev (impl_withoutFile.keep nm d) ⟨tg, f1, f2⟩ (by omega)
        have hpl := putL_length ⟨tg, f1, f2⟩ (impl_withoutFile.keep nm d)
        exact Ev.step (spec_DoAct.j2.eq_2 false d k0 nm tx tg f0 f1 f2) (Ev.no (by simp) (Ev.bind (spec_l03Without_ev nm d (by omega)) (Ev.bind hp (spec_fin _ (by omega)))))
      · rw [hb1 rfl]
        exact Ev.step (spec_DoAct.j2.eq_2 true d k0 nm tx tg f0 f1 f2) (Ev.yes rfl (Ev.now _))
    have j1 : ∀ i : Int, i = impl_placeOf.find nm d 0 → Ev (fun k => spec_DoAct.j1 k i d k0 nm tx tg nm (fileOf d nm).f1 (fileOf d nm).f2) (actO d k0 nm tx tg) := fun i hi => by
      unfold actO
      rw [if_pos hcond, ← hi]
      generalize fileOf d nm = f at hf1 hf2 ⊢
      refine Ev.step (spec_DoAct.j1.eq_2 i d k0 nm tx tg nm f.f1 f.f2) ?_
      by_cases k1 : k0 = 1
      · rw [if_pos k1]
        have hp := spec_l03Put_ev d ⟨nm, f.f1 ++ tx, f.f2⟩ (by omega)
        have hpl := putL_length ⟨nm, f.f1 ++ tx, f.f2⟩ d
        exact Ev.yes k1 (Ev.yes (by omega) (Ev.bind hp (spec_fin _ (by omega))))
      rw [if_neg k1]
      refine Ev.no k1 (Ev.ite (fun h0 => by rw [if_pos h0]; exact Ev.now _) (fun h0 => ?_))
      rw [if_neg h0]
      by_cases k2 : k0 = 2
      · rw [if_pos k2]
        have hp := spec_l03Put_ev d ⟨nm, f.f1, (f.f1.size : Int)⟩ (by omega)
        have hpl := putL_length ⟨nm, f.f1, (f.f1.size : Int)⟩ d
        exact Ev.yes k2 (Ev.bind hp (spec_fin _ (by omega)))
      rw [if_neg k2]
      refine Ev.no k2 ?_
      by_cases k3 : k0 = 3
      · rw [if_pos k3]
        refine Ev.yes k3 (Ev.ite (fun h => j2 _ _ _ _ _ (fun _ => by rw [if_pos (.inl h)]) (fun h => by cases h)) (fun h => Ev.ite (fun h2 => j2 _ _ _ _ _ (fun _ => by rw [if_pos (.inr (.inl h2))]) (fun h => by cases h)) (fun h2 => Ev.bindc (spec_l03Name_eq tg) (j2 _ _ _ _ _ (fun hb => ?_) (fun hb => ?_)))))
        · rw [if_pos (.inr (.inr (by simpa using hb)))]
        · rw [if_neg (fun e => by
            rcases e with e | e | e
            · exact h e
            · exact h2 e
            · exact e (by simpa using hb))]
      rw [if_neg k3]
      refine Ev.no k3 ?_
      by_cases k4 : k0 = 4
      · rw [if_pos k4]
        have hk := keep_len nm d
        exact Ev.yes k4 (Ev.bind (spec_l03Without_ev nm d (by omega)) (spec_fin _ (by omega)))
      · rw [if_neg k4]; exact Ev.no k4 (Ev.now _)
    refine Ev.step (spec_DoAct.j0.eq_2 false d k0 nm tx tg) (Ev.no (by simp) (Ev.bind (spec_l03At_ev d (by omega) nm) ?_))
    have hr := find_range nm d 0
    by_cases h : impl_placeOf.find nm d 0 < 0
    · have := j1 _ rfl
      have e : fileOf d nm = ⟨nm, (⟨#[]⟩ : ByteArray), 0⟩ := by unfold fileOf; rw [if_pos h]
      rw [e] at this
      exact Ev.no (by omega) this
    · have := j1 _ rfl
      have e : fileOf d nm = rd_T45 d (impl_placeOf.find nm d 0) := by unfold fileOf; rw [if_neg h]
      rw [e] at this hf3
      refine Ev.yes (by omega) (Ev.yes (by omega) (Ev.yes (by omega) ?_))
      rw [hf3]
      exact this
  have out : ¬ ((k0 = 3 ∨ tg.toList = []) ∧ (k0 = 1 ∨ tx.toList = [])) → actO d k0 nm tx tg = ([], false) := fun h => by
    unfold actO; rw [if_neg (fun e => h e.2.2)]
  have txt : (k0 = 3 ∨ tg.toList = []) → ¬ k0 = 1 → Ev (fun k => spec_DoAct.j0 k (tx.toList != ([] : List UInt8)) d k0 nm tx tg) (actO d k0 nm tx tg) := fun h3 h1 => by
    by_cases hb : tx.toList = []
    · rw [show (tx.toList != ([] : List UInt8)) = false by rw [hb]; rfl]
      exact main h3 (.inr hb)
    · rw [(wrap_bne tx).2 hb]
      exact bad _ (out (fun e => e.2.elim h1 hb))
  refine Ev.ite (fun h3 => Ev.ite (fun h1 => main (.inl h3) (.inl h1)) (fun h1 => txt (.inl h3) h1)) (fun h3 => Ev.ite (fun hb => Ev.ite (fun h1 => main (.inr hb) (.inl h1)) (fun h1 => txt (.inr hb) h1)) (fun hb => bad _ (out (fun e => e.1.elim h3 hb))))
theorem impl_actOk_eq (k0 : Int) (nm tx tg : ByteArray) : impl_actOk.f k0 nm tx tg = some (decide ((1 ≤ k0 ∧ k0 ≤ 4) ∧ (k0 = 1 ∨ tx.toList = []) ∧ (k0 = 3 ∨ tg.toList = []))) := by
  unfold impl_actOk.f
  rw [impl_within_ev]
  simp only [Option.bind_some]
  by_cases h : 1 ≤ k0 ∧ k0 ≤ 4
  case neg => rw [if_neg (by rw [decide_eq_false h]; simp), decide_eq_false (fun e => h e.1)]
  rw [if_pos (decide_eq_true h)]
  have k3 : (k0 == 3) = decide (k0 = 3) := rfl
  by_cases h1 : tx.toList = []
  · rw [if_pos h1]
    by_cases h2 : tg.toList = []
    · rw [if_pos h2, decide_eq_true ⟨h, .inr h1, .inr h2⟩]
    · rw [if_neg h2, k3]
      congr 1
      exact decide_eq_decide.2 ⟨fun e => ⟨h, .inr h1, .inl e⟩, fun e => e.2.2.resolve_right h2⟩
  · rw [if_neg h1]
    by_cases h4 : k0 = 1
    · rw [if_pos h4]
      by_cases h2 : tg.toList = []
      · rw [if_pos h2, decide_eq_true ⟨h, .inl h4, .inr h2⟩]
      · rw [if_neg h2, k3]
        congr 1
        exact decide_eq_decide.2 ⟨fun e => ⟨h, .inl h4, .inl e⟩, fun e => e.2.2.resolve_right h2⟩
    · rw [if_neg h4, decide_eq_false (fun e => e.2.1.elim h4 h1)]
theorem impl_withFile_eq (d : List S45) (nm tx : ByteArray) (kp : Int) (hs : sorted d) (hl : d.length ≤ 2097152) : impl_withFile.f d nm tx kp = some (putL d ⟨nm, tx, kp⟩) := by
  unfold impl_withFile.f
  rw [if_pos (by omega)]
  congr 1
  exact ins_put ⟨nm, tx, kp⟩ d hs
theorem impl_DoAct_ev (d : List S45) (k0 : Int) (nm tx tg : ByteArray) (hl : d.length ≤ 2097151) (ht : tx.size ≤ 4611686018427387904) : Ev (fun k => impl_DoAct.f k d k0 nm tx tg) (actO d k0 nm tx tg) := by
  have bad : ∀ (i : Int) (R : List S45 × Bool), R = ([], false) → Ev (fun k => impl_DoAct.j0 k i true d k0 nm tx tg) R := fun i R h => by
    rw [h]; exact Ev.step (impl_DoAct.j0.eq_2 i true d k0 nm tx tg) (Ev.yes rfl (Ev.now _))
  unfold impl_DoAct.f
  refine Ev.bindc (show impl_placeOf.f d nm = some (impl_placeOf.find nm d 0) from rfl) (Ev.bind (impl_DiskOk_ev d (by omega)) ?_)
  by_cases hd : diskOkB (d.map pf) = true
  case neg => exact Ev.no hd (bad _ _ (by unfold actO; rw [if_neg (fun h => hd h.1)]))
  refine Ev.yes hd (Ev.bindc (impl_actOk_eq k0 nm tx tg) ?_)
  obtain ⟨hf1, hf2, hf3, hf4⟩ := fileOf_ok (nm := nm) hd
  have hs := ((diskOk_iff d).1 hd).2.2
  have hr := find_range nm d 0
  by_cases ha : (1 ≤ k0 ∧ k0 ≤ 4) ∧ (k0 = 1 ∨ tx.toList = []) ∧ (k0 = 3 ∨ tg.toList = [])
  case neg =>
    refine Ev.no (by rw [decide_eq_false ha]; simp) (bad _ _ ?_)
    unfold actO
    by_cases hc : diskOkB (d.map pf) = true ∧ nameOk nm ∧ (k0 = 3 ∨ tg.toList = []) ∧ (k0 = 1 ∨ tx.toList = [])
    · have hk : ¬ (1 ≤ k0 ∧ k0 ≤ 4) := fun h => ha ⟨h, hc.2.2.2, hc.2.2.1⟩
      rw [if_pos hc, if_neg (by omega), if_neg (show ¬ k0 = 2 by omega), if_neg (show ¬ k0 = 3 by omega), if_neg (show ¬ k0 = 4 by omega)]
      split <;> rfl
    · rw [if_neg hc]
  refine Ev.yes (decide_eq_true ha) ?_
  have main : (k0 = 1 ∨ ¬ impl_placeOf.find nm d 0 < 0) → Ev (fun k => impl_DoAct.j0 k (impl_placeOf.find nm d 0) false d k0 nm tx tg) (actO d k0 nm tx tg) := fun hi => by
    have j2 : ∀ (b : Bool) (f0 f1 : ByteArray) (f2 : Int) (R : List S45 × Bool), (b = true → R = ([], false)) → (b = false → R = finO (putL (impl_withoutFile.keep nm d) ⟨tg, f1, f2⟩)) → Ev (fun k => impl_DoAct.j2 k b d k0 nm tx tg f0 f1 f2) R := fun b f0 f1 f2 R hb1 hb2 => by
      cases b
      · rw [hb2 rfl]
        have hk := keep_len nm d
        have hpl := putL_length ⟨tg, f1, f2⟩ (impl_withoutFile.keep nm d)
        have hw : impl_withoutFile.f d nm = some (impl_withoutFile.keep nm d) := by unfold impl_withoutFile.f; rw [if_pos (by omega)]
        exact Ev.step (impl_DoAct.j2.eq_2 false d k0 nm tx tg f0 f1 f2) (Ev.no (by simp) (Ev.bindc hw (Ev.bindc (impl_withFile_eq _ tg f1 f2 (keep_sorted hs nm) (by omega)) (impl_fin _ (by omega)))))
      · rw [hb1 rfl]
        exact Ev.step (impl_DoAct.j2.eq_2 true d k0 nm tx tg f0 f1 f2) (Ev.yes rfl (Ev.now _))
    have j1 : Ev (fun k => impl_DoAct.j1 k d k0 nm tx tg nm (fileOf d nm).f1 (fileOf d nm).f2) (actO d k0 nm tx tg) := by
      have nmok : ¬ nameOk nm → actO d k0 nm tx tg = ([], false) := fun hn => by unfold actO; rw [if_neg (fun h => hn h.2.1)]
      have hcond : nameOk nm → diskOkB (d.map pf) = true ∧ nameOk nm ∧ (k0 = 3 ∨ tg.toList = []) ∧ (k0 = 1 ∨ tx.toList = []) := fun hn => ⟨hd, hn, ha.2.2, ha.2.1⟩
      refine Ev.step (impl_DoAct.j1.eq_2 d k0 nm tx tg nm (fileOf d nm).f1 (fileOf d nm).f2) ?_
      by_cases k1 : k0 = 1
      · have hpl := putL_length ⟨nm, (fileOf d nm).f1 ++ tx, (fileOf d nm).f2⟩ d
        have e : actO d k0 nm tx tg = finO (putL d ⟨nm, (fileOf d nm).f1 ++ tx, (fileOf d nm).f2⟩) := by
          by_cases hn : nameOk nm
          · unfold actO; rw [if_pos (hcond hn), if_pos k1]
          · rw [nmok hn, finO_bad (mem_put d _) hn]
        rw [e]
        exact Ev.yes k1 (Ev.yes (by omega) (Ev.bindc (impl_withFile_eq d nm _ _ hs (by omega)) (impl_fin _ (by omega))))
      have h0 : ¬ impl_placeOf.find nm d 0 < 0 := hi.resolve_left k1
      have hn := hf4 h0
      unfold actO
      rw [if_pos (hcond hn), if_neg k1, if_neg h0]
      refine Ev.no k1 ?_
      generalize fileOf d nm = f at hf1 hf2 ⊢
      by_cases k2 : k0 = 2
      · rw [if_pos k2]
        have hpl := putL_length ⟨nm, f.f1, (f.f1.size : Int)⟩ d
        exact Ev.yes k2 (Ev.bindc (impl_withFile_eq d nm _ _ hs (by omega)) (impl_fin _ (by omega)))
      rw [if_neg k2]
      refine Ev.no k2 ?_
      by_cases k3 : k0 = 3
      · rw [if_pos k3]
        refine Ev.yes k3 (Ev.ite (fun h => j2 _ _ _ _ _ (fun hb => ?_) (fun hb => ?_)) (fun h => j2 _ _ _ _ _ (fun _ => ?_) (fun hb => by cases hb)))
        · rw [if_pos (.inr (.inl (by simpa using hb)))]
        · have hne : ¬ tg.toList = nm.toList := by simpa using hb
          by_cases hto : nameOk tg
          · rw [if_neg (fun e => by
              rcases e with e | e | e
              · omega
              · exact hne e
              · exact e hto)]
          · rw [if_pos (.inr (.inr hto)), finO_bad (mem_put _ _) hto]
        · rw [if_pos (.inl (by omega))]
      rw [if_neg k3, if_pos (show k0 = 4 by omega)]
      have hk := keep_len nm d
      have hw : impl_withoutFile.f d nm = some (impl_withoutFile.keep nm d) := by unfold impl_withoutFile.f; rw [if_pos (by omega)]
      exact Ev.no k3 (Ev.bindc hw (impl_fin _ (by omega)))
    refine Ev.step (impl_DoAct.j0.eq_2 (impl_placeOf.find nm d 0) false d k0 nm tx tg) (Ev.no (by simp) ?_)
    by_cases h : impl_placeOf.find nm d 0 < 0
    · have e : fileOf d nm = ⟨nm, (⟨#[]⟩ : ByteArray), 0⟩ := by unfold fileOf; rw [if_pos h]
      rw [e] at j1
      exact Ev.no (by omega) j1
    · have e : fileOf d nm = rd_T45 d (impl_placeOf.find nm d 0) := by unfold fileOf; rw [if_neg h]
      rw [e] at j1 hf3
      refine Ev.yes (by omega) (Ev.yes (by omega) (Ev.yes (by omega) ?_))
      rw [hf3]
      exact j1
  refine Ev.ite (fun h => ?_) (fun h => main (.inr h))
  by_cases k1 : k0 = 1
  · rw [show (k0 != 1) = false by rw [k1]; rfl]; exact main (.inl k1)
  · rw [show (k0 != 1) = true from bne_iff_ne.2 k1]
    refine bad _ _ ?_
    unfold actO
    rw [if_neg k1, if_pos h]
    split <;> rfl

/-! acts one after the other -/
theorem rd55_at (l : List S55) (i : Nat) (h : i < l.length) : rd_T55 l (i : Int) = l[i] := by
  unfold rd_T55
  rw [Int.toNat_natCast, List.getD_eq_getElem?_getD, List.getElem?_eq_getElem h]; rfl
def actsO : List S55 → Int → List S45 → List S45 × Int
  | [], i, d => (d, i)
  | a :: r, i, d => if (actO d a.f0 a.f1 a.f2 a.f3).2 = true then actsO r (i + 1) (actO d a.f0 a.f1 a.f2 a.f3).1 else (d, i)
theorem actsO_len : ∀ (l : List S55) (i : Int) (d : List S45), d.length ≤ 2097151 → (actsO l i d).1.length ≤ 2097151
  | [], _, _, h => h
  | a :: r, i, d, h => by
    have hn := actO_len d a.f0 a.f1 a.f2 a.f3
    rw [actsO]
    split
    · exact actsO_len r (i + 1) _ (by omega)
    · exact h
theorem spec_DoActs_l0 (l : List S55) (hl : l.length ≤ 2097152) (ht : ∀ a ∈ l, a.f2.size ≤ 1048576) : ∀ (d i : Nat) (D : List S45), i + d = l.length → D.length ≤ 2097151 → Ev (fun k => spec_DoActs.l0 k l (i : Int) D) (actsO (l.drop i) (i : Int) D) := by
  intro d
  induction d with
  | zero =>
    intro i D hi hD
    refine Ev.step (spec_DoActs.l0.eq_2 l (i : Int) D) (Ev.no (by omega) (Ev.const ?_))
    rw [List.drop_eq_nil_of_le (by omega), actsO, show (l.length : Int) = (i : Int) by omega]
  | succ d ih =>
    intro i D hi hD
    have hlt : i < l.length := by omega
    have e := rd55_at l i hlt
    have w4 : wrap64 ((i : Int) + 1) = ((i + 1 : Nat) : Int) := by rw [w64 (by omega) (by omega)]; omega
    have hx := spec_DoAct_ev D (l[i]).f0 (l[i]).f1 (l[i]).f2 (l[i]).f3 hD (by have := ht _ (List.getElem_mem hlt); omega)
    have hn := actO_len D (l[i]).f0 (l[i]).f1 (l[i]).f2 (l[i]).f3
    rw [List.drop_eq_getElem_cons hlt, actsO]
    refine Ev.step (spec_DoActs.l0.eq_2 l (i : Int) D) (Ev.yes (by omega) (Ev.yes (by omega) ?_))
    rw [w4, e]
    refine Ev.bind hx (Ev.ite (fun h => ?_) (fun h => ?_))
    · rw [if_pos h, show (i : Int) + 1 = ((i + 1 : Nat) : Int) by omega]
      exact ih (i + 1) _ (by omega) (by omega)
    · rw [if_neg h]; exact Ev.now _
theorem spec_DoActs_ev (D : List S45) (l : List S55) (hD : D.length ≤ 2097151) (hl : l.length ≤ 2097152) (ht : ∀ a ∈ l, a.f2.size ≤ 1048576) : Ev (fun k => spec_DoActs.f k D l) (actsO l 0 D) := by
  have h := spec_DoActs_l0 l hl ht l.length 0 D (by omega) hD
  rw [List.drop_zero] at h
  unfold spec_DoActs.f
  exact Ev.bindc rfl (Ev.yes (by show 0 + D.length < _; omega) h)
theorem impl_DoActs_l0 (l : List S55) (hl : l.length ≤ 2097152) (ht : ∀ a ∈ l, a.f2.size ≤ 1048576) : ∀ (d i : Nat) (D : List S45), i + d = l.length → D.length ≤ 2097151 → Ev (fun k => impl_DoActs.l0 k l l (l.length : Int) (i : Int) D) (actsO (l.drop i) (i : Int) D) := by
  intro d
  induction d with
  | zero =>
    intro i D hi hD
    refine Ev.step (impl_DoActs.l0.eq_2 l l (l.length : Int) (i : Int) D) (Ev.no (by omega) (Ev.const ?_))
    rw [List.drop_eq_nil_of_le (by omega), actsO, show (l.length : Int) = (i : Int) by omega]
  | succ d ih =>
    intro i D hi hD
    have hlt : i < l.length := by omega
    have e := rd55_at l i hlt
    have w4 : wrap64 ((i : Int) + 1) = ((i + 1 : Nat) : Int) := by rw [w64 (by omega) (by omega)]; omega
    have hx := impl_DoAct_ev D (l[i]).f0 (l[i]).f1 (l[i]).f2 (l[i]).f3 hD (by have := ht _ (List.getElem_mem hlt); omega)
    have hn := actO_len D (l[i]).f0 (l[i]).f1 (l[i]).f2 (l[i]).f3
    rw [List.drop_eq_getElem_cons hlt, actsO]
    refine Ev.step (impl_DoActs.l0.eq_2 l l (l.length : Int) (i : Int) D) (Ev.yes (by omega) (Ev.yes (by omega) (Ev.yes (by omega) ?_)))
    rw [w4, e]
    refine Ev.bind hx (Ev.ite (fun h => ?_) (fun h => ?_))
    · rw [if_pos h, show (i : Int) + 1 = ((i + 1 : Nat) : Int) by omega]
      exact ih (i + 1) _ (by omega) (by omega)
    · rw [if_neg h]; exact Ev.now _
theorem impl_DoActs_ev (D : List S45) (l : List S55) (hD : D.length ≤ 2097151) (hl : l.length ≤ 2097152) (ht : ∀ a ∈ l, a.f2.size ≤ 1048576) : Ev (fun k => impl_DoActs.f k D l) (actsO l 0 D) := by
  have h := impl_DoActs_l0 l hl ht l.length 0 D (by omega) hD
  rw [List.drop_zero] at h
  have hc : impl_copyDisk.f D = some D := by
    unfold impl_copyDisk.f
    rw [Option.bind_some, if_pos (by show 0 + D.length < _; omega)]; rfl
  unfold impl_DoActs.f
  exact Ev.bindc hc h

/-! the law's acts: their sizes, the copy of them, their marks -/
theorem rd52_at (l : List S52) (i : Nat) (h : i < l.length) : rd_T52 l (i : Int) = l[i] := by
  unfold rd_T52
  rw [Int.toNat_natCast, List.getD_eq_getElem?_getD, List.getElem?_eq_getElem h]; rfl
def to55 (x : S52) : S55 := ⟨x.f0, x.f1, x.f2, x.f3⟩
theorem laws_szAct_ev (k0 : Int) (nm tx tg : ByteArray) (n : Int) (h0 : 0 ≤ n) (hn : n ≤ 1048576) (h1 : nm.size ≤ 9223372036854775807) (h2 : tx.size ≤ 9223372036854775807) (h3 : tg.size ≤ 9223372036854775807) : ∃ r, laws_szAct.f k0 nm tx tg n = some r ∧ (r < 0 ∨ 0 ≤ r ∧ r ≤ 1048576 ∧ tx.size ≤ 1048576) := by
  unfold laws_szAct.f
  rw [w64 (x := n - (nm.size : Int)) (by omega) (by omega)]
  by_cases c1 : n - (nm.size : Int) < 0
  · rw [if_pos c1]; exact ⟨_, rfl, .inl (by omega)⟩
  rw [if_neg c1, w64 (x := n - (nm.size : Int) - (tx.size : Int)) (by omega) (by omega)]
  by_cases c2 : n - (nm.size : Int) - (tx.size : Int) < 0
  · rw [if_pos c2]; exact ⟨_, rfl, .inl (by omega)⟩
  rw [if_neg c2, w64 (x := n - (nm.size : Int) - (tx.size : Int) - (tg.size : Int)) (by omega) (by omega)]
  by_cases c3 : n - (nm.size : Int) - (tx.size : Int) - (tg.size : Int) < 0
  · rw [if_pos c3]; exact ⟨_, rfl, .inl (by omega)⟩
  · rw [if_neg c3]; exact ⟨_, rfl, .inr (by omega)⟩
def SmallA (l : List S52) : Prop := l.length ≤ 1048576 ∧ ∀ x ∈ l, x.f2.size ≤ 1048576
theorem laws_szActS_l0 (l : List S52) (hl : l.length ≤ 1048576) (hs : ∀ x ∈ l, x.f1.size ≤ 9223372036854775807 ∧ x.f2.size ≤ 9223372036854775807 ∧ x.f3.size ≤ 9223372036854775807) : ∀ (d i : Nat) (n : Int), i + d = l.length → 0 ≤ n → n ≤ 1048576 →
    ∃ r, Ev (fun k => laws_szActS.l0 k l n (i : Int)) r ∧ (r < 0 ∨ 0 ≤ r ∧ r ≤ 1048576 ∧ ∀ x ∈ l.drop i, x.f2.size ≤ 1048576) := by
  intro d
  induction d with
  | zero =>
    intro i n hi h0 hn
    refine ⟨n, Ev.step (laws_szActS.l0.eq_2 l n (i : Int)) (Ev.no (by omega) (Ev.now _)), Or.inr ⟨h0, hn, ?_⟩⟩
    rw [List.drop_eq_nil_of_le (by omega)]
    intro x hx; cases hx
  | succ d ih =>
    intro i n hi h0 hn
    have hlt : i < l.length := by omega
    have e := rd52_at l i hlt
    obtain ⟨a1, a2, a3⟩ := hs _ (List.getElem_mem hlt)
    obtain ⟨z, he, hz⟩ := laws_szAct_ev (l[i]).f0 (l[i]).f1 (l[i]).f2 (l[i]).f3 n h0 hn a1 a2 a3
    have w4 : wrap64 ((i : Int) + 1) = ((i + 1 : Nat) : Int) := by rw [w64 (by omega) (by omega)]; omega
    by_cases h1 : z < 0
    · refine ⟨-1, Ev.step (laws_szActS.l0.eq_2 l n (i : Int)) (Ev.yes (by omega) (Ev.yes (by omega) ?_)), Or.inl (by omega)⟩
      rw [e]
      exact Ev.bindc he (Ev.yes h1 (Ev.now _))
    · obtain ⟨b1, b2, b3⟩ := hz.resolve_left h1
      obtain ⟨r, hr, h2⟩ := ih (i + 1) z (by omega) b1 b2
      refine ⟨r, Ev.step (laws_szActS.l0.eq_2 l n (i : Int)) (Ev.yes (by omega) (Ev.yes (by omega) ?_)), ?_⟩
      · rw [e, w4]
        exact Ev.bindc he (Ev.no h1 hr)
      · rcases h2 with h2 | ⟨h2, h3, h4⟩
        · exact Or.inl h2
        · refine Or.inr ⟨h2, h3, ?_⟩
          rw [List.drop_eq_getElem_cons hlt]
          intro y hy
          rcases List.mem_cons.1 hy with rfl | hy
          · exact b3
          · exact h4 y hy
theorem laws_szActS_ev (l : List S52) (n : Int) (h0 : 0 ≤ n) (hn : n ≤ 1048576) (hl : l.length ≤ 9223372036854775807) (hs : ∀ x ∈ l, x.f1.size ≤ 9223372036854775807 ∧ x.f2.size ≤ 9223372036854775807 ∧ x.f3.size ≤ 9223372036854775807) :
    ∃ r, Ev (fun k => laws_szActS.f k l n) r ∧ (r < 0 ∨ 0 ≤ r ∧ r ≤ 1048576 ∧ SmallA l) := by
  unfold laws_szActS.f
  rw [w64 (x := n - (l.length : Int)) (by omega) (by omega)]
  by_cases h1 : n - (l.length : Int) < 0
  · exact ⟨-1, Ev.yes h1 (Ev.now _), Or.inl (by omega)⟩
  · obtain ⟨r, hr, h2⟩ := laws_szActS_l0 l (by omega) hs l.length 0 (n - (l.length : Int)) (by omega) (by omega) (by omega)
    refine ⟨r, Ev.no h1 hr, ?_⟩
    rcases h2 with h2 | ⟨h2, h4, h5⟩
    · exact Or.inl h2
    · exact Or.inr ⟨h2, h4, by omega, by rw [List.drop_zero] at h5; exact h5⟩
theorem laws_toActS_l0 (l : List S52) (hl : l.length ≤ 1048576) : ∀ (d i : Nat) (ys : List S55), i + d = l.length → ys.length = l.length → ys.take i = (l.take i).map to55 → Ev (fun k => laws_toActS.l0 k l ys (i : Int)) (l.map to55) := by
  intro d
  induction d with
  | zero =>
    intro i ys hi hy ht
    refine Ev.step (laws_toActS.l0.eq_2 l ys (i : Int)) (Ev.no (by omega) (Ev.const ?_))
    rw [List.take_of_length_le (by omega), List.take_of_length_le (by omega)] at ht
    rw [ht]
  | succ d ih =>
    intro i ys hi hy ht
    have hlt : i < l.length := by omega
    have hlt2 : i < ys.length := by omega
    have e := rd52_at l i hlt
    refine Ev.step (laws_toActS.l0.eq_2 l ys (i : Int)) (Ev.yes (by omega) (Ev.yes (by omega) (Ev.bindc rfl (Ev.yes (by omega) ?_))))
    rw [e, Int.toNat_natCast, w64 (by omega) (by omega)]
    refine ih (i + 1) _ (by omega) (by rw [List.length_set]; exact hy) ?_
    rw [take_set_next ys i _ hlt2, ht, List.take_succ_eq_append_getElem hlt, List.map_append]
    rfl
theorem laws_toActS_ev (l : List S52) (hl : l.length ≤ 1048576) : Ev (fun k => laws_toActS.f k l) (l.map to55) := by
  unfold laws_toActS.f
  exact Ev.yes (by omega) (Ev.yes (by omega) (laws_toActS_l0 l hl l.length 0 _ (by omega) (by rw [List.length_replicate]; omega) (by simp)))
theorem laws_eqActS_l0 (l : List S55) (hl : l.length ≤ 2097152) : ∀ (d i : Nat), i + d = l.length → Ev (fun k => laws_eqActS.l0 k l l (i : Int)) true := by
  intro d
  induction d with
  | zero =>
    intro i hi
    exact Ev.step (laws_eqActS.l0.eq_2 l l (i : Int)) (Ev.no (by omega) (Ev.now _))
  | succ d ih =>
    intro i hi
    have e : ∀ x : S55, laws_eqAct.f x.f0 x.f1 x.f2 x.f3 x.f0 x.f1 x.f2 x.f3 = some true := by
      intro x
      unfold laws_eqAct.f; rw [if_pos rfl, if_pos rfl, if_pos rfl, if_pos rfl]
    refine Ev.step (laws_eqActS.l0.eq_2 l l (i : Int)) (Ev.yes (by omega) (Ev.yes (by omega) (Ev.yes (by omega) (Ev.bindc (e _) (Ev.yes rfl ?_)))))
    rw [w64 (by omega) (by omega)]
    exact ih (i + 1) (by omega)
theorem laws_eqActS_ev (l : List S55) (hl : l.length ≤ 2097152) : Ev (fun k => laws_eqActS.f k l l) true := by
  unfold laws_eqActS.f
  exact Ev.yes rfl (laws_eqActS_l0 l hl l.length 0 (by omega))
theorem rd55_set (xs : List S55) (i : Nat) (v : S55) (h : i < xs.length) : rd_T55 (xs.set i v) (i : Int) = v := by
  unfold rd_T55
  rw [Int.toNat_natCast, List.getD_eq_getElem?_getD, List.getElem?_set_self h]; rfl
theorem laws_markActS_l0 : ∀ (d i : Nat) (xs : List S55) (m : Int), i + d = xs.length → xs.length ≤ 2097152 → 0 ≤ m → m + 4 * d ≤ 100000000000000 →
    ∃ ys : List S55, Ev (fun k => laws_markActS.l0 k xs m (i : Int)) (m + 4 * d, ys) := by
  intro d
  induction d with
  | zero =>
    intro i xs m hi hx h0 hm
    refine ⟨xs, Ev.step (laws_markActS.l0.eq_2 xs m (i : Int)) (Ev.no (by omega) (Ev.const ?_))⟩
    simp
  | succ d ih =>
    intro i xs m hi hx h0 hm
    have hlt : i < xs.length := by omega
    obtain ⟨t1, ht1⟩ := laws_markText_ev (m + 1) (by omega)
    obtain ⟨t2, ht2⟩ := laws_markText_ev (m + 2) (by omega)
    obtain ⟨t3, ht3⟩ := laws_markText_ev (m + 3) (by omega)
    obtain ⟨v, hv⟩ : ∃ v : S55, v = ⟨m, t1, t2, t3⟩ := ⟨_, rfl⟩
    obtain ⟨ys, hy⟩ := ih (i + 1) (xs.set i v) (m + 4) (by rw [List.length_set]; omega) (by rw [List.length_set]; exact hx) (by omega) (by omega)
    refine ⟨ys, Ev.step (laws_markActS.l0.eq_2 xs m (i : Int)) ?_⟩
    have w1 : wrap64 (m + 1) = m + 1 := w64 (by omega) (by omega)
    have w2 : wrap64 (m + 1 + 1) = m + 2 := by rw [w64 (by omega) (by omega)]; omega
    have w3 : wrap64 (m + 2 + 1) = m + 3 := by rw [w64 (by omega) (by omega)]; omega
    have w5 : wrap64 (m + 3 + 1) = m + 4 := by rw [w64 (by omega) (by omega)]; omega
    have w4 : wrap64 ((i : Int) + 1) = ((i + 1 : Nat) : Int) := by rw [w64 (by omega) (by omega)]; omega
    rw [w1, w2, w3, w5, w4]
    clear w1 w2 w3 w4 w5
    refine Ev.yes (by omega) (Ev.yes (by omega) (Ev.bindc rfl (Ev.bind ht1 (Ev.bindc rfl (Ev.bind ht2 (Ev.bindc rfl (Ev.bind ht3 ?_)))))))
    simp only [Int.toNat_natCast, List.set_set, rd55_set xs i _ hlt]
    rw [← hv]
    have e : m + 4 + 4 * (d : Int) = m + 4 * ((d + 1 : Nat) : Int) := by omega
    rw [e] at hy
    exact hy
theorem laws_markActS_ev (xs : List S55) (m : Int) (hx : xs.length ≤ 2097152) (h0 : 0 ≤ m) (hm : m ≤ 1000000000000) : ∃ (ys : List S55) (n : Int), Ev (fun k => laws_markActS.f k xs m) (n, ys) ∧ 0 ≤ n ∧ n ≤ m + 8388608 := by
  obtain ⟨ys, h⟩ := laws_markActS_l0 xs.length 0 xs m (by omega) hx h0 (by omega)
  exact ⟨ys, m + 4 * xs.length, h, by omega, by omega⟩

/-! a part of the acts, then a loss -/
theorem loseOut_len (l : List S45) (left : List Int) (hl : l.length ≤ 2097152) : (loseOut l left).1.length ≤ 2097152 := by
  unfold loseOut
  split
  · rw [loseL_length]; exact hl
  · simp
def cutO (d : List S45) (l : List S55) (n : Int) (left : List Int) : List S45 × Bool :=
  if 0 ≤ n ∧ n ≤ (l.length : Int) then (if (actsO (l.take n.toNat) 0 d).2 < n then ([], false) else loseOut (actsO (l.take n.toNat) 0 d).1 left) else ([], false)
theorem cutO_len (d : List S45) (l : List S55) (n : Int) (left : List Int) (hd : d.length ≤ 2097151) : (cutO d l n left).1.length ≤ 2097152 := by
  have h := actsO_len (l.take n.toNat) 0 d hd
  unfold cutO
  split
  · split
    · simp
    · exact loseOut_len _ _ (by omega)
  · simp
theorem take_small {l : List S55} (hl : l.length ≤ 2097152) (ht : ∀ a ∈ l, a.f2.size ≤ 1048576) (n : Nat) : (l.take n).length ≤ 2097152 ∧ ∀ a ∈ l.take n, a.f2.size ≤ 1048576 :=
  ⟨by rw [List.length_take]; omega, fun a ha => ht a (List.mem_of_mem_take ha)⟩
theorem spec_CutActs_ev (d : List S45) (l : List S55) (n : Int) (left : List Int) (hd : d.length ≤ 2097151) (hl : l.length ≤ 2097152) (ht : ∀ a ∈ l, a.f2.size ≤ 1048576) : Ev (fun k => spec_CutActs.f k d l n left) (cutO d l n left) := by
  have hs := take_small hl ht n.toNat
  have hx := spec_DoActs_ev d (l.take n.toNat) hd hs.1 hs.2
  have hn := actsO_len (l.take n.toNat) 0 d hd
  unfold spec_CutActs.f cutO
  refine Ev.bindc (spec_l01In_ev n 0 (l.length : Int)) ?_
  by_cases h : 0 ≤ n ∧ n ≤ (l.length : Int)
  · rw [if_pos h]
    refine Ev.yes (decide_eq_true h) (Ev.yes h.1 (Ev.yes h.2 (Ev.bind hx (Ev.ite (fun h2 => ?_) (fun h2 => ?_)))))
    · rw [if_pos h2]; exact Ev.now _
    · rw [if_neg h2]; exact Ev.bind (spec_LoseDisk_ev _ left (by omega)) (Ev.now _)
  · rw [if_neg h]; exact Ev.no (by rw [decide_eq_false h]; simp) (Ev.now _)
theorem impl_CutActs_ev (d : List S45) (l : List S55) (n : Int) (left : List Int) (hd : d.length ≤ 2097151) (hl : l.length ≤ 2097152) (ht : ∀ a ∈ l, a.f2.size ≤ 1048576) : Ev (fun k => impl_CutActs.f k d l n left) (cutO d l n left) := by
  have hs := take_small hl ht n.toNat
  have hx := impl_DoActs_ev d (l.take n.toNat) hd hs.1 hs.2
  have hn := actsO_len (l.take n.toNat) 0 d hd
  unfold impl_CutActs.f cutO
  refine Ev.bindc (impl_within_ev n 0 (l.length : Int)) ?_
  by_cases h : 0 ≤ n ∧ n ≤ (l.length : Int)
  · rw [if_pos h]
    refine Ev.yes (decide_eq_true h) (Ev.yes h.1 (Ev.yes h.2 (Ev.bind hx (Ev.ite (fun h2 => ?_) (fun h2 => ?_)))))
    · rw [if_pos h2]; exact Ev.now _
    · rw [if_neg h2]; exact Ev.bind (impl_LoseDisk_ev _ left (by omega)) (Ev.now _)
  · rw [if_neg h]; exact Ev.no (by rw [decide_eq_false h]; simp) (Ev.now _)

theorem FnExactCutActs : ∀ (l0 : List S94) (l1 : List S52) (a2 : Int) (l3 : List Int), l0.length ≤ 9223372036854775807 → (∀ x ∈ l0, x.f0.size ≤ maxLen ∧ x.f1.size ≤ maxLen ∧ (Lit.int .i64 x.f2).wf = true) → l1.length ≤ 9223372036854775807 → (∀ x ∈ l1, (Lit.int .i64 x.f0).wf = true ∧ x.f1.size ≤ maxLen ∧ x.f2.size ≤ maxLen ∧ x.f3.size ≤ maxLen) → (Lit.int .i64 a2).wf = true → l3.length ≤ maxLen → (∀ x ∈ l3, (Lit.int .i64 x).wf = true) → ∃ k, laws_FnExactCutActs.f k l0 l1 a2 l3 = some true := by
  intro l acts whole left hl hw hla hwa _ hll _
  apply Ev.rounds
  unfold laws_FnExactCutActs.f
  refine Ev.ite (fun _ => Ev.now _) (fun h0 => ?_)
  have hlf : left.length ≤ 1048576 := by omega
  obtain ⟨r, hr, hs2⟩ := laws_szDisk_ev l 1048576 (by omega) (by omega) hl (fun x hx => by have := hw x hx; unfold maxLen at this; omega)
  refine Ev.bind hr (Ev.ite (fun _ => Ev.now _) (fun h3' => ?_))
  rcases hs2 with hs2 | ⟨hr0, hr1, hs⟩
  · exact absurd hs2 h3'
  obtain ⟨q, hq, hq2⟩ := laws_szActS_ev acts r hr0 hr1 hla (fun x hx => by have := hwa x hx; unfold maxLen at this; omega)
  refine Ev.bind hq (Ev.ite (fun _ => Ev.now _) (fun hq3 => ?_))
  obtain ⟨-, -, hsa⟩ := hq2.resolve_left hq3
  have hm : (l.map to45).length ≤ 1048576 := by rw [List.length_map]; exact hs.1
  have hma : (acts.map to55).length ≤ 1048576 := by rw [List.length_map]; exact hsa.1
  have hta : ∀ a ∈ acts.map to55, a.f2.size ≤ 1048576 := fun a ha => by
    obtain ⟨b, hb, rfl⟩ := List.mem_map.1 ha
    exact hsa.2 b hb
  have ht := laws_toDisk_ev l hs.1
  have hact := laws_toActS_ev acts hsa.1
  have hi := laws_toIntS_ev left hlf
  have hsp := spec_CutActs_ev (l.map to45) (acts.map to55) whole left (by omega) (by omega) hta
  have him := impl_CutActs_ev (l.map to45) (acts.map to55) whole left (by omega) (by omega) hta
  have hol := cutO_len (l.map to45) (acts.map to55) whole left (by omega)
  generalize cutO (l.map to45) (acts.map to55) whole left = R at hsp him hol
  obtain ⟨R, b⟩ := R
  change R.length ≤ 2097152 at hol
  have heq := laws_eqDisk_ev R hol
  have heq0 := laws_eqDisk_ev (l.map to45) (by omega)
  have heqa := laws_eqActS_ev (acts.map to55) (by omega)
  have heqi := laws_eqIntS_ev left hlf
  obtain ⟨ys, n, e1, -, e3, e4, -⟩ := markdisk_ev (l.map to45) 1 (by omega) (by omega) (by omega)
  obtain ⟨zs, na, e5, e6, e7⟩ := laws_markActS_ev (acts.map to55) n (by omega) (by omega) (by omega)
  obtain ⟨vs, nb, f1, f2, f3⟩ := laws_markIntS_ev left na hlf e6 (by omega)
  obtain ⟨us, m, g1, g2, g3, -, g5⟩ := markdisk_ev R 1 hol (by omega) (by omega)
  have hb : (b != b) = false := by cases b <;> rfl
  refine Ev.bind ht (Ev.bind hact (Ev.bind hi (Ev.bind hsp (Ev.bind ht (Ev.bind hact (Ev.bind hi (Ev.bind him (Ev.bind heq (Ev.yes rfl ?_)))))))))
  simp only [hb]
  refine Ev.step (laws_FnExactCutActs.j0.eq_2 _ _ _ _ _ _ _ _ _ _ _ _) (Ev.no (by simp) ?_)
  refine Ev.bind ht (Ev.bind heq0 (Ev.yes rfl (Ev.bind hact (Ev.bind heqa (Ev.yes rfl (Ev.bind hi (Ev.bind heqi (Ev.yes rfl (Ev.bind e1 (Ev.bind e5 (Ev.bind f1 (Ev.no (by show ¬ nb < 0; omega) (Ev.bind heq (Ev.yes rfl ?_))))))))))))))
  simp only [hb]
  refine Ev.step (laws_FnExactCutActs.j1.eq_2 _ _ _ _ _ _ _ _) (Ev.no (by simp) ?_)
  refine Ev.bind g1 (Ev.bind g5 (Ev.no (by show ¬ m < 0; omega) (Ev.yes rfl (Ev.bind ht (Ev.bind hact (Ev.bind hi (Ev.bind him (Ev.bind heq (Ev.yes rfl ?_)))))))))
  simp only [hb]
  refine Ev.step (laws_FnExactCutActs.j2.eq_2 _ _ _) (Ev.no (by simp) ?_)
  exact Ev.bind g5 (Ev.no (by show ¬ m < 0; omega) (Ev.yes rfl (Ev.now _)))
end Go.Proofs.Ytdiecogmaiglaaa.Pure
