/- AllKept returns what the reference returns, for every disk; its argument stays as it was. No condition. -/
import Derived.Test.YtdiecogmaiglaaaDisk
import Derived.Test.YtdiecogmaiglaaaQFnExactAllKeptx6
namespace Go.Proofs.Ytdiecogmaiglaaa.Pure
open Go.RowKit Go.Proofs.Ytdiecogmaiglaaa.PFnExactAllKept Go.Proofs.YtdiecogmaiglaaaW.PrintWords Go.Proofs.YtdiecogmaiglaaaW.PrintLast Go.Proofs.Ytdiecogmaiglaaa.Gen
set_option linter.unusedVariables false

theorem spec_l01In_ev (a b c : Int) : spec_l01In.f a b c = some (decide (b ≤ a ∧ a ≤ c)) := by
  unfold spec_l01In.f
  by_cases h : a ≥ b
  · rw [if_pos h]; congr 1; simp; omega
  · rw [if_neg h]; congr 1; simp; omega

theorem impl_within_ev (a b c : Int) : impl_within.f a b c = some (decide (b ≤ a ∧ a ≤ c)) := by
  unfold impl_within.f
  by_cases h : a ≥ b
  · rw [if_pos h]; congr 1; simp; omega
  · rw [if_neg h]; congr 1; simp; omega

def pf (x : S45) : Fl := ⟨x.f0, x.f1, x.f2⟩
def to45 (x : S94) : S45 := ⟨x.f0, x.f1, x.f2⟩
theorem rd45_at (l : List S45) (i : Nat) (h : i < l.length) : rd_T45 l (i : Int) = l[i] := by
  unfold rd_T45
  rw [Int.toNat_natCast, List.getD_eq_getElem?_getD, List.getElem?_eq_getElem h]; rfl
theorem rd94_at (l : List S94) (i : Nat) (h : i < l.length) : rd_T94 l (i : Int) = l[i] := by
  unfold rd_T94
  rw [Int.toNat_natCast, List.getD_eq_getElem?_getD, List.getElem?_eq_getElem h]; rfl
def Small (l : List S94) : Prop := l.length ≤ 1048576 ∧ ∀ x ∈ l, x.f0.size ≤ 1048576 ∧ x.f1.size ≤ 1048576
def szOut (x : S94) (n : Int) : Int := if n - (x.f0.size : Int) < 0 then -1 else if n - (x.f0.size : Int) - (x.f1.size : Int) < 0 then -1 else n - (x.f0.size : Int) - (x.f1.size : Int)
theorem laws_szFile_ev (x : S94) (n : Int) (ha : x.f0.size ≤ 9223372036854775807) (hb : x.f1.size ≤ 9223372036854775807) (h0 : 0 ≤ n) (hn : n ≤ 1048576) : laws_szFile.f x.f0 x.f1 x.f2 n = some (szOut x n) := by
  unfold laws_szFile.f szOut
  rw [w64 (x := n - (x.f0.size : Int)) (by omega) (by omega)]
  by_cases h1 : n - (x.f0.size : Int) < 0
  · rw [if_pos h1, if_pos h1]
  · rw [if_neg h1, if_neg h1, w64 (x := n - (x.f0.size : Int) - (x.f1.size : Int)) (by omega) (by omega)]
    split <;> rfl
theorem szOut_small (x : S94) (n : Int) (h0 : 0 ≤ n) (hn : n ≤ 1048576) : szOut x n ≤ 1048576 ∧ (szOut x n < 0 ∨ 0 ≤ szOut x n ∧ x.f0.size ≤ 1048576 ∧ x.f1.size ≤ 1048576) := by
  unfold szOut
  split
  · omega
  · split <;> omega
theorem laws_szFileS_l0 (l : List S94) (hl : l.length ≤ 1048576) (hs : ∀ x ∈ l, x.f0.size ≤ 9223372036854775807 ∧ x.f1.size ≤ 9223372036854775807) : ∀ (d i : Nat) (n : Int), i + d = l.length → 0 ≤ n → n ≤ 1048576 →
    ∃ r, Ev (fun k => laws_szFileS.l0 k l n (i : Int)) r ∧ (r < 0 ∨ 0 ≤ r ∧ r ≤ 1048576 ∧ ∀ x ∈ l.drop i, x.f0.size ≤ 1048576 ∧ x.f1.size ≤ 1048576) := by
  intro d
  induction d with
  | zero =>
    intro i n hi h0 hn
    refine ⟨n, Ev.step (laws_szFileS.l0.eq_2 l n (i : Int)) (Ev.no (by omega) (Ev.now _)), Or.inr ⟨h0, hn, ?_⟩⟩
    rw [List.drop_eq_nil_of_le (by omega)]
    intro x hx; cases hx
  | succ d ih =>
    intro i n hi h0 hn
    have hlt : i < l.length := by omega
    obtain ⟨x, hx⟩ : ∃ x, x = rd_T94 l (i : Int) := ⟨_, rfl⟩
    have e : x = l[i] := hx.trans (rd94_at l i hlt)
    have hs' := hs _ (List.getElem_mem hlt)
    rw [← e] at hs'
    have he := laws_szFile_ev x n hs'.1 hs'.2 h0 hn
    have hz := szOut_small x n h0 hn
    by_cases h1 : szOut x n < 0
    · refine ⟨-1, Ev.step (laws_szFileS.l0.eq_2 l n (i : Int)) (Ev.yes (by omega) (Ev.yes (by omega) ?_)), Or.inl (by omega)⟩
      rw [← hx]
      exact Ev.bindc he (Ev.yes h1 (Ev.now _))
    · obtain ⟨r, hr, h2⟩ := ih (i + 1) (szOut x n) (by omega) (by omega) hz.1
      refine ⟨r, Ev.step (laws_szFileS.l0.eq_2 l n (i : Int)) (Ev.yes (by omega) (Ev.yes (by omega) ?_)), ?_⟩
      · rw [← hx, w64 (by omega) (by omega)]
        exact Ev.bindc he (Ev.no h1 hr)
      · rcases h2 with h2 | ⟨h2, h3, h4⟩
        · exact Or.inl h2
        · refine Or.inr ⟨h2, h3, ?_⟩
          rw [List.drop_eq_getElem_cons hlt, ← e]
          intro y hy
          rcases List.mem_cons.1 hy with rfl | hy
          · rcases hz.2 with hz | hz
            · exact absurd hz h1
            · exact hz.2
          · exact h4 y hy
theorem laws_szDisk_ev (l : List S94) (n : Int) (h0 : 0 ≤ n) (hn : n ≤ 1048576) (hl : l.length ≤ 9223372036854775807) (hs : ∀ x ∈ l, x.f0.size ≤ 9223372036854775807 ∧ x.f1.size ≤ 9223372036854775807) :
    ∃ r, Ev (fun k => laws_szDisk.f k l n) r ∧ (r < 0 ∨ 0 ≤ r ∧ r ≤ 1048576 ∧ Small l) := by
  unfold laws_szDisk.f laws_szFileS.f
  rw [w64 (x := n - (l.length : Int)) (by omega) (by omega)]
  by_cases h1 : n - (l.length : Int) < 0
  · exact ⟨-1, Ev.bind (Ev.yes h1 (Ev.now _)) (Ev.yes (by omega) (Ev.now _)), Or.inl (by omega)⟩
  · obtain ⟨r, hr, h2⟩ := laws_szFileS_l0 l (by omega) hs l.length 0 (n - (l.length : Int)) (by omega) (by omega) (by omega)
    by_cases h3 : r < 0
    · exact ⟨-1, Ev.bind (Ev.no h1 hr) (Ev.yes h3 (Ev.now _)), Or.inl (by omega)⟩
    · refine ⟨r, Ev.bind (Ev.no h1 hr) (Ev.no h3 (Ev.now _)), ?_⟩
      rcases h2 with h2 | ⟨h2, h4, h5⟩
      · exact absurd h2 h3
      · exact Or.inr ⟨h2, h4, by omega, by rw [List.drop_zero] at h5; exact h5⟩
theorem laws_toFileS_l0 (l : List S94) (hl : l.length ≤ 1048576) : ∀ (d i : Nat) (ys : List S45), i + d = l.length → ys.length = l.length → ys.take i = (l.take i).map to45 → Ev (fun k => laws_toFileS.l0 k l ys (i : Int)) (l.map to45) := by
  intro d
  induction d with
  | zero =>
    intro i ys hi hy ht
    refine Ev.step (laws_toFileS.l0.eq_2 l ys (i : Int)) (Ev.no (by omega) (Ev.const ?_))
    rw [List.take_of_length_le (by omega), List.take_of_length_le (by omega)] at ht
    rw [ht]
  | succ d ih =>
    intro i ys hi hy ht
    have hlt : i < l.length := by omega
    have hlt2 : i < ys.length := by omega
    have e := rd94_at l i hlt
    refine Ev.step (laws_toFileS.l0.eq_2 l ys (i : Int)) (Ev.yes (by omega) (Ev.yes (by omega) (Ev.bindc rfl (Ev.yes (by omega) ?_))))
    rw [e, Int.toNat_natCast, w64 (by omega) (by omega)]
    refine ih (i + 1) _ (by omega) (by rw [List.length_set]; exact hy) ?_
    rw [take_set_next ys i _ hlt2, ht, List.take_succ_eq_append_getElem hlt, List.map_append]
    rfl
theorem laws_toDisk_ev (l : List S94) (hl : l.length ≤ 1048576) : Ev (fun k => laws_toDisk.f k l) (l.map to45) := by
  unfold laws_toDisk.f laws_toFileS.f
  refine Ev.bind (Ev.yes (by omega) (Ev.yes (by omega) (laws_toFileS_l0 l hl l.length 0 _ (by omega) (by rw [List.length_replicate]; omega) (by simp)))) (Ev.now _)
theorem laws_eqFileS_l0 (l : List S45) (hl : l.length ≤ 2097152) : ∀ (d i : Nat), i + d = l.length → Ev (fun k => laws_eqFileS.l0 k l l (i : Int)) true := by
  intro d
  induction d with
  | zero =>
    intro i hi
    exact Ev.step (laws_eqFileS.l0.eq_2 l l (i : Int)) (Ev.no (by omega) (Ev.now _))
  | succ d ih =>
    intro i hi
    have e : ∀ x : S45, laws_eqFile.f x.f0 x.f1 x.f2 x.f0 x.f1 x.f2 = some true := by
      intro x
      unfold laws_eqFile.f; rw [if_pos rfl, if_pos rfl, if_pos rfl]
    refine Ev.step (laws_eqFileS.l0.eq_2 l l (i : Int)) (Ev.yes (by omega) (Ev.yes (by omega) (Ev.yes (by omega) (Ev.bindc (e _) (Ev.yes rfl ?_)))))
    rw [w64 (by omega) (by omega)]
    exact ih (i + 1) (by omega)
theorem laws_eqDisk_ev (l : List S45) (hl : l.length ≤ 2097152) : Ev (fun k => laws_eqDisk.f k l l) true := by
  unfold laws_eqDisk.f laws_eqFileS.f
  exact Ev.bind (Ev.yes rfl (laws_eqFileS_l0 l hl l.length 0 (by omega))) (Ev.yes rfl (Ev.now _))

theorem spec_l03Name_ev (a : ByteArray) : spec_l03Name.f a = some (decide (1 ≤ (a.size : Int) ∧ (a.size : Int) ≤ 8)) := by unfold spec_l03Name.f; rw [spec_l01In_ev]; rfl
theorem spec_DiskOk_l0 (l : List S45) (hl : l.length ≤ 2097152) : ∀ (d i : Nat) (p : Option ByteArray), i + d = l.length → (i = 0 → p = none) → (0 < i → p = some (rd_T45 l ((i : Int) - 1)).f0) →
    Ev (fun k => spec_DiskOk.l0 k (i : Int) l) (diskOkL p ((l.drop i).map pf)) := by
  intro d
  induction d with
  | zero =>
    intro i p hi h0 h1
    refine Ev.step (spec_DiskOk.l0.eq_2 (i : Int) l) (Ev.no (by omega) (Ev.const ?_))
    rw [List.drop_eq_nil_of_le (by omega)]; rfl
  | succ d ih =>
    intro i p hi h0 h1
    have hlt : i < l.length := by omega
    obtain ⟨x, hx⟩ : ∃ x, x = rd_T45 l (i : Int) := ⟨_, rfl⟩
    have e : x = l[i] := hx.trans (rd45_at l i hlt)
    have hn : Ev (fun k => spec_DiskOk.l0 k ((i + 1 : Nat) : Int) l) (diskOkL (some x.f0) ((l.drop (i + 1)).map pf)) := by
      refine ih (i + 1) (some x.f0) (by omega) (fun h => by omega) (fun _ => ?_)
      have e3 : (((i + 1 : Nat) : Int) - 1) = (i : Int) := by omega
      rw [e3, ← hx]
    have hd : diskOkL p ((l.drop i).map pf) = (decide ((1 ≤ (x.f0.size : Int) ∧ (x.f0.size : Int) ≤ 8) ∧ (x.f1.size : Int) ≤ 20000 ∧ (0 ≤ x.f2 ∧ x.f2 ≤ (x.f1.size : Int))) && ordB p x.f0 && diskOkL (some x.f0) ((l.drop (i + 1)).map pf)) := by
      rw [List.drop_eq_getElem_cons hlt, ← e]; rfl
    have e2 : wrap64 ((i : Int) + 1) = ((i + 1 : Nat) : Int) := by rw [w64 (by omega) (by omega)]; omega
    refine Ev.step (spec_DiskOk.l0.eq_2 (i : Int) l) ?_
    rw [e2, ← hx, hd]
    clear e2 e ih hd
    have hz : 0 < i → wrap64 ((i : Int) - 1) = (i : Int) - 1 := fun h => w64 (by omega) (by omega)
    refine Ev.yes (by omega) (Ev.yes (by omega) (Ev.bindc (spec_l03Name_ev _) ?_))
    refine Ev.ite (fun h2 => ?_) (fun h2 => ?_)
    · rw [decide_eq_true_eq] at h2
      refine Ev.ite (fun h3 => ?_) (fun h3 => ?_)
      · rw [decide_eq_false (fun h7 => by omega)]; exact Ev.now _
      · refine Ev.bindc (spec_l01In_ev _ _ _) ?_
        refine Ev.ite (fun h4 => ?_) (fun h4 => ?_)
        · rw [decide_eq_true_eq] at h4
          refine Ev.ite (fun h5 => ?_) (fun h5 => ?_)
          · rw [hz (by omega)]
            rw [h1 (by omega)]
            have eo : ∀ q : ByteArray, ordB (some q) x.f0 = Op.bytesLess q.toList x.f0.toList := fun _ => rfl
            rw [eo]
            clear hz
            refine Ev.yes (by omega) (Ev.yes (by omega) ?_)
            rw [decide_eq_true (show (1 ≤ (x.f0.size : Int) ∧ (x.f0.size : Int) ≤ 8) ∧ (x.f1.size : Int) ≤ 20000 ∧ (0 ≤ x.f2 ∧ x.f2 ≤ (x.f1.size : Int)) from ⟨h2, by omega, h4⟩), Bool.true_and]
            refine Ev.ite (fun h6 => ?_) (fun h6 => ?_)
            · simp only [h6, Bool.true_and]; exact hn
            · rw [Bool.not_eq_true] at h6
              simp only [h6, Bool.false_and]; exact Ev.now _
          · clear hz
            rw [h0 (by omega), show ordB none x.f0 = true from rfl]
            rw [decide_eq_true (show (1 ≤ (x.f0.size : Int) ∧ (x.f0.size : Int) ≤ 8) ∧ (x.f1.size : Int) ≤ 20000 ∧ (0 ≤ x.f2 ∧ x.f2 ≤ (x.f1.size : Int)) from ⟨h2, by omega, h4⟩), Bool.true_and, Bool.true_and]
            exact hn
        · rw [decide_eq_true_eq] at h4
          rw [decide_eq_false (fun h7 => h4 h7.2.2)]; exact Ev.now _
    · rw [decide_eq_true_eq] at h2
      rw [decide_eq_false (fun h7 => h2 h7.1)]; exact Ev.now _
theorem spec_DiskOk_ev (l : List S45) (hl : l.length ≤ 2097152) : Ev (fun k => spec_DiskOk.f k l) (diskOkB (l.map pf)) := by
  unfold spec_DiskOk.f diskOkB
  rw [List.length_map]
  refine Ev.ite (fun h => ?_) (fun h => ?_)
  · rw [decide_eq_false (by omega), Bool.false_and]; exact Ev.now _
  · rw [decide_eq_true (show (l.length : Int) ≤ 30 by omega), Bool.true_and]
    exact spec_DiskOk_l0 l hl l.length 0 none (by omega) (fun _ => rfl) (fun h => by omega)

theorem impl_DiskOk_l0 (l : List S45) (hl : l.length ≤ 2097152) : ∀ (d i : Nat) (p : Option ByteArray), i + d = l.length → (i = 0 → p = none) → (0 < i → p = some (rd_T45 l ((i : Int) - 1)).f0) →
    Ev (fun k => impl_DiskOk.l0 k l (l.length : Int) (i : Int) l) (diskOkL p ((l.drop i).map pf) && decide ((l.length : Int) ≤ 30)) := by
  intro d
  induction d with
  | zero =>
    intro i p hi h0 h1
    refine Ev.step (impl_DiskOk.l0.eq_2 l (l.length : Int) (i : Int) l) (Ev.no (by omega) (Ev.const ?_))
    rw [List.drop_eq_nil_of_le (by omega)]; rfl
  | succ d ih =>
    intro i p hi h0 h1
    have hlt : i < l.length := by omega
    obtain ⟨x, hx⟩ : ∃ x, x = rd_T45 l (i : Int) := ⟨_, rfl⟩
    have e : x = l[i] := hx.trans (rd45_at l i hlt)
    have hn : Ev (fun k => impl_DiskOk.l0 k l (l.length : Int) ((i + 1 : Nat) : Int) l) (diskOkL (some x.f0) ((l.drop (i + 1)).map pf) && decide ((l.length : Int) ≤ 30)) := by
      refine ih (i + 1) (some x.f0) (by omega) (fun h => by omega) (fun _ => ?_)
      have e3 : (((i + 1 : Nat) : Int) - 1) = (i : Int) := by omega
      rw [e3, ← hx]
    have hd : diskOkL p ((l.drop i).map pf) = (decide ((1 ≤ (x.f0.size : Int) ∧ (x.f0.size : Int) ≤ 8) ∧ (x.f1.size : Int) ≤ 20000 ∧ (0 ≤ x.f2 ∧ x.f2 ≤ (x.f1.size : Int))) && ordB p x.f0 && diskOkL (some x.f0) ((l.drop (i + 1)).map pf)) := by
      rw [List.drop_eq_getElem_cons hlt, ← e]; rfl
    have e2 : wrap64 ((i : Int) + 1) = ((i + 1 : Nat) : Int) := by rw [w64 (by omega) (by omega)]; omega
    refine Ev.step (impl_DiskOk.l0.eq_2 l (l.length : Int) (i : Int) l) ?_
    rw [e2, ← hx, hd]
    clear e2 e ih hd
    have hz : 0 < i → wrap64 ((i : Int) - 1) = (i : Int) - 1 := fun h => w64 (by omega) (by omega)
    refine Ev.yes (by omega) (Ev.yes (by omega) (Ev.yes (by omega) (Ev.bindc (impl_within_ev _ _ _) ?_)))
    refine Ev.ite (fun h2 => ?_) (fun h2 => ?_)
    · rw [decide_eq_true_eq] at h2
      refine Ev.ite (fun h3 => ?_) (fun h3 => ?_)
      · rw [decide_eq_false (fun h7 => by omega)]; exact Ev.now _
      · refine Ev.bindc (impl_within_ev _ _ _) ?_
        refine Ev.ite (fun h4 => ?_) (fun h4 => ?_)
        · rw [decide_eq_true_eq] at h4
          refine Ev.ite (fun h5 => ?_) (fun h5 => ?_)
          · rw [hz (by omega)]
            rw [h1 (by omega)]
            have eo : ∀ q : ByteArray, ordB (some q) x.f0 = Op.bytesLess q.toList x.f0.toList := fun _ => rfl
            rw [eo]
            clear hz
            refine Ev.yes (by omega) (Ev.yes (by omega) ?_)
            rw [decide_eq_true (show (1 ≤ (x.f0.size : Int) ∧ (x.f0.size : Int) ≤ 8) ∧ (x.f1.size : Int) ≤ 20000 ∧ (0 ≤ x.f2 ∧ x.f2 ≤ (x.f1.size : Int)) from ⟨h2, by omega, h4⟩), Bool.true_and]
            refine Ev.ite (fun h6 => ?_) (fun h6 => ?_)
            · simp only [h6, Bool.true_and]; exact hn
            · rw [Bool.not_eq_true] at h6
              simp only [h6, Bool.false_and]; exact Ev.now _
          · clear hz
            rw [h0 (by omega), show ordB none x.f0 = true from rfl]
            rw [decide_eq_true (show (1 ≤ (x.f0.size : Int) ∧ (x.f0.size : Int) ≤ 8) ∧ (x.f1.size : Int) ≤ 20000 ∧ (0 ≤ x.f2 ∧ x.f2 ≤ (x.f1.size : Int)) from ⟨h2, by omega, h4⟩), Bool.true_and, Bool.true_and]
            exact hn
        · rw [decide_eq_true_eq] at h4
          rw [decide_eq_false (fun h7 => h4 h7.2.2)]; exact Ev.now _
    · rw [decide_eq_true_eq] at h2
      rw [decide_eq_false (fun h7 => h2 h7.1)]; exact Ev.now _
theorem impl_DiskOk_ev (l : List S45) (hl : l.length ≤ 2097152) : Ev (fun k => impl_DiskOk.f k l) (diskOkB (l.map pf)) := by
  have := impl_DiskOk_l0 l hl l.length 0 none (by omega) (fun _ => rfl) (fun h => by omega)
  unfold diskOkB
  rw [List.length_map, Bool.and_comm]
  exact this

theorem spec_AllKept_l0 (l : List S45) (hl : l.length ≤ 2097152) (hok : ∀ f ∈ l.map pf, f.k ≤ (f.t.size : Int)) : ∀ (d i : Nat), i + d = l.length → Ev (fun k => spec_AllKept.l0 k (i : Int) l) (keptB ((l.drop i).map pf)) := by
  intro d
  induction d with
  | zero =>
    intro i hi
    refine Ev.step (spec_AllKept.l0.eq_2 (i : Int) l) (Ev.no (by omega) (Ev.const ?_))
    rw [List.drop_eq_nil_of_le (by omega)]; rfl
  | succ d ih =>
    intro i hi
    have hlt : i < l.length := by omega
    obtain ⟨x, hx⟩ : ∃ x, x = rd_T45 l (i : Int) := ⟨_, rfl⟩
    have e : x = l[i] := hx.trans (rd45_at l i hlt)
    have hk := hok (pf l[i]) (List.mem_map_of_mem (List.getElem_mem hlt))
    rw [← e] at hk
    have hk' : x.f2 ≤ (x.f1.size : Int) := hk
    refine Ev.step (spec_AllKept.l0.eq_2 (i : Int) l) (Ev.yes (by omega) (Ev.yes (by omega) ?_))
    rw [w64 (by omega) (by omega), ← hx, List.drop_eq_getElem_cons hlt, ← e]
    have e2 : keptB ((x :: l.drop (i + 1)).map pf) = (decide (x.f2 = (x.f1.size : Int)) && keptB ((l.drop (i + 1)).map pf)) := rfl
    rw [e2]
    refine Ev.ite (fun h => ?_) (fun h => ?_)
    · rw [decide_eq_false (by omega), Bool.false_and]; exact Ev.now _
    · rw [decide_eq_true (show x.f2 = (x.f1.size : Int) by omega), Bool.true_and]; exact ih (i + 1) (by omega)
theorem spec_AllKept_ev (l : List S45) (hl : l.length ≤ 2097152) : Ev (fun k => spec_AllKept.f k l) (allKeptB (l.map pf)) := by
  unfold spec_AllKept.f allKeptB
  refine Ev.bind (spec_DiskOk_ev l hl) ?_
  refine Ev.ite (fun h => ?_) (fun h => ?_)
  · rw [h, Bool.and_true]
    have h' := h
    simp only [diskOkB, Bool.and_eq_true] at h'
    exact spec_AllKept_l0 l hl (fun f hf => (diskOkL_mem h'.2 f hf).2.2.2) l.length 0 (by omega)
  · rw [Bool.not_eq_true] at h
    rw [h, Bool.and_false]; exact Ev.now _
theorem impl_AllKept_l0 (l : List S45) (hl : l.length ≤ 2097152) : ∀ (d i : Nat), i + d = l.length → Ev (fun k => impl_AllKept.l0 k l (l.length : Int) (i : Int) l) (keptB ((l.drop i).map pf) && diskOkB (l.map pf)) := by
  intro d
  induction d with
  | zero =>
    intro i hi
    refine Ev.step (impl_AllKept.l0.eq_2 l (l.length : Int) (i : Int) l) (Ev.no (by omega) (Ev.bind (impl_DiskOk_ev l hl) (Ev.const ?_)))
    rw [List.drop_eq_nil_of_le (by omega)]; rfl
  | succ d ih =>
    intro i hi
    have hlt : i < l.length := by omega
    obtain ⟨x, hx⟩ : ∃ x, x = rd_T45 l (i : Int) := ⟨_, rfl⟩
    have e : x = l[i] := hx.trans (rd45_at l i hlt)
    refine Ev.step (impl_AllKept.l0.eq_2 l (l.length : Int) (i : Int) l) (Ev.yes (by omega) (Ev.yes (by omega) (Ev.yes (by omega) ?_)))
    rw [w64 (by omega) (by omega), ← hx, List.drop_eq_getElem_cons hlt, ← e]
    have e2 : keptB ((x :: l.drop (i + 1)).map pf) = (decide (x.f2 = (x.f1.size : Int)) && keptB ((l.drop (i + 1)).map pf)) := rfl
    rw [e2]
    refine Ev.ite (fun h => ?_) (fun h => ?_)
    · rw [decide_eq_true h, Bool.true_and]; exact ih (i + 1) (by omega)
    · rw [decide_eq_false h, Bool.false_and, Bool.false_and]; exact Ev.now _
theorem impl_AllKept_ev (l : List S45) (hl : l.length ≤ 2097152) : Ev (fun k => impl_AllKept.f k l) (allKeptB (l.map pf)) := impl_AllKept_l0 l hl l.length 0 (by omega)


theorem FnExactAllKept : ∀ (l0 : List S94), l0.length ≤ 9223372036854775807 → (∀ x ∈ l0, x.f0.size ≤ maxLen ∧ x.f1.size ≤ maxLen ∧ (Lit.int .i64 x.f2).wf = true) → ∃ k, laws_FnExactAllKept.f k l0 = some true := by
  intro l hl hw
  apply Ev.rounds
  unfold laws_FnExactAllKept.f
  obtain ⟨r, hr, h2⟩ := laws_szDisk_ev l 1048576 (by omega) (by omega) hl (fun x hx => by have := hw x hx; unfold maxLen at this; omega)
  refine Ev.bind hr ?_
  refine Ev.ite (fun _ => Ev.now _) (fun h3 => ?_)
  rcases h2 with h2 | ⟨-, -, hs⟩
  · exact absurd h2 h3
  have hm : (l.map to45).length ≤ 2097152 := by rw [List.length_map]; have := hs.1; omega
  have ht := laws_toDisk_ev l hs.1
  refine Ev.bind ht (Ev.bind (spec_AllKept_ev _ hm) (Ev.bind ht (Ev.bind (impl_AllKept_ev _ hm) ?_)))
  refine Ev.no (by simp) (Ev.bind ht (Ev.bind (laws_eqDisk_ev _ hm) ?_))
  exact Ev.yes rfl (Ev.now _)

end Go.Proofs.Ytdiecogmaiglaaa.Pure
