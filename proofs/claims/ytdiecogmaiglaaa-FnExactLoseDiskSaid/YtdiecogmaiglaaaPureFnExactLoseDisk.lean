/- LoseDisk returns what the reference returns, for every disk and every list of ints; its arguments stay as they were, its answer is new memory. No condition. -/
import Derived.Test.YtdiecogmaiglaaaDisk
import Derived.Test.YtdiecogmaiglaaaQFnExactLoseDiskx9
namespace Go.Proofs.Ytdiecogmaiglaaa.Pure
open Go.RowKit Go.Proofs.Ytdiecogmaiglaaa.PFnExactLoseDisk Go.Proofs.YtdiecogmaiglaaaW.PrintWords Go.Proofs.YtdiecogmaiglaaaW.PrintLast Go.Proofs.YtdiecogmaiglaaaW.PrintMore Go.Proofs.Ytdiecogmaiglaaa.Gen
set_option linter.unusedVariables false

theorem spec_l01In_ev (a b c : Int) : spec_l01In.f a b c = some (decide (b ≤ a ∧ a ≤ c)) := by
  unfold spec_l01In.f
  by_cases h : a ≥ b
  · rw [if_pos h]; congr 1; simp; omega
  · rw [if_neg h]; congr 1; simp; omega

theorem impl_within_ev (a b c : Int) : impl_within.f a b c = some (decide (b ≤ a ∧ a ≤ c)) := by
  unfold impl_within.f
  by_cases h : a ≥ b
  · rw [if_pos h]; congr 1; simp; omega
  · rw [if_neg h]; congr 1; simp; omega

def pf (x : S45) : Fl := ⟨x.f0, x.f1, x.f2⟩
def to45 (x : S94) : S45 := ⟨x.f0, x.f1, x.f2⟩
theorem rd45_at (l : List S45) (i : Nat) (h : i < l.length) : rd_T45 l (i : Int) = l[i] := by
  unfold rd_T45
  rw [Int.toNat_natCast, List.getD_eq_getElem?_getD, List.getElem?_eq_getElem h]; rfl
theorem rd94_at (l : List S94) (i : Nat) (h : i < l.length) : rd_T94 l (i : Int) = l[i] := by
  unfold rd_T94
  rw [Int.toNat_natCast, List.getD_eq_getElem?_getD, List.getElem?_eq_getElem h]; rfl
def Small (l : List S94) : Prop := l.length ≤ 1048576 ∧ ∀ x ∈ l, x.f0.size ≤ 1048576 ∧ x.f1.size ≤ 1048576
def szOut (x : S94) (n : Int) : Int := if n - (x.f0.size : Int) < 0 then -1 else if n - (x.f0.size : Int) - (x.f1.size : Int) < 0 then -1 else n - (x.f0.size : Int) - (x.f1.size : Int)
theorem laws_szFile_ev (x : S94) (n : Int) (ha : x.f0.size ≤ 9223372036854775807) (hb : x.f1.size ≤ 9223372036854775807) (h0 : 0 ≤ n) (hn : n ≤ 1048576) : laws_szFile.f x.f0 x.f1 x.f2 n = some (szOut x n) := by
  unfold laws_szFile.f szOut
  rw [w64 (x := n - (x.f0.size : Int)) (by omega) (by omega)]
  by_cases h1 : n - (x.f0.size : Int) < 0
  · rw [if_pos h1, if_pos h1]
  · rw [if_neg h1, if_neg h1, w64 (x := n - (x.f0.size : Int) - (x.f1.size : Int)) (by omega) (by omega)]
    split <;> rfl
theorem szOut_small (x : S94) (n : Int) (h0 : 0 ≤ n) (hn : n ≤ 1048576) : szOut x n ≤ 1048576 ∧ (szOut x n < 0 ∨ 0 ≤ szOut x n ∧ x.f0.size ≤ 1048576 ∧ x.f1.size ≤ 1048576) := by
  unfold szOut
  split
  · omega
  · split <;> omega
theorem laws_szFileS_l0 (l : List S94) (hl : l.length ≤ 1048576) (hs : ∀ x ∈ l, x.f0.size ≤ 9223372036854775807 ∧ x.f1.size ≤ 9223372036854775807) : ∀ (d i : Nat) (n : Int), i + d = l.length → 0 ≤ n → n ≤ 1048576 →
    ∃ r, Ev (fun k => laws_szFileS.l0 k l n (i : Int)) r ∧ (r < 0 ∨ 0 ≤ r ∧ r ≤ 1048576 ∧ ∀ x ∈ l.drop i, x.f0.size ≤ 1048576 ∧ x.f1.size ≤ 1048576) := by
  intro d
  induction d with
  | zero =>
    intro i n hi h0 hn
    refine ⟨n, Ev.step (laws_szFileS.l0.eq_2 l n (i : Int)) (Ev.no (by omega) (Ev.now _)), Or.inr ⟨h0, hn, ?_⟩⟩
    rw [List.drop_eq_nil_of_le (by omega)]
    intro x hx; cases hx
  | succ d ih =>
    intro i n hi h0 hn
    have hlt : i < l.length := by omega
    obtain ⟨x, hx⟩ : ∃ x, x = rd_T94 l (i : Int) := ⟨_, rfl⟩
    have e : x = l[i] := hx.trans (rd94_at l i hlt)
    have hs' := hs _ (List.getElem_mem hlt)
    rw [← e] at hs'
    have he := laws_szFile_ev x n hs'.1 hs'.2 h0 hn
    have hz := szOut_small x n h0 hn
    by_cases h1 : szOut x n < 0
    · refine ⟨-1, Ev.step (laws_szFileS.l0.eq_2 l n (i : Int)) (Ev.yes (by omega) (Ev.yes (by omega) ?_)), Or.inl (by omega)⟩
      rw [← hx]
      exact Ev.bindc he (Ev.yes h1 (Ev.now _))
    · obtain ⟨r, hr, h2⟩ := ih (i + 1) (szOut x n) (by omega) (by omega) hz.1
      refine ⟨r, Ev.step (laws_szFileS.l0.eq_2 l n (i : Int)) (Ev.yes (by omega) (Ev.yes (by omega) ?_)), ?_⟩
      · rw [← hx, w64 (by omega) (by omega)]
        exact Ev.bindc he (Ev.no h1 hr)
      · rcases h2 with h2 | ⟨h2, h3, h4⟩
        · exact Or.inl h2
        · refine Or.inr ⟨h2, h3, ?_⟩
          rw [List.drop_eq_getElem_cons hlt, ← e]
          intro y hy
          rcases List.mem_cons.1 hy with rfl | hy
          · rcases hz.2 with hz | hz
            · exact absurd hz h1
            · exact hz.2
          · exact h4 y hy
theorem laws_szDisk_ev (l : List S94) (n : Int) (h0 : 0 ≤ n) (hn : n ≤ 1048576) (hl : l.length ≤ 9223372036854775807) (hs : ∀ x ∈ l, x.f0.size ≤ 9223372036854775807 ∧ x.f1.size ≤ 9223372036854775807) :
    ∃ r, Ev (fun k => laws_szDisk.f k l n) r ∧ (r < 0 ∨ 0 ≤ r ∧ r ≤ 1048576 ∧ Small l) := by
  unfold laws_szDisk.f laws_szFileS.f
  rw [w64 (x := n - (l.length : Int)) (by omega) (by omega)]
  by_cases h1 : n - (l.length : Int) < 0
  · exact ⟨-1, Ev.bind (Ev.yes h1 (Ev.now _)) (Ev.yes (by omega) (Ev.now _)), Or.inl (by omega)⟩
  · obtain ⟨r, hr, h2⟩ := laws_szFileS_l0 l (by omega) hs l.length 0 (n - (l.length : Int)) (by omega) (by omega) (by omega)
    by_cases h3 : r < 0
    · exact ⟨-1, Ev.bind (Ev.no h1 hr) (Ev.yes h3 (Ev.now _)), Or.inl (by omega)⟩
    · refine ⟨r, Ev.bind (Ev.no h1 hr) (Ev.no h3 (Ev.now _)), ?_⟩
      rcases h2 with h2 | ⟨h2, h4, h5⟩
      · exact absurd h2 h3
      · exact Or.inr ⟨h2, h4, by omega, by rw [List.drop_zero] at h5; exact h5⟩
theorem laws_toFileS_l0 (l : List S94) (hl : l.length ≤ 1048576) : ∀ (d i : Nat) (ys : List S45), i + d = l.length → ys.length = l.length → ys.take i = (l.take i).map to45 → Ev (fun k => laws_toFileS.l0 k l ys (i : Int)) (l.map to45) := by
  intro d
  induction d with
  | zero =>
    intro i ys hi hy ht
    refine Ev.step (laws_toFileS.l0.eq_2 l ys (i : Int)) (Ev.no (by omega) (Ev.const ?_))
    rw [List.take_of_length_le (by omega), List.take_of_length_le (by omega)] at ht
    rw [ht]
  | succ d ih =>
    intro i ys hi hy ht
    have hlt : i < l.length := by omega
    have hlt2 : i < ys.length := by omega
    have e := rd94_at l i hlt
    refine Ev.step (laws_toFileS.l0.eq_2 l ys (i : Int)) (Ev.yes (by omega) (Ev.yes (by omega) (Ev.bindc rfl (Ev.yes (by omega) ?_))))
    rw [e, Int.toNat_natCast, w64 (by omega) (by omega)]
    refine ih (i + 1) _ (by omega) (by rw [List.length_set]; exact hy) ?_
    rw [take_set_next ys i _ hlt2, ht, List.take_succ_eq_append_getElem hlt, List.map_append]
    rfl
theorem laws_toDisk_ev (l : List S94) (hl : l.length ≤ 1048576) : Ev (fun k => laws_toDisk.f k l) (l.map to45) := by
  unfold laws_toDisk.f laws_toFileS.f
  refine Ev.bind (Ev.yes (by omega) (Ev.yes (by omega) (laws_toFileS_l0 l hl l.length 0 _ (by omega) (by rw [List.length_replicate]; omega) (by simp)))) (Ev.now _)
theorem laws_eqFileS_l0 (l : List S45) (hl : l.length ≤ 2097152) : ∀ (d i : Nat), i + d = l.length → Ev (fun k => laws_eqFileS.l0 k l l (i : Int)) true := by
  intro d
  induction d with
  | zero =>
    intro i hi
    exact Ev.step (laws_eqFileS.l0.eq_2 l l (i : Int)) (Ev.no (by omega) (Ev.now _))
  | succ d ih =>
    intro i hi
    have e : ∀ x : S45, laws_eqFile.f x.f0 x.f1 x.f2 x.f0 x.f1 x.f2 = some true := by
      intro x
      unfold laws_eqFile.f; rw [if_pos rfl, if_pos rfl, if_pos rfl]
    refine Ev.step (laws_eqFileS.l0.eq_2 l l (i : Int)) (Ev.yes (by omega) (Ev.yes (by omega) (Ev.yes (by omega) (Ev.bindc (e _) (Ev.yes rfl ?_)))))
    rw [w64 (by omega) (by omega)]
    exact ih (i + 1) (by omega)
theorem laws_eqDisk_ev (l : List S45) (hl : l.length ≤ 2097152) : Ev (fun k => laws_eqDisk.f k l l) true := by
  unfold laws_eqDisk.f laws_eqFileS.f
  exact Ev.bind (Ev.yes rfl (laws_eqFileS_l0 l hl l.length 0 (by omega))) (Ev.yes rfl (Ev.now _))

theorem spec_l03Name_ev (a : ByteArray) : spec_l03Name.f a = some (decide (1 ≤ (a.size : Int) ∧ (a.size : Int) ≤ 8)) := by unfold spec_l03Name.f; rw [spec_l01In_ev]; rfl
theorem spec_DiskOk_l0 (l : List S45) (hl : l.length ≤ 2097152) : ∀ (d i : Nat) (p : Option ByteArray), i + d = l.length → (i = 0 → p = none) → (0 < i → p = some (rd_T45 l ((i : Int) - 1)).f0) →
    Ev (fun k => spec_DiskOk.l0 k (i : Int) l) (diskOkL p ((l.drop i).map pf)) := by
  intro d
  induction d with
  | zero =>
    intro i p hi h0 h1
    refine Ev.step (spec_DiskOk.l0.eq_2 (i : Int) l) (Ev.no (by omega) (Ev.const ?_))
    rw [List.drop_eq_nil_of_le (by omega)]; rfl
  | succ d ih =>
    intro i p hi h0 h1
    have hlt : i < l.length := by omega
    obtain ⟨x, hx⟩ : ∃ x, x = rd_T45 l (i : Int) := ⟨_, rfl⟩
    have e : x = l[i] := hx.trans (rd45_at l i hlt)
    have hn : Ev (fun k => spec_DiskOk.l0 k ((i + 1 : Nat) : Int) l) (diskOkL (some x.f0) ((l.drop (i + 1)).map pf)) := by
      refine ih (i + 1) (some x.f0) (by omega) (fun h => by omega) (fun _ => ?_)
      have e3 : (((i + 1 : Nat) : Int) - 1) = (i : Int) := by omega
      rw [e3, ← hx]
    have hd : diskOkL p ((l.drop i).map pf) = (decide ((1 ≤ (x.f0.size : Int) ∧ (x.f0.size : Int) ≤ 8) ∧ (x.f1.size : Int) ≤ 20000 ∧ (0 ≤ x.f2 ∧ x.f2 ≤ (x.f1.size : Int))) && ordB p x.f0 && diskOkL (some x.f0) ((l.drop (i + 1)).map pf)) := by
      rw [List.drop_eq_getElem_cons hlt, ← e]; rfl
    have e2 : wrap64 ((i : Int) + 1) = ((i + 1 : Nat) : Int) := by rw [w64 (by omega) (by omega)]; omega
    refine Ev.step (spec_DiskOk.l0.eq_2 (i : Int) l) ?_
    rw [e2, ← hx, hd]
    clear e2 e ih hd
    have hz : 0 < i → wrap64 ((i : Int) - 1) = (i : Int) - 1 := fun h => w64 (by omega) (by omega)
    refine Ev.yes (by omega) (Ev.yes (by omega) (Ev.bindc (spec_l03Name_ev _) ?_))
    refine Ev.ite (fun h2 => ?_) (fun h2 => ?_)
    · rw [decide_eq_true_eq] at h2
      refine Ev.ite (fun h3 => ?_) (fun h3 => ?_)
      · rw [decide_eq_false (fun h7 => by omega)]; exact Ev.now _
      · refine Ev.bindc (spec_l01In_ev _ _ _) ?_
        refine Ev.ite (fun h4 => ?_) (fun h4 => ?_)
        · rw [decide_eq_true_eq] at h4
          refine Ev.ite (fun h5 => ?_) (fun h5 => ?_)
          · rw [hz (by omega)]
            rw [h1 (by omega)]
            have eo : ∀ q : ByteArray, ordB (some q) x.f0 = Op.bytesLess q.toList x.f0.toList := fun _ => rfl
            rw [eo]
            clear hz
            refine Ev.yes (by omega) (Ev.yes (by omega) ?_)
            rw [decide_eq_true (show (1 ≤ (x.f0.size : Int) ∧ (x.f0.size : Int) ≤ 8) ∧ (x.f1.size : Int) ≤ 20000 ∧ (0 ≤ x.f2 ∧ x.f2 ≤ (x.f1.size : Int)) from ⟨h2, by omega, h4⟩), Bool.true_and]
            refine Ev.ite (fun h6 => ?_) (fun h6 => ?_)
            · simp only [h6, Bool.true_and]; exact hn
            · rw [Bool.not_eq_true] at h6
              simp only [h6, Bool.false_and]; exact Ev.now _
          · clear hz
            rw [h0 (by omega), show ordB none x.f0 = true from rfl]
            rw [decide_eq_true (show (1 ≤ (x.f0.size : Int) ∧ (x.f0.size : Int) ≤ 8) ∧ (x.f1.size : Int) ≤ 20000 ∧ (0 ≤ x.f2 ∧ x.f2 ≤ (x.f1.size : Int)) from ⟨h2, by omega, h4⟩), Bool.true_and, Bool.true_and]
            exact hn
        · rw [decide_eq_true_eq] at h4
          rw [decide_eq_false (fun h7 => h4 h7.2.2)]; exact Ev.now _
    · rw [decide_eq_true_eq] at h2
      rw [decide_eq_false (fun h7 => h2 h7.1)]; exact Ev.now _
theorem spec_DiskOk_ev (l : List S45) (hl : l.length ≤ 2097152) : Ev (fun k => spec_DiskOk.f k l) (diskOkB (l.map pf)) := by
  unfold spec_DiskOk.f diskOkB
  rw [List.length_map]
  refine Ev.ite (fun h => ?_) (fun h => ?_)
  · rw [decide_eq_false (by omega), Bool.false_and]; exact Ev.now _
  · rw [decide_eq_true (show (l.length : Int) ≤ 30 by omega), Bool.true_and]
    exact spec_DiskOk_l0 l hl l.length 0 none (by omega) (fun _ => rfl) (fun h => by omega)

theorem impl_DiskOk_l0 (l : List S45) (hl : l.length ≤ 2097152) : ∀ (d i : Nat) (p : Option ByteArray), i + d = l.length → (i = 0 → p = none) → (0 < i → p = some (rd_T45 l ((i : Int) - 1)).f0) →
    Ev (fun k => impl_DiskOk.l0 k l (l.length : Int) (i : Int) l) (diskOkL p ((l.drop i).map pf) && decide ((l.length : Int) ≤ 30)) := by
  intro d
  induction d with
  | zero =>
    intro i p hi h0 h1
    refine Ev.step (impl_DiskOk.l0.eq_2 l (l.length : Int) (i : Int) l) (Ev.no (by omega) (Ev.const ?_))
    rw [List.drop_eq_nil_of_le (by omega)]; rfl
  | succ d ih =>
    intro i p hi h0 h1
    have hlt : i < l.length := by omega
    obtain ⟨x, hx⟩ : ∃ x, x = rd_T45 l (i : Int) := ⟨_, rfl⟩
    have e : x = l[i] := hx.trans (rd45_at l i hlt)
    have hn : Ev (fun k => impl_DiskOk.l0 k l (l.length : Int) ((i + 1 : Nat) : Int) l) (diskOkL (some x.f0) ((l.drop (i + 1)).map pf) && decide ((l.length : Int) ≤ 30)) := by
      refine ih (i + 1) (some x.f0) (by omega) (fun h => by omega) (fun _ => ?_)
      have e3 : (((i + 1 : Nat) : Int) - 1) = (i : Int) := by omega
      rw [e3, ← hx]
    have hd : diskOkL p ((l.drop i).map pf) = (decide ((1 ≤ (x.f0.size : Int) ∧ (x.f0.size : Int) ≤ 8) ∧ (x.f1.size : Int) ≤ 20000 ∧ (0 ≤ x.f2 ∧ x.f2 ≤ (x.f1.size : Int))) && ordB p x.f0 && diskOkL (some x.f0) ((l.drop (i + 1)).map pf)) := by
      rw [List.drop_eq_getElem_cons hlt, ← e]; rfl
    have e2 : wrap64 ((i : Int) + 1) = ((i + 1 : Nat) : Int) := by rw [w64 (by omega) (by omega)]; omega
    refine Ev.step (impl_DiskOk.l0.eq_2 l (l.length : Int) (i : Int) l) ?_
    rw [e2, ← hx, hd]
    clear e2 e ih hd
    have hz : 0 < i → wrap64 ((i : Int) - 1) = (i : Int) - 1 := fun h => w64 (by omega) (by omega)
    refine Ev.yes (by omega) (Ev.yes (by omega) (Ev.yes (by omega) (Ev.bindc (impl_within_ev _ _ _) ?_)))
    refine Ev.ite (fun h2 => ?_) (fun h2 => ?_)
    · rw [decide_eq_true_eq] at h2
      refine Ev.ite (fun h3 => ?_) (fun h3 => ?_)
      · rw [decide_eq_false (fun h7 => by omega)]; exact Ev.now _
      · refine Ev.bindc (impl_within_ev _ _ _) ?_
        refine Ev.ite (fun h4 => ?_) (fun h4 => ?_)
        · rw [decide_eq_true_eq] at h4
          refine Ev.ite (fun h5 => ?_) (fun h5 => ?_)
          · rw [hz (by omega)]
            rw [h1 (by omega)]
            have eo : ∀ q : ByteArray, ordB (some q) x.f0 = Op.bytesLess q.toList x.f0.toList := fun _ => rfl
            rw [eo]
            clear hz
            refine Ev.yes (by omega) (Ev.yes (by omega) ?_)
            rw [decide_eq_true (show (1 ≤ (x.f0.size : Int) ∧ (x.f0.size : Int) ≤ 8) ∧ (x.f1.size : Int) ≤ 20000 ∧ (0 ≤ x.f2 ∧ x.f2 ≤ (x.f1.size : Int)) from ⟨h2, by omega, h4⟩), Bool.true_and]
            refine Ev.ite (fun h6 => ?_) (fun h6 => ?_)
            · simp only [h6, Bool.true_and]; exact hn
            · rw [Bool.not_eq_true] at h6
              simp only [h6, Bool.false_and]; exact Ev.now _
          · clear hz
            rw [h0 (by omega), show ordB none x.f0 = true from rfl]
            rw [decide_eq_true (show (1 ≤ (x.f0.size : Int) ∧ (x.f0.size : Int) ≤ 8) ∧ (x.f1.size : Int) ≤ 20000 ∧ (0 ≤ x.f2 ∧ x.f2 ≤ (x.f1.size : Int)) from ⟨h2, by omega, h4⟩), Bool.true_and, Bool.true_and]
            exact hn
        · rw [decide_eq_true_eq] at h4
          rw [decide_eq_false (fun h7 => h4 h7.2.2)]; exact Ev.now _
    · rw [decide_eq_true_eq] at h2
      rw [decide_eq_false (fun h7 => h2 h7.1)]; exact Ev.now _
theorem impl_DiskOk_ev (l : List S45) (hl : l.length ≤ 2097152) : Ev (fun k => impl_DiskOk.f k l) (diskOkB (l.map pf)) := by
  have := impl_DiskOk_l0 l hl l.length 0 none (by omega) (fun _ => rfl) (fun h => by omega)
  unfold diskOkB
  rw [List.length_map, Bool.and_comm]
  exact this

/-- some text for each number, whatever it is -/
theorem laws_markText_l0 : ∀ (n : Nat) (s : ByteArray), n < 9223372036854775808 → s.size + n ≤ 9223372036854775800 → ∃ t, Ev (fun k => laws_markText.l0 k (n : Int) s) t := by
  intro n
  induction n using Nat.strongRecOn with
  | _ n ih =>
    intro s hn hs
    by_cases h : n = 0
    · subst h
      refine ⟨(⟨#[109]⟩ : ByteArray) ++ s, Ev.step (laws_markText.l0.eq_2 _ s) ?_⟩
      exact Ev.no (by omega) (Ev.yes (by omega) (Ev.now _))
    · have e1 : wrap64 (Int.tdiv (n : Int) 10) = ((n / 10 : Nat) : Int) := by rw [td10, w64] <;> omega
      obtain ⟨t, ht⟩ := ih (n / 10) (by omega) (strOfNums [wrap64 (48 + Int.tmod (n : Int) 10) % 256] ++ s) (by omega) (by rw [size_append, size_nums, List.length_singleton]; omega)
      refine ⟨t, Ev.step (laws_markText.l0.eq_2 _ s) ?_⟩
      refine Ev.yes (by omega) (Ev.bindc rfl (Ev.yes (by rw [size_nums, List.length_singleton]; omega) ?_))
      rw [e1]
      exact ht
theorem laws_markText_ev (n : Int) (h0 : n < 1000000000000000) : ∃ t, Ev (fun k => laws_markText.f k n) t := by
  unfold laws_markText.f
  by_cases h : n ≤ 0
  · exact ⟨_, Ev.yes h (Ev.now _)⟩
  · obtain ⟨m, rfl⟩ := Int.eq_ofNat_of_zero_le (show 0 ≤ n by omega)
    obtain ⟨t, ht⟩ := laws_markText_l0 m (⟨#[]⟩ : ByteArray) (by omega) (by show 0 + m ≤ _; omega)
    exact ⟨t, Ev.no h ht⟩

theorem rd45_set (xs : List S45) (i : Nat) (v : S45) (h : i < xs.length) : rd_T45 (xs.set i v) (i : Int) = v := by
  unfold rd_T45
  rw [Int.toNat_natCast, List.getD_eq_getElem?_getD, List.getElem?_set_self h]; rfl
def Marked (ys : List S45) (i : Nat) (m : Int) : Prop :=
  Ev (fun k => laws_markText.f k m) (rd_T45 ys (i : Int)).f0 ∧ Ev (fun k => laws_markText.f k (m + 1)) (rd_T45 ys (i : Int)).f1 ∧ (rd_T45 ys (i : Int)).f2 = m + 2
theorem laws_markFileS_l0 : ∀ (d i : Nat) (xs : List S45) (m : Int), i + d = xs.length → xs.length ≤ 2097152 → 0 ≤ m → m + 3 * d ≤ 1000000000000 →
    ∃ ys : List S45, Ev (fun k => laws_markFileS.l0 k xs m (i : Int)) (m + 3 * d, ys) ∧ ys.length = xs.length ∧ ys.take i = xs.take i ∧ (∀ j, j < d → Marked ys (i + j) (m + 3 * j)) := by
  intro d
  induction d with
  | zero =>
    intro i xs m hi hx h0 hm
    refine ⟨xs, Ev.step (laws_markFileS.l0.eq_2 xs m (i : Int)) (Ev.no (by omega) (Ev.const ?_)), rfl, rfl, fun j hj => by omega⟩
    simp
  | succ d ih =>
    intro i xs m hi hx h0 hm
    have hlt : i < xs.length := by omega
    obtain ⟨t0, ht0⟩ := laws_markText_ev m (by omega)
    obtain ⟨t1, ht1⟩ := laws_markText_ev (m + 1) (by omega)
    obtain ⟨v, hv⟩ : ∃ v : S45, v = ⟨t0, t1, m + 2⟩ := ⟨_, rfl⟩
    obtain ⟨ys, hy, hlen, htake, hall⟩ := ih (i + 1) (xs.set i v) (m + 3) (by rw [List.length_set]; omega) (by rw [List.length_set]; exact hx) (by omega) (by omega)
    rw [List.length_set] at hlen
    refine ⟨ys, Ev.step (laws_markFileS.l0.eq_2 xs m (i : Int)) ?_, hlen, ?_, ?_⟩
    · have w1 : wrap64 (m + 1) = m + 1 := w64 (by omega) (by omega)
      have w2 : wrap64 (m + 1 + 1) = m + 2 := by rw [w64 (by omega) (by omega)]; omega
      have w3 : wrap64 (m + 2 + 1) = m + 3 := by rw [w64 (by omega) (by omega)]; omega
      have w4 : wrap64 ((i : Int) + 1) = ((i + 1 : Nat) : Int) := by rw [w64 (by omega) (by omega)]; omega
      rw [w1, w2, w3, w4]
      clear w1 w2 w3 w4
      refine Ev.yes (by omega) (Ev.bind ht0 (Ev.yes (by omega) (Ev.bindc rfl (Ev.bind ht1 (Ev.bindc rfl ?_)))))
      simp only [Int.toNat_natCast, List.set_set, rd45_set xs i _ hlt]
      rw [← hv]
      have e : m + 3 + 3 * (d : Int) = m + 3 * ((d + 1 : Nat) : Int) := by omega
      rw [e] at hy
      exact hy
    · have h1 := congrArg (List.take i) htake
      rw [List.take_take, List.take_take, Nat.min_eq_left (by omega), List.take_set_of_le (Nat.le_refl i)] at h1
      exact h1
    · intro j hj
      cases j with
      | zero =>
        have e : rd_T45 ys (i : Int) = v := by
          have h1 := congrArg (fun l => l[i]?) htake
          change (ys.take (i + 1))[i]? = ((xs.set i v).take (i + 1))[i]? at h1
          rw [List.getElem?_take_of_lt (by omega), List.getElem?_take_of_lt (by omega), List.getElem?_set_self hlt] at h1
          unfold rd_T45
          rw [Int.toNat_natCast, List.getD_eq_getElem?_getD, h1]; rfl
        unfold Marked
        rw [Nat.add_zero, e, hv]
        have e0 : m + 3 * ((0 : Nat) : Int) = m := by omega
        rw [e0]
        exact ⟨ht0, ht1, rfl⟩
      | succ j =>
        have h1 := hall j (by omega)
        have e1 : m + 3 * ((j + 1 : Nat) : Int) = m + 3 + 3 * (j : Int) := by omega
        have e2 : i + (j + 1) = i + 1 + j := by omega
        rw [e1, e2]
        exact h1
theorem laws_heldFileS_l0 : ∀ (d i : Nat) (ys : List S45) (m : Int), i + d = ys.length → ys.length ≤ 2097152 → 0 ≤ m → m + 3 * d ≤ 1000000000000 →
    (∀ j, j < d → Marked ys (i + j) (m + 3 * j)) → Ev (fun k => laws_heldFileS.l0 k ys m (i : Int)) (m + 3 * d) := by
  intro d
  induction d with
  | zero =>
    intro i ys m hi hx h0 hm _
    refine Ev.step (laws_heldFileS.l0.eq_2 ys m (i : Int)) (Ev.no (by omega) (Ev.const ?_))
    simp
  | succ d ih =>
    intro i ys m hi hx h0 hm hall
    have h1 := hall 0 (by omega)
    have e0 : m + 3 * ((0 : Nat) : Int) = m := by omega
    rw [Nat.add_zero, e0] at h1
    obtain ⟨a1, a2, a3⟩ := h1
    have w1 : wrap64 (m + 1) = m + 1 := w64 (by omega) (by omega)
    have w2 : wrap64 (m + 1 + 1) = m + 2 := by rw [w64 (by omega) (by omega)]; omega
    have w3 : wrap64 (m + 2 + 1) = m + 3 := by rw [w64 (by omega) (by omega)]; omega
    have w4 : wrap64 ((i : Int) + 1) = ((i + 1 : Nat) : Int) := by rw [w64 (by omega) (by omega)]; omega
    refine Ev.step (laws_heldFileS.l0.eq_2 ys m (i : Int)) ?_
    rw [w1, w2, w3, w4]
    clear w1 w2 w3 w4
    refine Ev.yes (by omega) (Ev.yes (by omega) (Ev.bind a1 (Ev.yes rfl (Ev.bind a2 (Ev.yes rfl (Ev.yes a3 ?_))))))
    have := ih (i + 1) ys (m + 3) (by omega) hx (by omega) (by omega) (fun j hj => by
      have h2 := hall (j + 1) (by omega)
      have e1 : m + 3 * ((j + 1 : Nat) : Int) = m + 3 + 3 * (j : Int) := by omega
      have e2 : i + (j + 1) = i + 1 + j := by omega
      rw [e1, e2] at h2
      exact h2)
    have e : m + 3 + 3 * (d : Int) = m + 3 * ((d + 1 : Nat) : Int) := by omega
    rw [e] at this
    exact this
theorem markdisk_ev (xs : List S45) (m : Int) (hx : xs.length ≤ 2097152) (h0 : 0 ≤ m) (hm : m ≤ 100000000000) :
    ∃ (ys : List S45) (n : Int), Ev (fun k => laws_markDisk.f k xs m) (n, ys) ∧ ys.length = xs.length ∧ m ≤ n ∧ n ≤ m + 6291456 ∧ Ev (fun k => laws_heldDisk.f k ys m) n := by
  obtain ⟨ys, h1, h2, _, h4⟩ := laws_markFileS_l0 xs.length 0 xs m (by omega) hx h0 (by omega)
  refine ⟨ys, m + 3 * xs.length, ?_, h2, by omega, by omega, ?_⟩
  · unfold laws_markDisk.f
    have h5 : Ev (fun k => laws_markFileS.f k xs m) (m + 3 * (xs.length : Int), ys) := h1
    exact Ev.bind h5 (Ev.now _)
  · have h3 := laws_heldFileS_l0 xs.length 0 ys m (by omega) (by omega) h0 (by omega) h4
    unfold laws_heldDisk.f
    have h5 : Ev (fun k => laws_heldFileS.f k ys m) (m + 3 * (xs.length : Int)) := h3
    exact Ev.bind h5 (Ev.no (by omega) (Ev.now _))

theorem laws_toIntS_l0 (l : List Int) (hl : l.length ≤ 1048576) : ∀ (d i : Nat) (ys : List Int), i + d = l.length → ys.length = l.length → ys.take i = l.take i → Ev (fun k => laws_toIntS.l0 k l ys (i : Int)) l := by
  intro d
  induction d with
  | zero =>
    intro i ys hi hy ht
    refine Ev.step (laws_toIntS.l0.eq_2 l ys (i : Int)) (Ev.no (by omega) (Ev.const ?_))
    rw [List.take_of_length_le (by omega), List.take_of_length_le (by omega)] at ht
    rw [ht]
  | succ d ih =>
    intro i ys hi hy ht
    have hlt : i < l.length := by omega
    have hlt2 : i < ys.length := by omega
    have e : rd l (i : Int) = l[i] := by
      unfold rd
      rw [Int.toNat_natCast, List.getD_eq_getElem?_getD, List.getElem?_eq_getElem hlt]; rfl
    refine Ev.step (laws_toIntS.l0.eq_2 l ys (i : Int)) (Ev.yes (by omega) (Ev.yes (by omega) (Ev.yes (by omega) ?_)))
    rw [e, Int.toNat_natCast, w64 (by omega) (by omega)]
    refine ih (i + 1) _ (by omega) (by rw [List.length_set]; exact hy) ?_
    rw [take_set_next ys i _ hlt2, ht, List.take_succ_eq_append_getElem hlt]
theorem laws_toIntS_ev (l : List Int) (hl : l.length ≤ 1048576) : Ev (fun k => laws_toIntS.f k l) l := by
  unfold laws_toIntS.f
  exact Ev.yes (by omega) (Ev.yes (by omega) (laws_toIntS_l0 l hl l.length 0 _ (by omega) (by rw [List.length_replicate]; omega) (by simp)))
theorem laws_eqIntS_l0 (l : List Int) (hl : l.length ≤ 1048576) : ∀ (d i : Nat), i + d = l.length → Ev (fun k => laws_eqIntS.l0 k l l (i : Int)) true := by
  intro d
  induction d with
  | zero =>
    intro i hi
    exact Ev.step (laws_eqIntS.l0.eq_2 l l (i : Int)) (Ev.no (by omega) (Ev.now _))
  | succ d ih =>
    intro i hi
    refine Ev.step (laws_eqIntS.l0.eq_2 l l (i : Int)) (Ev.yes (by omega) (Ev.yes (by omega) (Ev.yes (by omega) (Ev.yes rfl ?_))))
    rw [w64 (by omega) (by omega)]
    exact ih (i + 1) (by omega)
theorem laws_eqIntS_ev (l : List Int) (hl : l.length ≤ 1048576) : Ev (fun k => laws_eqIntS.f k l l) true := by
  unfold laws_eqIntS.f
  exact Ev.yes rfl (laws_eqIntS_l0 l hl l.length 0 (by omega))
theorem laws_markIntS_l0 : ∀ (d i : Nat) (xs : List Int) (m : Int), i + d = xs.length → xs.length ≤ 1048576 → 0 ≤ m → m + d ≤ 1000000000000 → ∃ ys : List Int, Ev (fun k => laws_markIntS.l0 k xs m (i : Int)) (m + d, ys) := by
  intro d
  induction d with
  | zero =>
    intro i xs m hi hx h0 hm
    refine ⟨xs, Ev.step (laws_markIntS.l0.eq_2 xs m (i : Int)) (Ev.no (by omega) (Ev.const ?_))⟩
    simp
  | succ d ih =>
    intro i xs m hi hx h0 hm
    obtain ⟨ys, hy⟩ := ih (i + 1) (xs.set i m) (m + 1) (by rw [List.length_set]; omega) (by rw [List.length_set]; exact hx) (by omega) (by omega)
    refine ⟨ys, Ev.step (laws_markIntS.l0.eq_2 xs m (i : Int)) (Ev.yes (by omega) (Ev.yes (by omega) ?_))⟩
    rw [w64 (x := m + 1) (by omega) (by omega), w64 (x := (i : Int) + 1) (by omega) (by omega), Int.toNat_natCast]
    have e : m + 1 + (d : Int) = m + ((d + 1 : Nat) : Int) := by omega
    rw [e] at hy
    exact hy
theorem laws_markIntS_ev (xs : List Int) (m : Int) (hx : xs.length ≤ 1048576) (h0 : 0 ≤ m) (hm : m ≤ 100000000000) : ∃ (ys : List Int) (n : Int), Ev (fun k => laws_markIntS.f k xs m) (n, ys) ∧ m ≤ n ∧ n ≤ m + 1048576 := by
  obtain ⟨ys, h⟩ := laws_markIntS_l0 xs.length 0 xs m (by omega) hx h0 (by omega)
  exact ⟨ys, _, h, by omega, by omega⟩

/-- how many bytes are left of the file at place i -/
def loseN (left : List Int) (i : Nat) (x : S45) : Int := mx x.f2 (mn (if (i : Int) < (left.length : Int) then rd left (i : Int) else 0) (x.f1.size : Int))
def loseS (left : List Int) (i : Nat) (x : S45) : S45 := ⟨x.f0, x.f1.extract 0 (loseN left i x).toNat, loseN left i x⟩
def loseL (left : List Int) : Nat → List S45 → List S45
  | _, [] => []
  | i, x :: l => loseS left i x :: loseL left (i + 1) l
theorem loseL_length (left : List Int) : ∀ (l : List S45) (i : Nat), (loseL left i l).length = l.length
  | [], _ => rfl
  | x :: l, i => by simp [loseL, loseL_length left l (i + 1)]
theorem loseL_get (left : List Int) : ∀ (l : List S45) (i j : Nat) (h : j < l.length), (loseL left i l)[j]'(by rw [loseL_length]; exact h) = loseS left (i + j) l[j]
  | [], _, _, h => by simp at h
  | x :: l, i, 0, _ => rfl
  | x :: l, i, j + 1, h => by
    have := loseL_get left l (i + 1) j (by simpa using h)
    simp only [loseL, List.getElem_cons_succ]
    rw [this]; congr 1; omega
theorem loseN_range (left : List Int) (i : Nat) (x : S45) (h0 : 0 ≤ x.f2) (h1 : x.f2 ≤ (x.f1.size : Int)) : 0 ≤ loseN left i x ∧ loseN left i x ≤ (x.f1.size : Int) := by
  unfold loseN mx mn
  generalize (if (i : Int) < (left.length : Int) then rd left (i : Int) else 0) = m
  split <;> split at * <;> omega
def Kept (l : List S45) : Prop := ∀ f ∈ l.map pf, 0 ≤ f.k ∧ f.k ≤ (f.t.size : Int)
def loseOut (l : List S45) (left : List Int) : List S45 × Bool := if diskOkB (l.map pf) = true then (loseL left 0 l, true) else ([], false)

theorem spec_LoseDisk_l0 (l : List S45) (left : List Int) (hl : l.length ≤ 2097152) (hok : Kept l) : ∀ (d i : Nat) (acc : List S45), i + d = l.length → acc.length = i →
    Ev (fun k => spec_LoseDisk.l0 k left (i : Int) l acc) (acc ++ loseL left i (l.drop i), true) := by
  intro d
  induction d with
  | zero =>
    intro i acc hi ha
    refine Ev.step (spec_LoseDisk.l0.eq_2 left (i : Int) l acc) (Ev.no (by omega) (Ev.const ?_))
    rw [List.drop_eq_nil_of_le (by omega)]; simp [loseL]
  | succ d ih =>
    intro i acc hi ha
    have hlt : i < l.length := by omega
    obtain ⟨x, hx⟩ : ∃ x, x = rd_T45 l (i : Int) := ⟨_, rfl⟩
    have e : x = l[i] := hx.trans (rd45_at l i hlt)
    have hk := hok (pf l[i]) (List.mem_map_of_mem (List.getElem_mem hlt))
    rw [← e] at hk
    have hk' : 0 ≤ x.f2 ∧ x.f2 ≤ (x.f1.size : Int) := hk
    have hnext : Ev (fun k => spec_LoseDisk.l0 k left ((i + 1 : Nat) : Int) l (acc ++ [loseS left i x])) (acc ++ loseL left i (l.drop i), true) := by
      have := ih (i + 1) (acc ++ [loseS left i x]) (by omega) (by rw [List.length_append, List.length_singleton, ha])
      rw [List.drop_eq_getElem_cons hlt, ← e]
      rw [List.append_assoc] at this
      exact this
    have hj : ∀ m : Int, m = (if (i : Int) < (left.length : Int) then rd left (i : Int) else 0) → Ev (fun k => spec_LoseDisk.j1 k left (i : Int) m l acc x.f0 x.f1 x.f2) (acc ++ loseL left i (l.drop i), true) := by
      intro m hm
      have en : loseN left i x = mx x.f2 (mn m (x.f1.size : Int)) := by unfold loseN; rw [← hm]
      have w4 : wrap64 ((i : Int) + 1) = ((i + 1 : Nat) : Int) := by rw [w64 (by omega) (by omega)]; omega
      refine Ev.step (spec_LoseDisk.j1.eq_2 left (i : Int) m l acc x.f0 x.f1 x.f2) ?_
      rw [w4]
      clear w4
      have fin : ∀ n : Int, n = loseN left i x → Ev (fun k => spec_LoseDisk.l0 k left ((i + 1 : Nat) : Int) l (acc ++ [(⟨x.f0, x.f1.extract 0 n.toNat, n⟩ : S45)])) (acc ++ loseL left i (l.drop i), true) := by
        rintro n rfl; exact hnext
      clear hnext ih hm
      refine Ev.ite (fun h => ?_) (fun h => ?_)
      · have e1 : mn m (x.f1.size : Int) = (x.f1.size : Int) := by unfold mn; rw [if_pos (by omega)]
        rw [e1] at en
        refine Ev.ite (fun h2 => ?_) (fun h2 => ?_)
        · omega
        · refine Ev.yes (by omega) (Ev.yes (by omega) (Ev.yes (by omega) (fin _ ?_)))
          rw [en]; unfold mx; split <;> omega
      · have e1 : mn m (x.f1.size : Int) = m := by
          unfold mn; split <;> omega
        rw [e1] at en
        refine Ev.ite (fun h2 => ?_) (fun h2 => ?_)
        · refine Ev.yes (by omega) (Ev.yes (by omega) (Ev.yes (by omega) (fin _ ?_)))
          rw [en]; unfold mx; split <;> omega
        · refine Ev.yes (by omega) (Ev.yes (by omega) (Ev.yes (by omega) (fin _ ?_)))
          rw [en]; unfold mx; split <;> omega
    refine Ev.step (spec_LoseDisk.l0.eq_2 left (i : Int) l acc) ?_
    rw [← hx]
    refine Ev.yes (by omega) (Ev.yes (by omega) ?_)
    refine Ev.ite (fun h => ?_) (fun h => ?_)
    · exact hj _ (by rw [if_pos h])
    · exact hj _ (by rw [if_neg h])
theorem spec_LoseDisk_ev (l : List S45) (left : List Int) (hl : l.length ≤ 2097152) : Ev (fun k => spec_LoseDisk.f k l left) (loseOut l left) := by
  unfold spec_LoseDisk.f loseOut
  refine Ev.bind (spec_DiskOk_ev l hl) ?_
  refine Ev.ite (fun h => ?_) (fun h => ?_)
  · rw [if_pos h]
    have h' := h
    simp only [diskOkB, Bool.and_eq_true] at h'
    have := spec_LoseDisk_l0 l left hl (fun f hf => (diskOkL_mem h'.2 f hf).2.2) l.length 0 [] (by omega) rfl
    rw [List.drop_zero, List.nil_append] at this
    exact this
  · rw [if_neg h]; exact Ev.now _

theorem impl_LoseDisk_l0 (l : List S45) (left : List Int) (hl : l.length ≤ 2097152) (hok : Kept l) : ∀ (d i : Nat) (out : List S45), i + d = l.length → out.length = l.length → out.take i = (loseL left 0 l).take i →
    Ev (fun k => impl_LoseDisk.l0 k left l (l.length : Int) (i : Int) out) (loseL left 0 l, true) := by
  intro d
  induction d with
  | zero =>
    intro i out hi ho ht
    refine Ev.step (impl_LoseDisk.l0.eq_2 left l (l.length : Int) (i : Int) out) (Ev.no (by omega) (Ev.const ?_))
    rw [List.take_of_length_le (by omega), List.take_of_length_le (by rw [loseL_length]; omega)] at ht
    rw [ht]
  | succ d ih =>
    intro i out hi ho ht
    have hlt : i < l.length := by omega
    have hlt2 : i < out.length := by omega
    obtain ⟨x, hx⟩ : ∃ x, x = rd_T45 l (i : Int) := ⟨_, rfl⟩
    have e : x = l[i] := hx.trans (rd45_at l i hlt)
    have hk := hok (pf l[i]) (List.mem_map_of_mem (List.getElem_mem hlt))
    rw [← e] at hk
    have hk' : 0 ≤ x.f2 ∧ x.f2 ≤ (x.f1.size : Int) := hk
    have hr := loseN_range left i x hk'.1 hk'.2
    have hnext : Ev (fun k => impl_LoseDisk.l0 k left l (l.length : Int) ((i + 1 : Nat) : Int) (out.set i (loseS left i x))) (loseL left 0 l, true) := by
      refine ih (i + 1) _ (by omega) (by rw [List.length_set]; exact ho) ?_
      rw [take_set_next out i _ hlt2, ht, List.take_succ_eq_append_getElem (by rw [loseL_length]; exact hlt), loseL_get left l 0 i hlt, Nat.zero_add, e]
    have w4 : wrap64 ((i : Int) + 1) = ((i + 1 : Nat) : Int) := by rw [w64 (by omega) (by omega)]; omega
    refine Ev.step (impl_LoseDisk.l0.eq_2 left l (l.length : Int) (i : Int) out) ?_
    rw [w4, ← hx]
    clear w4
    refine Ev.yes (by omega) (Ev.yes (by omega) (Ev.yes (by omega) ?_))
    rw [Int.toNat_natCast]
    refine Ev.ite (fun h => ?_) (fun h => ?_)
    · have en : mx x.f2 (mn (rd left (i : Int)) (x.f1.size : Int)) = loseN left i x := by unfold loseN; rw [if_pos h]
      rw [en]
      exact Ev.yes hr.1 (Ev.yes hr.2 (Ev.yes (by omega) hnext))
    · have en : x.f2 = loseN left i x := by
        unfold loseN; rw [if_neg h]; unfold mx mn
        split <;> split at * <;> omega
      refine Ev.yes hk'.1 (Ev.yes hk'.2 (Ev.yes (by omega) ?_))
      have es : (⟨x.f0, x.f1.extract 0 x.f2.toNat, x.f2⟩ : S45) = loseS left i x := by unfold loseS; rw [← en]
      rw [es]
      exact hnext
theorem impl_LoseDisk_ev (l : List S45) (left : List Int) (hl : l.length ≤ 2097152) : Ev (fun k => impl_LoseDisk.f k l left) (loseOut l left) := by
  unfold impl_LoseDisk.f loseOut
  refine Ev.bind (impl_DiskOk_ev l hl) ?_
  refine Ev.ite (fun h => ?_) (fun h => ?_)
  · rw [if_pos h]
    have h' := h
    simp only [diskOkB, Bool.and_eq_true] at h'
    have hc : impl_copyDisk.f l = some l := by
      unfold impl_copyDisk.f
      simp only [Option.bind_some, List.length_nil, List.nil_append]
      rw [if_pos (by omega)]
    refine Ev.bindc hc ?_
    exact impl_LoseDisk_l0 l left hl (fun f hf => (diskOkL_mem h'.2 f hf).2.2) l.length 0 l (by omega) rfl (by simp)
  · rw [if_neg h]; exact Ev.now _

theorem loseOut_len (l : List S45) (left : List Int) (hl : l.length ≤ 2097152) : (loseOut l left).1.length ≤ 2097152 := by
  unfold loseOut
  split
  · rw [loseL_length]; exact hl
  · simp
theorem FnExactLoseDisk : ∀ (l0 : List S94) (l1 : List Int), l0.length ≤ 9223372036854775807 → (∀ x ∈ l0, x.f0.size ≤ maxLen ∧ x.f1.size ≤ maxLen ∧ (Lit.int .i64 x.f2).wf = true) → l1.length ≤ maxLen → (∀ x ∈ l1, (Lit.int .i64 x).wf = true) → ∃ k, laws_FnExactLoseDisk.f k l0 l1 = some true := by
  intro l left hl hw hll _
  apply Ev.rounds
  unfold laws_FnExactLoseDisk.f
  refine Ev.ite (fun _ => Ev.now _) (fun h0 => ?_)
  have hlf : left.length ≤ 1048576 := by omega
  obtain ⟨r, hr, h2⟩ := laws_szDisk_ev l 1048576 (by omega) (by omega) hl (fun x hx => by have := hw x hx; unfold maxLen at this; omega)
  refine Ev.bind hr ?_
  refine Ev.ite (fun _ => Ev.now _) (fun h3 => ?_)
  rcases h2 with h2 | ⟨-, -, hs⟩
  · exact absurd h2 h3
  have hm : (l.map to45).length ≤ 2097152 := by rw [List.length_map]; have := hs.1; omega
  have ht := laws_toDisk_ev l hs.1
  have hi := laws_toIntS_ev left hlf
  have hsp := spec_LoseDisk_ev (l.map to45) left hm
  have him := impl_LoseDisk_ev (l.map to45) left hm
  have hol := loseOut_len (l.map to45) left hm
  have heq := laws_eqDisk_ev _ hol
  have heq0 := laws_eqDisk_ev _ hm
  obtain ⟨ys, n, e1, e2, e3, e4, -⟩ := markdisk_ev (l.map to45) 1 hm (by omega) (by omega)
  obtain ⟨zs, n2, f1, f2, f3⟩ := laws_markIntS_ev left n hlf (by omega) (by omega)
  obtain ⟨us, m, g1, g2, g3, g4, g5⟩ := markdisk_ev (loseOut (l.map to45) left).1 1 hol (by omega) (by omega)
  refine Ev.bind ht (Ev.bind hi (Ev.bind hsp (Ev.bind ht (Ev.bind hi (Ev.bind him (Ev.bind heq (Ev.yes rfl ?_)))))))
  refine Ev.step (laws_FnExactLoseDisk.j0.eq_2 _ _ _ _ _ _ _ _ _) (Ev.no (by simp) ?_)
  refine Ev.bind ht (Ev.bind heq0 (Ev.yes rfl (Ev.bind hi (Ev.bind (laws_eqIntS_ev left hlf) (Ev.yes rfl (Ev.bind e1 (Ev.bind f1 ?_)))))))
  refine Ev.no (by show ¬ n2 < 0; omega) (Ev.bind heq (Ev.yes rfl ?_))
  refine Ev.step (laws_FnExactLoseDisk.j1.eq_2 _ _ _ _ _ _) (Ev.no (by simp) ?_)
  refine Ev.bind g1 (Ev.bind g5 (Ev.no (by show ¬ m < 0; omega) (Ev.yes rfl ?_)))
  refine Ev.bind ht (Ev.bind hi (Ev.bind him (Ev.bind heq (Ev.yes rfl ?_))))
  refine Ev.step (laws_FnExactLoseDisk.j2.eq_2 _ _ _) (Ev.no (by simp) ?_)
  exact Ev.bind g5 (Ev.no (by show ¬ m < 0; omega) (Ev.yes rfl (Ev.now _)))

end Go.Proofs.Ytdiecogmaiglaaa.Pure
