/- FileAt returns what the reference returns, for every disk and every name; its argument stays as it was. No condition. -/
import Derived.Test.YtdiecogmaiglaaaDisk
import Derived.Test.YtdiecogmaiglaaaQFnExactFileAtx2
namespace Go.Proofs.Ytdiecogmaiglaaa.Pure
open Go.RowKit Go.Proofs.Ytdiecogmaiglaaa.PFnExactFileAt Go.Proofs.YtdiecogmaiglaaaW.PrintWords Go.Proofs.YtdiecogmaiglaaaW.PrintLast Go.Proofs.YtdiecogmaiglaaaW.PrintMore Go.Proofs.Ytdiecogmaiglaaa.Gen
set_option linter.unusedVariables false

def pf (x : S45) : Fl := ⟨x.f0, x.f1, x.f2⟩
def to45 (x : S94) : S45 := ⟨x.f0, x.f1, x.f2⟩
theorem rd45_at (l : List S45) (i : Nat) (h : i < l.length) : rd_T45 l (i : Int) = l[i] := by
  unfold rd_T45
  rw [Int.toNat_natCast, List.getD_eq_getElem?_getD, List.getElem?_eq_getElem h]; rfl
theorem rd94_at (l : List S94) (i : Nat) (h : i < l.length) : rd_T94 l (i : Int) = l[i] := by
  unfold rd_T94
  rw [Int.toNat_natCast, List.getD_eq_getElem?_getD, List.getElem?_eq_getElem h]; rfl
def Small (l : List S94) : Prop := l.length ≤ 1048576 ∧ ∀ x ∈ l, x.f0.size ≤ 1048576 ∧ x.f1.size ≤ 1048576
def szOut (x : S94) (n : Int) : Int := if n - (x.f0.size : Int) < 0 then -1 else if n - (x.f0.size : Int) - (x.f1.size : Int) < 0 then -1 else n - (x.f0.size : Int) - (x.f1.size : Int)
theorem laws_szFile_ev (x : S94) (n : Int) (ha : x.f0.size ≤ 9223372036854775807) (hb : x.f1.size ≤ 9223372036854775807) (h0 : 0 ≤ n) (hn : n ≤ 1048576) : laws_szFile.f x.f0 x.f1 x.f2 n = some (szOut x n) := by
  unfold laws_szFile.f szOut
  rw [w64 (x := n - (x.f0.size : Int)) (by omega) (by omega)]
  by_cases h1 : n - (x.f0.size : Int) < 0
  · rw [if_pos h1, if_pos h1]
  · rw [if_neg h1, if_neg h1, w64 (x := n - (x.f0.size : Int) - (x.f1.size : Int)) (by omega) (by omega)]
    split <;> rfl
theorem szOut_small (x : S94) (n : Int) (h0 : 0 ≤ n) (hn : n ≤ 1048576) : szOut x n ≤ 1048576 ∧ (szOut x n < 0 ∨ 0 ≤ szOut x n ∧ x.f0.size ≤ 1048576 ∧ x.f1.size ≤ 1048576) := by
  unfold szOut
  split
  · omega
  · split <;> omega
theorem laws_szFileS_l0 (l : List S94) (hl : l.length ≤ 1048576) (hs : ∀ x ∈ l, x.f0.size ≤ 9223372036854775807 ∧ x.f1.size ≤ 9223372036854775807) : ∀ (d i : Nat) (n : Int), i + d = l.length → 0 ≤ n → n ≤ 1048576 →
    ∃ r, Ev (fun k => laws_szFileS.l0 k l n (i : Int)) r ∧ (r < 0 ∨ 0 ≤ r ∧ r ≤ 1048576 ∧ ∀ x ∈ l.drop i, x.f0.size ≤ 1048576 ∧ x.f1.size ≤ 1048576) := by
  intro d
  induction d with
  | zero =>
    intro i n hi h0 hn
    refine ⟨n, Ev.step (laws_szFileS.l0.eq_2 l n (i : Int)) (Ev.no (by omega) (Ev.now _)), Or.inr ⟨h0, hn, ?_⟩⟩
    rw [List.drop_eq_nil_of_le (by omega)]
    intro x hx; cases hx
  | succ d ih =>
    intro i n hi h0 hn
    have hlt : i < l.length := by omega
    obtain ⟨x, hx⟩ : ∃ x, x = rd_T94 l (i : Int) := ⟨_, rfl⟩
    have e : x = l[i] := hx.trans (rd94_at l i hlt)
    have hs' := hs _ (List.getElem_mem hlt)
    rw [← e] at hs'
    have he := laws_szFile_ev x n hs'.1 hs'.2 h0 hn
    have hz := szOut_small x n h0 hn
    by_cases h1 : szOut x n < 0
    · refine ⟨-1, Ev.step (laws_szFileS.l0.eq_2 l n (i : Int)) (Ev.yes (by omega) (Ev.yes (by omega) ?_)), Or.inl (by omega)⟩
      rw [← hx]
      exact Ev.bindc he (Ev.yes h1 (Ev.now _))
    · obtain ⟨r, hr, h2⟩ := ih (i + 1) (szOut x n) (by omega) (by omega) hz.1
      refine ⟨r, Ev.step (laws_szFileS.l0.eq_2 l n (i : Int)) (Ev.yes (by omega) (Ev.yes (by omega) ?_)), ?_⟩
      · rw [← hx, w64 (by omega) (by omega)]
        exact Ev.bindc he (Ev.no h1 hr)
      · rcases h2 with h2 | ⟨h2, h3, h4⟩
        · exact Or.inl h2
        · refine Or.inr ⟨h2, h3, ?_⟩
          rw [List.drop_eq_getElem_cons hlt, ← e]
          intro y hy
          rcases List.mem_cons.1 hy with rfl | hy
          · rcases hz.2 with hz | hz
            · exact absurd hz h1
            · exact hz.2
          · exact h4 y hy
theorem laws_szDisk_ev (l : List S94) (n : Int) (h0 : 0 ≤ n) (hn : n ≤ 1048576) (hl : l.length ≤ 9223372036854775807) (hs : ∀ x ∈ l, x.f0.size ≤ 9223372036854775807 ∧ x.f1.size ≤ 9223372036854775807) :
    ∃ r, Ev (fun k => laws_szDisk.f k l n) r ∧ (r < 0 ∨ 0 ≤ r ∧ r ≤ 1048576 ∧ Small l) := by
  unfold laws_szDisk.f laws_szFileS.f
  rw [w64 (x := n - (l.length : Int)) (by omega) (by omega)]
  by_cases h1 : n - (l.length : Int) < 0
  · exact ⟨-1, Ev.bind (Ev.yes h1 (Ev.now _)) (Ev.yes (by omega) (Ev.now _)), Or.inl (by omega)⟩
  · obtain ⟨r, hr, h2⟩ := laws_szFileS_l0 l (by omega) hs l.length 0 (n - (l.length : Int)) (by omega) (by omega) (by omega)
    by_cases h3 : r < 0
    · exact ⟨-1, Ev.bind (Ev.no h1 hr) (Ev.yes h3 (Ev.now _)), Or.inl (by omega)⟩
    · refine ⟨r, Ev.bind (Ev.no h1 hr) (Ev.no h3 (Ev.now _)), ?_⟩
      rcases h2 with h2 | ⟨h2, h4, h5⟩
      · exact absurd h2 h3
      · exact Or.inr ⟨h2, h4, by omega, by rw [List.drop_zero] at h5; exact h5⟩
theorem laws_toFileS_l0 (l : List S94) (hl : l.length ≤ 1048576) : ∀ (d i : Nat) (ys : List S45), i + d = l.length → ys.length = l.length → ys.take i = (l.take i).map to45 → Ev (fun k => laws_toFileS.l0 k l ys (i : Int)) (l.map to45) := by
  intro d
  induction d with
  | zero =>
    intro i ys hi hy ht
    refine Ev.step (laws_toFileS.l0.eq_2 l ys (i : Int)) (Ev.no (by omega) (Ev.const ?_))
    rw [List.take_of_length_le (by omega), List.take_of_length_le (by omega)] at ht
    rw [ht]
  | succ d ih =>
    intro i ys hi hy ht
    have hlt : i < l.length := by omega
    have hlt2 : i < ys.length := by omega
    have e := rd94_at l i hlt
    refine Ev.step (laws_toFileS.l0.eq_2 l ys (i : Int)) (Ev.yes (by omega) (Ev.yes (by omega) (Ev.bindc rfl (Ev.yes (by omega) ?_))))
    rw [e, Int.toNat_natCast, w64 (by omega) (by omega)]
    refine ih (i + 1) _ (by omega) (by rw [List.length_set]; exact hy) ?_
    rw [take_set_next ys i _ hlt2, ht, List.take_succ_eq_append_getElem hlt, List.map_append]
    rfl
theorem laws_toDisk_ev (l : List S94) (hl : l.length ≤ 1048576) : Ev (fun k => laws_toDisk.f k l) (l.map to45) := by
  unfold laws_toDisk.f laws_toFileS.f
  refine Ev.bind (Ev.yes (by omega) (Ev.yes (by omega) (laws_toFileS_l0 l hl l.length 0 _ (by omega) (by rw [List.length_replicate]; omega) (by simp)))) (Ev.now _)
theorem laws_eqFileS_l0 (l : List S45) (hl : l.length ≤ 2097152) : ∀ (d i : Nat), i + d = l.length → Ev (fun k => laws_eqFileS.l0 k l l (i : Int)) true := by
  intro d
  induction d with
  | zero =>
    intro i hi
    exact Ev.step (laws_eqFileS.l0.eq_2 l l (i : Int)) (Ev.no (by omega) (Ev.now _))
  | succ d ih =>
    intro i hi
    have e : ∀ x : S45, laws_eqFile.f x.f0 x.f1 x.f2 x.f0 x.f1 x.f2 = some true := by
      intro x
      unfold laws_eqFile.f; rw [if_pos rfl, if_pos rfl, if_pos rfl]
    refine Ev.step (laws_eqFileS.l0.eq_2 l l (i : Int)) (Ev.yes (by omega) (Ev.yes (by omega) (Ev.yes (by omega) (Ev.bindc (e _) (Ev.yes rfl ?_)))))
    rw [w64 (by omega) (by omega)]
    exact ih (i + 1) (by omega)
theorem laws_eqDisk_ev (l : List S45) (hl : l.length ≤ 2097152) : Ev (fun k => laws_eqDisk.f k l l) true := by
  unfold laws_eqDisk.f laws_eqFileS.f
  exact Ev.bind (Ev.yes rfl (laws_eqFileS_l0 l hl l.length 0 (by omega))) (Ev.yes rfl (Ev.now _))

theorem find_range (a : ByteArray) : ∀ (l : List S45) (i : Int), impl_placeOf.find a l i = -1 ∨ (i ≤ impl_placeOf.find a l i ∧ impl_placeOf.find a l i < i + l.length)
  | [], i => .inl rfl
  | x :: r, i => by
    unfold impl_placeOf.find
    split
    · right; simp only [List.length_cons]; omega
    · rcases find_range a r (i + 1) with h | h
      · exact .inl h
      · right; simp only [List.length_cons]; omega
theorem spec_l03At_l0 (l : List S45) (hl : l.length ≤ 2097152) (a : ByteArray) : ∀ (d i : Nat), i + d = l.length → Ev (fun k => spec_l03At.l0 k a (i : Int) l) (impl_placeOf.find a (l.drop i) (i : Int)) := by
  intro d
  induction d with
  | zero =>
    intro i hi
    rw [List.drop_of_length_le (by omega)]
    exact Ev.step (spec_l03At.l0.eq_2 a i l) (Ev.no (by omega) (Ev.now _))
  | succ d ih =>
    intro i hi
    have hil : i < l.length := by omega
    rw [List.drop_eq_getElem_cons hil, impl_placeOf.find]
    refine Ev.step (spec_l03At.l0.eq_2 a i l) (Ev.yes (by omega) (Ev.yes (by omega) ?_))
    rw [rd45_at l i hil]
    refine Ev.ite (fun h => ?_) (fun h => ?_)
    · rw [if_pos h]; exact Ev.now _
    · rw [if_neg h, w64 (by omega) (by omega)]
      exact ih (i + 1) (by omega)
theorem spec_l03At_ev (l : List S45) (hl : l.length ≤ 2097152) (a : ByteArray) : Ev (fun k => spec_l03At.f k l a) (impl_placeOf.find a l 0) := by
  have := spec_l03At_l0 l hl a l.length 0 (by omega)
  rw [List.drop_zero] at this
  exact this
theorem fileAt_ev (l : List S45) (hl : l.length ≤ 2097152) (a : ByteArray) : ∃ r : ByteArray × Bool, Ev (fun k => spec_FileAt.f k l a) r ∧ impl_FileAt.f l a = some r := by
  have hr := find_range a l 0
  by_cases h : impl_placeOf.find a l 0 < 0
  · refine ⟨((⟨#[]⟩ : ByteArray), false), Ev.bind (spec_l03At_ev l hl a) (Ev.yes h (Ev.now _)), ?_⟩
    show (some (impl_placeOf.find a l 0)).bind _ = _
    simp only [Option.bind_some]
    rw [if_pos h]
  · refine ⟨((rd_T45 l (impl_placeOf.find a l 0)).f1, true), Ev.bind (spec_l03At_ev l hl a) (Ev.no h (Ev.yes (by omega) (Ev.yes (by omega) (Ev.now _)))), ?_⟩
    show (some (impl_placeOf.find a l 0)).bind _ = _
    simp only [Option.bind_some]
    rw [if_neg h, if_pos (by omega), if_pos (by omega)]

theorem FnExactFileAt : ∀ (l0 : List S94) (a1 : ByteArray), l0.length ≤ 9223372036854775807 → (∀ x ∈ l0, x.f0.size ≤ maxLen ∧ x.f1.size ≤ maxLen ∧ (Lit.int .i64 x.f2).wf = true) → a1.size ≤ 140737488351232 → ∃ k, laws_FnExactFileAt.f k l0 a1 = some true := by
  intro l a hl hw ha
  apply Ev.rounds
  unfold laws_FnExactFileAt.f
  refine Ev.ite (fun _ => Ev.now _) (fun _ => ?_)
  obtain ⟨r, hr, h2⟩ := laws_szDisk_ev l 1048576 (by omega) (by omega) hl (fun x hx => by have := hw x hx; unfold maxLen at this; omega)
  refine Ev.bind hr ?_
  refine Ev.ite (fun _ => Ev.now _) (fun h3 => ?_)
  rcases h2 with h2 | ⟨-, -, hs⟩
  · exact absurd h2 h3
  have hm : (l.map to45).length ≤ 2097152 := by rw [List.length_map]; have := hs.1; omega
  have ht := laws_toDisk_ev l hs.1
  obtain ⟨⟨t, b⟩, e1, e2⟩ := fileAt_ev (l.map to45) hm a
  refine Ev.bind ht (Ev.bind e1 (Ev.bind ht (Ev.bindc e2 (Ev.yes rfl ?_))))
  have hb : (b != b) = false := by cases b <;> rfl
  simp only [hb]
  exact Ev.step (laws_FnExactFileAt.j0.eq_2 false l (l.map to45)) (Ev.no (by simp) (Ev.bind ht (Ev.bind (laws_eqDisk_ev _ hm) (Ev.yes rfl (Ev.now _)))))

end Go.Proofs.Ytdiecogmaiglaaa.Pure
