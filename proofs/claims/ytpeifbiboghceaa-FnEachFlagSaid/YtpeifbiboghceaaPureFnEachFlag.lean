/- Each flag is as it was told, of its own, for every list of bytes. No condition. -/
import Derived.Test.YtpeifbiboghceaaGen
import Derived.Test.YtpeifbiboghceaaQFnEachFlagx2
namespace Go.Proofs.Ytpeifbiboghceaa.Pure
open Go.RowKit Go.Proofs.Ytpeifbiboghceaa.PFnEachFlag Go.Proofs.YtpeifbiboghceaaW.PrintWords Go.Proofs.YtpeifbiboghceaaW.PrintLast Go.Proofs.YtpeifbiboghceaaW.PrintMore Go.Proofs.Ytpeifbiboghceaa.Gen
set_option linter.unusedVariables false

/-! the reader of draws: whatever it tells, it is in its range -/
theorem spec_l01Byte_ev (b : List Int) (i h : Int) (hb : b.length ≤ 140737488351232) (hi : 0 ≤ i) : ∃ r i' h', spec_l01Byte.f b i h = some (r, i', h') ∧ (0 ≤ r ∧ r ≤ 255) ∧ 0 ≤ i' := by
  unfold spec_l01Byte.f
  by_cases hc : i < (b.length : Int)
  · rw [if_pos hc, if_pos hi, w64 (x := i + 1) (by omega) (by omega)]
    exact ⟨_, _, _, rfl, and_255 _, by omega⟩
  · rw [if_neg hc]
    exact ⟨_, _, _, rfl, and_255 _, hi⟩
theorem spec_l01Below_ev (b : List Int) (i h n : Int) (hb : b.length ≤ 140737488351232) (hi : 0 ≤ i) (hn : n ≤ 4294967296) : ∃ r i' h', spec_l01Below.f b i h n = some (r, i', h') ∧ (0 ≤ r ∧ (r < n ∨ n ≤ 0 ∧ r = 0)) ∧ 0 ≤ i' := by
  unfold spec_l01Below.f
  by_cases h0 : n ≤ 0
  · rw [if_pos h0]; exact ⟨_, _, _, rfl, ⟨by omega, Or.inr ⟨h0, rfl⟩⟩, hi⟩
  rw [if_neg h0]
  by_cases h1 : n ≤ 256
  · rw [if_pos h1]
    obtain ⟨r, i1, g1, e1, r1, j1⟩ := spec_l01Byte_ev b i h hb hi
    rw [e1]
    simp only [Option.bind_some]
    rw [if_neg (by omega)]
    have := tmod_range r n r1.1 (by omega)
    exact ⟨_, _, _, rfl, ⟨this.1, Or.inl this.2⟩, j1⟩
  · rw [if_neg h1]
    obtain ⟨x1, i1, g1, e1, r1, j1⟩ := spec_l01Byte_ev b i h hb hi
    obtain ⟨x2, i2, g2, e2, r2, j2⟩ := spec_l01Byte_ev b i1 g1 hb j1
    obtain ⟨x3, i3, g3, e3, r3, j3⟩ := spec_l01Byte_ev b i2 g2 hb j2
    obtain ⟨x4, i4, g4, e4, r4, j4⟩ := spec_l01Byte_ev b i3 g3 hb j3
    rw [e1]; simp only [Option.bind_some]
    rw [e2]; simp only [Option.bind_some]
    rw [e3]; simp only [Option.bind_some]
    rw [e4]; simp only [Option.bind_some]
    rw [if_neg (by omega)]
    have ew : 0 ≤ wrap64 ((wrap64 ((wrap64 ((wrap64 (x1 * 16777216)) + (wrap64 (x2 * 65536)))) + (wrap64 (x3 * 256)))) + x4) := by
      rw [w64 (x := x1 * 16777216) (by omega) (by omega), w64 (x := x2 * 65536) (by omega) (by omega), w64 (x := x3 * 256) (by omega) (by omega), w64 (x := x1 * 16777216 + x2 * 65536) (by omega) (by omega), w64 (x := x1 * 16777216 + x2 * 65536 + x3 * 256) (by omega) (by omega), w64 (by omega) (by omega)]
      omega
    have := tmod_range _ n ew (by omega)
    exact ⟨_, _, _, rfl, ⟨this.1, Or.inl this.2⟩, j4⟩
theorem spec_l01New_l0 (l : List Int) (hl : l.length ≤ 140737488351232) : ∀ (d : Nat) (i h : Int), 0 ≤ i → (l.length : Int) - i ≤ d → ∃ h', Ev (fun k => spec_l01New.l0 k l h i) (l, 0, h') := by
  intro d
  induction d with
  | zero =>
    intro i h h0 hd
    exact ⟨h, Ev.step (spec_l01New.l0.eq_2 l h i) (Ev.no (by omega) (Ev.now _))⟩
  | succ d ih =>
    intro i h h0 hd
    by_cases h1 : i < (l.length : Int)
    · by_cases h2 : i < 4000
      · obtain ⟨h', e⟩ := ih (i + 1) (Go.bits .and .i64 (wrap64 ((wrap64 ((wrap64 (h * 131)) + (wrap64 (rd l i)))) + 7)) 1073741823) (by omega) (by omega)
        refine ⟨h', Ev.step (spec_l01New.l0.eq_2 l h i) (Ev.yes h1 (Ev.yes h2 (Ev.yes h0 ?_)))⟩
        rw [w64 (x := i + 1) (by omega) (by omega)]
        exact e
      · exact ⟨h, Ev.step (spec_l01New.l0.eq_2 l h i) (Ev.yes h1 (Ev.no h2 (Ev.now _)))⟩
    · exact ⟨h, Ev.step (spec_l01New.l0.eq_2 l h i) (Ev.no h1 (Ev.now _))⟩
theorem spec_l01New_ev (l : List Int) (hl : l.length ≤ 140737488351232) : ∃ h, Ev (fun k => spec_l01New.f k l) (l, 0, h) := by
  obtain ⟨h, e⟩ := spec_l01New_l0 l hl l.length 0 (wrap64 (35201 + (l.length : Int))) (by omega) (by omega)
  exact ⟨h, e⟩

theorem spec_DrawPlaces_l0 (b : List Int) (hb : b.length ≤ 140737488351232) : ∀ (d : Nat) (j : Int) (xs : List Int) (i h : Int), j + d = 12 → 0 ≤ j → 0 ≤ i → (xs.length : Int) = j → (∀ x ∈ xs, 0 ≤ x ∧ x < 10000) →
    ∃ ps : List Int, Ev (fun k => spec_DrawPlaces.l0 k xs j b i h) ps ∧ ps.length = 12 ∧ ∀ x ∈ ps, 0 ≤ x ∧ x < 10000 := by
  intro d
  induction d with
  | zero =>
    intro j xs i h hj h0 hi hx hr
    exact ⟨xs, Ev.step (spec_DrawPlaces.l0.eq_2 xs j b i h) (Ev.no (by omega) (Ev.now _)), by omega, hr⟩
  | succ d ih =>
    intro j xs i h hj h0 hi hx hr
    obtain ⟨r, i1, h1, e1, r1, j1⟩ := spec_l01Below_ev b i h 10000 hb hi (by omega)
    obtain ⟨ps, e, hl, hp⟩ := ih (j + 1) (xs ++ [r]) i1 h1 (by omega) (by omega) j1 (by rw [List.length_append, List.length_singleton]; omega) (by
      intro x hx'
      rcases List.mem_append.1 hx' with hx' | hx'
      · exact hr x hx'
      · have := List.mem_singleton.1 hx'; omega)
    refine ⟨ps, Ev.step (spec_DrawPlaces.l0.eq_2 xs j b i h) (Ev.yes (by omega) (Ev.bindc e1 (Ev.yes (by omega) ?_))), hl, hp⟩
    rw [w64 (x := j + 1) (by omega) (by omega)]
    exact e
theorem spec_DrawPlaces_ev (l : List Int) (hl : l.length ≤ 140737488351232) : ∃ ps : List Int, Ev (fun k => spec_DrawPlaces.f k l) ps ∧ ps.length = 12 ∧ ∀ x ∈ ps, 0 ≤ x ∧ x < 10000 := by
  obtain ⟨h, e⟩ := spec_l01New_ev l hl
  obtain ⟨r, i1, h1, e1, -, j1⟩ := spec_l01Byte_ev l 0 h hl (by omega)
  obtain ⟨ps, e2, h2, h3⟩ := spec_DrawPlaces_l0 l hl 12 0 [] i1 h1 (by omega) (by omega) j1 rfl (by simp)
  exact ⟨ps, Ev.bind e (Ev.bindc e1 e2), h2, h3⟩

theorem all1024 : ∀ a b : Fin 32, laws_FnEachFlag.l0 12 (a.val : Int) (b.val : Int) 1 = some true := by decide +kernel
theorem more (a b : Int) : ∀ d k, laws_FnEachFlag.l0 k a b 1 = some true → laws_FnEachFlag.l0 (k + d) a b 1 = some true := by
  intro d
  induction d with
  | zero => intro k h; exact h
  | succ d ih => intro k h; exact laws_FnEachFlag.mono_l (k + d) a b 1 _ (ih k h)
theorem FnEachFlag : laws_FnEachFlag.Pure := by
  intro l hm hl hw
  apply Ev.rounds
  unfold laws_FnEachFlag.f
  refine Ev.bindc (show laws_big.f l = some (decide ((l.length : Int) > 1048576)) from rfl) (Ev.ite (fun _ => Ev.now _) (fun hbig => ?_))
  obtain ⟨ps, ep, lp, hp⟩ := spec_DrawPlaces_ev l (by omega)
  refine Ev.bind ep (Ev.yes (by omega) (Ev.yes (by omega) ?_))
  have g0 : 0 ≤ rd ps 0 ∧ rd ps 0 < 10000 := by
    have : rd ps 0 ∈ ps := by
      unfold rd
      rw [List.getD_eq_getElem?_getD, List.getElem?_eq_getElem (by omega), Option.getD_some]
      exact List.getElem_mem _
    exact hp _ this
  have g1 : 0 ≤ rd ps 1 ∧ rd ps 1 < 10000 := by
    have : rd ps 1 ∈ ps := by
      unfold rd
      rw [List.getD_eq_getElem?_getD, List.getElem?_eq_getElem (by show 1 < ps.length; omega), Option.getD_some]
      exact List.getElem_mem _
    exact hp _ this
  have t0 := tmod_range (rd ps 0) 32 g0.1 (by omega)
  have t1 := tmod_range (rd ps 1) 32 g1.1 (by omega)
  generalize Int.tmod (rd ps 0) 32 = u at t0 ⊢
  generalize Int.tmod (rd ps 1) 32 = v at t1 ⊢
  clear g0 g1
  obtain ⟨n, rfl⟩ : ∃ n : Fin 32, u = (n.val : Int) := ⟨⟨u.toNat, by omega⟩, by show u = ((u.toNat : Nat) : Int); omega⟩
  obtain ⟨m, rfl⟩ : ∃ n : Fin 32, v = (n.val : Int) := ⟨⟨v.toNat, by omega⟩, by show v = ((v.toNat : Nat) : Int); omega⟩
  refine ⟨12, fun k hk => ?_⟩
  have := more (n.val : Int) (m.val : Int) (k - 12) 12 (all1024 n m)
  rw [show 12 + (k - 12) = k by omega] at this
  exact this
end Go.Proofs.Ytpeifbiboghceaa.Pure
