/- Drawn acts, one after the other: each that succeeds does to its file what its kind says, and the parts of them answer as the reference does. For every list of bytes; no condition. -/
import Derived.Test.YtdiecogmaiglaaaDisk
import Derived.Test.YtdiecogmaiglaaaCopy
import Derived.Test.YtdiecogmaiglaaaQFnActsx21
namespace Go.Proofs.Ytdiecogmaiglaaa.Pure
open Go.RowKit Go.Proofs.Ytdiecogmaiglaaa.PFnActs Go.Proofs.YtdiecogmaiglaaaW.PrintWords Go.Proofs.YtdiecogmaiglaaaW.PrintLast Go.Proofs.YtdiecogmaiglaaaW.PrintMore Go.Proofs.Ytdiecogmaiglaaa.Gen
set_option linter.unusedVariables false

theorem spec_l01In_ev (a b c : Int) : spec_l01In.f a b c = some (decide (b ≤ a ∧ a ≤ c)) := by
  unfold spec_l01In.f
  by_cases h : a ≥ b
  · rw [if_pos h]; congr 1; simp; omega
  · rw [if_neg h]; congr 1; simp; omega

theorem impl_within_ev (a b c : Int) : impl_within.f a b c = some (decide (b ≤ a ∧ a ≤ c)) := by
  unfold impl_within.f
  by_cases h : a ≥ b
  · rw [if_pos h]; congr 1; simp; omega
  · rw [if_neg h]; congr 1; simp; omega

def pf (x : S45) : Fl := ⟨x.f0, x.f1, x.f2⟩
theorem rd45_at (l : List S45) (i : Nat) (h : i < l.length) : rd_T45 l (i : Int) = l[i] := by
  unfold rd_T45
  rw [Int.toNat_natCast, List.getD_eq_getElem?_getD, List.getElem?_eq_getElem h]; rfl
theorem spec_l03Name_ev (a : ByteArray) : spec_l03Name.f a = some (decide (1 ≤ (a.size : Int) ∧ (a.size : Int) ≤ 8)) := by unfold spec_l03Name.f; rw [spec_l01In_ev]; rfl
theorem spec_DiskOk_l0 (l : List S45) (hl : l.length ≤ 2097152) : ∀ (d i : Nat) (p : Option ByteArray), i + d = l.length → (i = 0 → p = none) → (0 < i → p = some (rd_T45 l ((i : Int) - 1)).f0) →
    Ev (fun k => spec_DiskOk.l0 k (i : Int) l) (diskOkL p ((l.drop i).map pf)) := by
  intro d
  induction d with
  | zero =>
    intro i p hi h0 h1
    refine Ev.step (spec_DiskOk.l0.eq_2 (i : Int) l) (Ev.no (by omega) (Ev.const ?_))
    rw [List.drop_eq_nil_of_le (by omega)]; rfl
  | succ d ih =>
    intro i p hi h0 h1
    have hlt : i < l.length := by omega
    obtain ⟨x, hx⟩ : ∃ x, x = rd_T45 l (i : Int) := ⟨_, rfl⟩
    have e : x = l[i] := hx.trans (rd45_at l i hlt)
    have hn : Ev (fun k => spec_DiskOk.l0 k ((i + 1 : Nat) : Int) l) (diskOkL (some x.f0) ((l.drop (i + 1)).map pf)) := by
      refine ih (i + 1) (some x.f0) (by omega) (fun h => by omega) (fun _ => ?_)
      have e3 : (((i + 1 : Nat) : Int) - 1) = (i : Int) := by omega
      rw [e3, ← hx]
    have hd : diskOkL p ((l.drop i).map pf) = (decide ((1 ≤ (x.f0.size : Int) ∧ (x.f0.size : Int) ≤ 8) ∧ (x.f1.size : Int) ≤ 20000 ∧ (0 ≤ x.f2 ∧ x.f2 ≤ (x.f1.size : Int))) && ordB p x.f0 && diskOkL (some x.f0) ((l.drop (i + 1)).map pf)) := by
      rw [List.drop_eq_getElem_cons hlt, ← e]; rfl
    have e2 : wrap64 ((i : Int) + 1) = ((i + 1 : Nat) : Int) := by rw [w64 (by omega) (by omega)]; omega
    refine Ev.step (spec_DiskOk.l0.eq_2 (i : Int) l) ?_
    rw [e2, ← hx, hd]
    clear e2 e ih hd
    have hz : 0 < i → wrap64 ((i : Int) - 1) = (i : Int) - 1 := fun h => w64 (by omega) (by omega)
    refine Ev.yes (by omega) (Ev.yes (by omega) (Ev.bindc (spec_l03Name_ev _) ?_))
    refine Ev.ite (fun h2 => ?_) (fun h2 => ?_)
    · rw [decide_eq_true_eq] at h2
      refine Ev.ite (fun h3 => ?_) (fun h3 => ?_)
      · rw [decide_eq_false (fun h7 => by omega)]; exact Ev.now _
      · refine Ev.bindc (spec_l01In_ev _ _ _) ?_
        refine Ev.ite (fun h4 => ?_) (fun h4 => ?_)
        · rw [decide_eq_true_eq] at h4
          refine Ev.ite (fun h5 => ?_) (fun h5 => ?_)
          · rw [hz (by omega)]
            rw [h1 (by omega)]
            have eo : ∀ q : ByteArray, ordB (some q) x.f0 = Op.bytesLess q.toList x.f0.toList := fun _ => rfl
            rw [eo]
            clear hz
            refine Ev.yes (by omega) (Ev.yes (by omega) ?_)
            rw [decide_eq_true (show (1 ≤ (x.f0.size : Int) ∧ (x.f0.size : Int) ≤ 8) ∧ (x.f1.size : Int) ≤ 20000 ∧ (0 ≤ x.f2 ∧ x.f2 ≤ (x.f1.size : Int)) from ⟨h2, by omega, h4⟩), Bool.true_and]
            refine Ev.ite (fun h6 => ?_) (fun h6 => ?_)
            · simp only [h6, Bool.true_and]; exact hn
            · rw [Bool.not_eq_true] at h6
              simp only [h6, Bool.false_and]; exact Ev.now _
          · clear hz
            rw [h0 (by omega), show ordB none x.f0 = true from rfl]
            rw [decide_eq_true (show (1 ≤ (x.f0.size : Int) ∧ (x.f0.size : Int) ≤ 8) ∧ (x.f1.size : Int) ≤ 20000 ∧ (0 ≤ x.f2 ∧ x.f2 ≤ (x.f1.size : Int)) from ⟨h2, by omega, h4⟩), Bool.true_and, Bool.true_and]
            exact hn
        · rw [decide_eq_true_eq] at h4
          rw [decide_eq_false (fun h7 => h4 h7.2.2)]; exact Ev.now _
    · rw [decide_eq_true_eq] at h2
      rw [decide_eq_false (fun h7 => h2 h7.1)]; exact Ev.now _
theorem spec_DiskOk_ev (l : List S45) (hl : l.length ≤ 2097152) : Ev (fun k => spec_DiskOk.f k l) (diskOkB (l.map pf)) := by
  unfold spec_DiskOk.f diskOkB
  rw [List.length_map]
  refine Ev.ite (fun h => ?_) (fun h => ?_)
  · rw [decide_eq_false (by omega), Bool.false_and]; exact Ev.now _
  · rw [decide_eq_true (show (l.length : Int) ≤ 30 by omega), Bool.true_and]
    exact spec_DiskOk_l0 l hl l.length 0 none (by omega) (fun _ => rfl) (fun h => by omega)

theorem impl_DiskOk_l0 (l : List S45) (hl : l.length ≤ 2097152) : ∀ (d i : Nat) (p : Option ByteArray), i + d = l.length → (i = 0 → p = none) → (0 < i → p = some (rd_T45 l ((i : Int) - 1)).f0) →
    Ev (fun k => impl_DiskOk.l0 k l (l.length : Int) (i : Int) l) (diskOkL p ((l.drop i).map pf) && decide ((l.length : Int) ≤ 30)) := by
  intro d
  induction d with
  | zero =>
    intro i p hi h0 h1
    refine Ev.step (impl_DiskOk.l0.eq_2 l (l.length : Int) (i : Int) l) (Ev.no (by omega) (Ev.const ?_))
    rw [List.drop_eq_nil_of_le (by omega)]; rfl
  | succ d ih =>
    intro i p hi h0 h1
    have hlt : i < l.length := by omega
    obtain ⟨x, hx⟩ : ∃ x, x = rd_T45 l (i : Int) := ⟨_, rfl⟩
    have e : x = l[i] := hx.trans (rd45_at l i hlt)
    have hn : Ev (fun k => impl_DiskOk.l0 k l (l.length : Int) ((i + 1 : Nat) : Int) l) (diskOkL (some x.f0) ((l.drop (i + 1)).map pf) && decide ((l.length : Int) ≤ 30)) := by
      refine ih (i + 1) (some x.f0) (by omega) (fun h => by omega) (fun _ => ?_)
      have e3 : (((i + 1 : Nat) : Int) - 1) = (i : Int) := by omega
      rw [e3, ← hx]
    have hd : diskOkL p ((l.drop i).map pf) = (decide ((1 ≤ (x.f0.size : Int) ∧ (x.f0.size : Int) ≤ 8) ∧ (x.f1.size : Int) ≤ 20000 ∧ (0 ≤ x.f2 ∧ x.f2 ≤ (x.f1.size : Int))) && ordB p x.f0 && diskOkL (some x.f0) ((l.drop (i + 1)).map pf)) := by
      rw [List.drop_eq_getElem_cons hlt, ← e]; rfl
    have e2 : wrap64 ((i : Int) + 1) = ((i + 1 : Nat) : Int) := by rw [w64 (by omega) (by omega)]; omega
    refine Ev.step (impl_DiskOk.l0.eq_2 l (l.length : Int) (i : Int) l) ?_
    rw [e2, ← hx, hd]
    clear e2 e ih hd
    have hz : 0 < i → wrap64 ((i : Int) - 1) = (i : Int) - 1 := fun h => w64 (by omega) (by omega)
    refine Ev.yes (by omega) (Ev.yes (by omega) (Ev.yes (by omega) (Ev.bindc (impl_within_ev _ _ _) ?_)))
    refine Ev.ite (fun h2 => ?_) (fun h2 => ?_)
    · rw [decide_eq_true_eq] at h2
      refine Ev.ite (fun h3 => ?_) (fun h3 => ?_)
      · rw [decide_eq_false (fun h7 => by omega)]; exact Ev.now _
      · refine Ev.bindc (impl_within_ev _ _ _) ?_
        refine Ev.ite (fun h4 => ?_) (fun h4 => ?_)
        · rw [decide_eq_true_eq] at h4
          refine Ev.ite (fun h5 => ?_) (fun h5 => ?_)
          · rw [hz (by omega)]
            rw [h1 (by omega)]
            have eo : ∀ q : ByteArray, ordB (some q) x.f0 = Op.bytesLess q.toList x.f0.toList := fun _ => rfl
            rw [eo]
            clear hz
            refine Ev.yes (by omega) (Ev.yes (by omega) ?_)
            rw [decide_eq_true (show (1 ≤ (x.f0.size : Int) ∧ (x.f0.size : Int) ≤ 8) ∧ (x.f1.size : Int) ≤ 20000 ∧ (0 ≤ x.f2 ∧ x.f2 ≤ (x.f1.size : Int)) from ⟨h2, by omega, h4⟩), Bool.true_and]
            refine Ev.ite (fun h6 => ?_) (fun h6 => ?_)
            · simp only [h6, Bool.true_and]; exact hn
            · rw [Bool.not_eq_true] at h6
              simp only [h6, Bool.false_and]; exact Ev.now _
          · clear hz
            rw [h0 (by omega), show ordB none x.f0 = true from rfl]
            rw [decide_eq_true (show (1 ≤ (x.f0.size : Int) ∧ (x.f0.size : Int) ≤ 8) ∧ (x.f1.size : Int) ≤ 20000 ∧ (0 ≤ x.f2 ∧ x.f2 ≤ (x.f1.size : Int)) from ⟨h2, by omega, h4⟩), Bool.true_and, Bool.true_and]
            exact hn
        · rw [decide_eq_true_eq] at h4
          rw [decide_eq_false (fun h7 => h4 h7.2.2)]; exact Ev.now _
    · rw [decide_eq_true_eq] at h2
      rw [decide_eq_false (fun h7 => h2 h7.1)]; exact Ev.now _
theorem impl_DiskOk_ev (l : List S45) (hl : l.length ≤ 2097152) : Ev (fun k => impl_DiskOk.f k l) (diskOkB (l.map pf)) := by
  have := impl_DiskOk_l0 l hl l.length 0 none (by omega) (fun _ => rfl) (fun h => by omega)
  unfold diskOkB
  rw [List.length_map, Bool.and_comm]
  exact this

/-! the order of texts -/
theorem less_trans : ∀ a b c : List UInt8, Op.bytesLess a b = true → Op.bytesLess b c = true → Op.bytesLess a c = true
  | _, [], c, h, _ => by cases c <;> simp [Op.bytesLess] at h
  | _, _ :: _, [], _, h => by simp [Op.bytesLess] at h
  | [], _ :: _, _ :: _, _, _ => rfl
  | x :: a, y :: b, z :: c, h1, h2 => by
    simp only [Op.bytesLess, Bool.or_eq_true, decide_eq_true_eq, Bool.and_eq_true, beq_iff_eq] at h1 h2 ⊢
    rcases h1 with h1 | ⟨rfl, h1⟩
    · rcases h2 with h2 | ⟨rfl, h2⟩
      · exact .inl (UInt8.lt_trans h1 h2)
      · exact .inl h1
    · rcases h2 with h2 | ⟨rfl, h2⟩
      · exact .inl h2
      · exact .inr ⟨rfl, less_trans a b c h1 h2⟩
theorem less_self : ∀ a : List UInt8, Op.bytesLess a a = false
  | [] => rfl
  | x :: a => by
    simp only [Op.bytesLess, less_self a, Bool.and_false, Bool.or_false, decide_eq_false_iff_not]
    exact UInt8.lt_irrefl x
/-- one name ahead of another -/
def nless (a b : ByteArray) : Bool := Op.bytesLess a.toList b.toList
theorem nless_trans {a b c : ByteArray} (h1 : nless a b = true) (h2 : nless b c = true) : nless a c = true := less_trans _ _ _ h1 h2
def fileOk (x : S45) : Prop := (1 ≤ (x.f0.size : Int) ∧ (x.f0.size : Int) ≤ 8) ∧ (x.f1.size : Int) ≤ 20000 ∧ (0 ≤ x.f2 ∧ x.f2 ≤ (x.f1.size : Int))
def sorted (l : List S45) : Prop := l.Pairwise (fun a b => nless a.f0 b.f0 = true)
theorem diskOkL_iff : ∀ (l : List S45) (p : Option ByteArray), diskOkL p (l.map pf) = true ↔ (∀ x ∈ l, fileOk x) ∧ sorted l ∧ (∀ q, p = some q → ∀ x ∈ l, nless q x.f0 = true)
  | [], p => by simp [diskOkL, sorted]
  | x :: l, p => by
    have ih := diskOkL_iff l (some x.f0)
    constructor
    · intro h
      obtain ⟨h1, h2, h3⟩ := diskOkL_cons (f := pf x) (l := l.map pf) (by simpa using h)
      obtain ⟨a1, a2, a3⟩ := ih.1 h3
      refine ⟨?_, ?_, ?_⟩
      · intro y hy
        rcases List.mem_cons.1 hy with rfl | hy
        · exact h1
        · exact a1 y hy
      · exact List.pairwise_cons.2 ⟨fun y hy => a3 _ rfl y hy, a2⟩
      · intro q hq y hy
        rcases List.mem_cons.1 hy with rfl | hy
        · exact h2 q hq
        · exact nless_trans (h2 q hq) (a3 _ rfl y hy)
    · rintro ⟨a1, a2, a3⟩
      obtain ⟨b1, b2⟩ := List.pairwise_cons.1 a2
      have h3 := ih.2 ⟨fun y hy => a1 y (List.mem_cons_of_mem _ hy), b2, fun q hq y hy => by cases hq; exact b1 y hy⟩
      have h4 : ordB p x.f0 = true := by
        cases p with
        | none => rfl
        | some q => exact a3 q rfl x (by simp)
      have h1 := a1 x (by simp)
      simp only [List.map_cons, diskOkL, Bool.and_eq_true]
      exact ⟨⟨decide_eq_true h1, h4⟩, h3⟩
theorem diskOk_iff (l : List S45) : diskOkB (l.map pf) = true ↔ l.length ≤ 30 ∧ (∀ x ∈ l, fileOk x) ∧ sorted l := by
  unfold diskOkB
  rw [Bool.and_eq_true, diskOkL_iff, List.length_map, decide_eq_true_eq]
  constructor
  · rintro ⟨h1, h2, h3, -⟩; exact ⟨by omega, h2, h3⟩
  · rintro ⟨h1, h2, h3⟩; exact ⟨by omega, h2, h3, fun q hq => by cases hq⟩
/-- a file put in its place -/
def putL (d : List S45) (x : S45) : List S45 := d.filter (fun y => nless y.f0 x.f0) ++ x :: d.filter (fun y => nless x.f0 y.f0)
theorem putL_sorted {d : List S45} (h : sorted d) (x : S45) : sorted (putL d x) := by
  unfold putL sorted
  refine List.pairwise_append.2 ⟨h.sublist List.filter_sublist, List.pairwise_cons.2 ⟨fun y hy => (List.mem_filter.1 hy).2, h.sublist List.filter_sublist⟩, ?_⟩
  intro a ha b hb
  have h1 := (List.mem_filter.1 ha).2
  rcases List.mem_cons.1 hb with rfl | hb
  · exact h1
  · exact nless_trans h1 (List.mem_filter.1 hb).2
theorem putL_ok {d : List S45} (h : ∀ y ∈ d, fileOk y) {x : S45} (hx : fileOk x) : ∀ y ∈ putL d x, fileOk y := by
  intro y hy
  unfold putL at hy
  rcases List.mem_append.1 hy with hy | hy
  · exact h y (List.mem_filter.1 hy).1
  · rcases List.mem_cons.1 hy with rfl | hy
    · exact hx
    · exact h y (List.mem_filter.1 hy).1
theorem less_not {a b : ByteArray} (h : nless a b = true) : nless b a = false := by
  cases e : nless b a with
  | false => rfl
  | true =>
    have := nless_trans h e
    unfold nless at this
    rw [less_self] at this; cases this
theorem putL_length (x : S45) : ∀ d : List S45, (putL d x).length ≤ d.length + 1 := by
  intro d
  unfold putL
  rw [List.length_append, List.length_cons]
  have : (d.filter (fun y => nless y.f0 x.f0)).length + (d.filter (fun y => nless x.f0 y.f0)).length ≤ d.length := by
    induction d with
    | nil => simp
    | cons y d ih =>
      rw [List.filter_cons, List.filter_cons]
      by_cases h1 : nless y.f0 x.f0 = true
      · rw [if_pos h1, if_neg (by rw [less_not h1]; simp)]
        simp only [List.length_cons]; omega
      · rw [if_neg h1]
        split <;> simp only [List.length_cons] <;> omega
  omega

/-- how many bytes are left of the file at place i -/
def loseN (left : List Int) (i : Nat) (x : S45) : Int := mx x.f2 (mn (if (i : Int) < (left.length : Int) then rd left (i : Int) else 0) (x.f1.size : Int))
def loseS (left : List Int) (i : Nat) (x : S45) : S45 := ⟨x.f0, x.f1.extract 0 (loseN left i x).toNat, loseN left i x⟩
def loseL (left : List Int) : Nat → List S45 → List S45
  | _, [] => []
  | i, x :: l => loseS left i x :: loseL left (i + 1) l
theorem loseL_length (left : List Int) : ∀ (l : List S45) (i : Nat), (loseL left i l).length = l.length
  | [], _ => rfl
  | x :: l, i => by simp [loseL, loseL_length left l (i + 1)]
theorem loseL_get (left : List Int) : ∀ (l : List S45) (i j : Nat) (h : j < l.length), (loseL left i l)[j]'(by rw [loseL_length]; exact h) = loseS left (i + j) l[j]
  | [], _, _, h => by simp at h
  | x :: l, i, 0, _ => rfl
  | x :: l, i, j + 1, h => by
    have := loseL_get left l (i + 1) j (by simpa using h)
    simp only [loseL, List.getElem_cons_succ]
    rw [this]; congr 1; omega
theorem loseN_range (left : List Int) (i : Nat) (x : S45) (h0 : 0 ≤ x.f2) (h1 : x.f2 ≤ (x.f1.size : Int)) : 0 ≤ loseN left i x ∧ loseN left i x ≤ (x.f1.size : Int) := by
  unfold loseN mx mn
  generalize (if (i : Int) < (left.length : Int) then rd left (i : Int) else 0) = m
  split <;> split at * <;> omega
def Kept (l : List S45) : Prop := ∀ f ∈ l.map pf, 0 ≤ f.k ∧ f.k ≤ (f.t.size : Int)
def loseOut (l : List S45) (left : List Int) : List S45 × Bool := if diskOkB (l.map pf) = true then (loseL left 0 l, true) else ([], false)

theorem spec_LoseDisk_l0 (l : List S45) (left : List Int) (hl : l.length ≤ 2097152) (hok : Kept l) : ∀ (d i : Nat) (acc : List S45), i + d = l.length → acc.length = i →
    Ev (fun k => spec_LoseDisk.l0 k left (i : Int) l acc) (acc ++ loseL left i (l.drop i), true) := by
  intro d
  induction d with
  | zero =>
    intro i acc hi ha
    refine Ev.step (spec_LoseDisk.l0.eq_2 left (i : Int) l acc) (Ev.no (by omega) (Ev.const ?_))
    rw [List.drop_eq_nil_of_le (by omega)]; simp [loseL]
  | succ d ih =>
    intro i acc hi ha
    have hlt : i < l.length := by omega
    obtain ⟨x, hx⟩ : ∃ x, x = rd_T45 l (i : Int) := ⟨_, rfl⟩
    have e : x = l[i] := hx.trans (rd45_at l i hlt)
    have hk := hok (pf l[i]) (List.mem_map_of_mem (List.getElem_mem hlt))
    rw [← e] at hk
    have hk' : 0 ≤ x.f2 ∧ x.f2 ≤ (x.f1.size : Int) := hk
    have hnext : Ev (fun k => spec_LoseDisk.l0 k left ((i + 1 : Nat) : Int) l (acc ++ [loseS left i x])) (acc ++ loseL left i (l.drop i), true) := by
      have := ih (i + 1) (acc ++ [loseS left i x]) (by omega) (by rw [List.length_append, List.length_singleton, ha])
      rw [List.drop_eq_getElem_cons hlt, ← e]
      rw [List.append_assoc] at this
      exact this
    have hj : ∀ m : Int, m = (if (i : Int) < (left.length : Int) then rd left (i : Int) else 0) → Ev (fun k => spec_LoseDisk.j1 k left (i : Int) m l acc x.f0 x.f1 x.f2) (acc ++ loseL left i (l.drop i), true) := by
      intro m hm
      have en : loseN left i x = mx x.f2 (mn m (x.f1.size : Int)) := by unfold loseN; rw [← hm]
      have w4 : wrap64 ((i : Int) + 1) = ((i + 1 : Nat) : Int) := by rw [w64 (by omega) (by omega)]; omega
      refine Ev.step (spec_LoseDisk.j1.eq_2 left (i : Int) m l acc x.f0 x.f1 x.f2) ?_
      rw [w4]
      clear w4
      have fin : ∀ n : Int, n = loseN left i x → Ev (fun k => spec_LoseDisk.l0 k left ((i + 1 : Nat) : Int) l (acc ++ [(⟨x.f0, x.f1.extract 0 n.toNat, n⟩ : S45)])) (acc ++ loseL left i (l.drop i), true) := by
        rintro n rfl; exact hnext
      clear hnext ih hm
      refine Ev.ite (fun h => ?_) (fun h => ?_)
      · have e1 : mn m (x.f1.size : Int) = (x.f1.size : Int) := by unfold mn; rw [if_pos (by omega)]
        rw [e1] at en
        refine Ev.ite (fun h2 => ?_) (fun h2 => ?_)
        · omega
        · refine Ev.yes (by omega) (Ev.yes (by omega) (Ev.yes (by omega) (fin _ ?_)))
          rw [en]; unfold mx; split <;> omega
      · have e1 : mn m (x.f1.size : Int) = m := by
          unfold mn; split <;> omega
        rw [e1] at en
        refine Ev.ite (fun h2 => ?_) (fun h2 => ?_)
        · refine Ev.yes (by omega) (Ev.yes (by omega) (Ev.yes (by omega) (fin _ ?_)))
          rw [en]; unfold mx; split <;> omega
        · refine Ev.yes (by omega) (Ev.yes (by omega) (Ev.yes (by omega) (fin _ ?_)))
          rw [en]; unfold mx; split <;> omega
    refine Ev.step (spec_LoseDisk.l0.eq_2 left (i : Int) l acc) ?_
    rw [← hx]
    refine Ev.yes (by omega) (Ev.yes (by omega) ?_)
    refine Ev.ite (fun h => ?_) (fun h => ?_)
    · exact hj _ (by rw [if_pos h])
    · exact hj _ (by rw [if_neg h])
theorem spec_LoseDisk_ev (l : List S45) (left : List Int) (hl : l.length ≤ 2097152) : Ev (fun k => spec_LoseDisk.f k l left) (loseOut l left) := by
  unfold spec_LoseDisk.f loseOut
  refine Ev.bind (spec_DiskOk_ev l hl) ?_
  refine Ev.ite (fun h => ?_) (fun h => ?_)
  · rw [if_pos h]
    have h' := h
    simp only [diskOkB, Bool.and_eq_true] at h'
    have := spec_LoseDisk_l0 l left hl (fun f hf => (diskOkL_mem h'.2 f hf).2.2) l.length 0 [] (by omega) rfl
    rw [List.drop_zero, List.nil_append] at this
    exact this
  · rw [if_neg h]; exact Ev.now _

theorem impl_LoseDisk_l0 (l : List S45) (left : List Int) (hl : l.length ≤ 2097152) (hok : Kept l) : ∀ (d i : Nat) (out : List S45), i + d = l.length → out.length = l.length → out.take i = (loseL left 0 l).take i →
    Ev (fun k => impl_LoseDisk.l0 k left l (l.length : Int) (i : Int) out) (loseL left 0 l, true) := by
  intro d
  induction d with
  | zero =>
    intro i out hi ho ht
    refine Ev.step (impl_LoseDisk.l0.eq_2 left l (l.length : Int) (i : Int) out) (Ev.no (by omega) (Ev.const ?_))
    rw [List.take_of_length_le (by omega), List.take_of_length_le (by rw [loseL_length]; omega)] at ht
    rw [ht]
  | succ d ih =>
    intro i out hi ho ht
    have hlt : i < l.length := by omega
    have hlt2 : i < out.length := by omega
    obtain ⟨x, hx⟩ : ∃ x, x = rd_T45 l (i : Int) := ⟨_, rfl⟩
    have e : x = l[i] := hx.trans (rd45_at l i hlt)
    have hk := hok (pf l[i]) (List.mem_map_of_mem (List.getElem_mem hlt))
    rw [← e] at hk
    have hk' : 0 ≤ x.f2 ∧ x.f2 ≤ (x.f1.size : Int) := hk
    have hr := loseN_range left i x hk'.1 hk'.2
    have hnext : Ev (fun k => impl_LoseDisk.l0 k left l (l.length : Int) ((i + 1 : Nat) : Int) (out.set i (loseS left i x))) (loseL left 0 l, true) := by
      refine ih (i + 1) _ (by omega) (by rw [List.length_set]; exact ho) ?_
      rw [take_set_next out i _ hlt2, ht, List.take_succ_eq_append_getElem (by rw [loseL_length]; exact hlt), loseL_get left l 0 i hlt, Nat.zero_add, e]
    have w4 : wrap64 ((i : Int) + 1) = ((i + 1 : Nat) : Int) := by rw [w64 (by omega) (by omega)]; omega
    refine Ev.step (impl_LoseDisk.l0.eq_2 left l (l.length : Int) (i : Int) out) ?_
    rw [w4, ← hx]
    clear w4
    refine Ev.yes (by omega) (Ev.yes (by omega) (Ev.yes (by omega) ?_))
    rw [Int.toNat_natCast]
    refine Ev.ite (fun h => ?_) (fun h => ?_)
    · have en : mx x.f2 (mn (rd left (i : Int)) (x.f1.size : Int)) = loseN left i x := by unfold loseN; rw [if_pos h]
      rw [en]
      exact Ev.yes hr.1 (Ev.yes hr.2 (Ev.yes (by omega) hnext))
    · have en : x.f2 = loseN left i x := by
        unfold loseN; rw [if_neg h]; unfold mx mn
        split <;> split at * <;> omega
      refine Ev.yes hk'.1 (Ev.yes hk'.2 (Ev.yes (by omega) ?_))
      have es : (⟨x.f0, x.f1.extract 0 x.f2.toNat, x.f2⟩ : S45) = loseS left i x := by unfold loseS; rw [← en]
      rw [es]
      exact hnext
theorem impl_LoseDisk_ev (l : List S45) (left : List Int) (hl : l.length ≤ 2097152) : Ev (fun k => impl_LoseDisk.f k l left) (loseOut l left) := by
  unfold impl_LoseDisk.f loseOut
  refine Ev.bind (impl_DiskOk_ev l hl) ?_
  refine Ev.ite (fun h => ?_) (fun h => ?_)
  · rw [if_pos h]
    have h' := h
    simp only [diskOkB, Bool.and_eq_true] at h'
    have hc : impl_copyDisk.f l = some l := by
      unfold impl_copyDisk.f
      simp only [Option.bind_some, List.length_nil, List.nil_append]
      rw [if_pos (by omega)]
    refine Ev.bindc hc ?_
    exact impl_LoseDisk_l0 l left hl (fun f hf => (diskOkL_mem h'.2 f hf).2.2) l.length 0 l (by omega) rfl (by simp)
  · rw [if_neg h]; exact Ev.now _

theorem spec_l03Put_l1 (d : List S45) (x : S45) (hd : d.length ≤ 2097152) : ∀ (m i : Nat) (acc : List S45), i + m = d.length → acc.length ≤ d.length + 1 + i →
    Ev (fun k => spec_l03Put.l1 k (i : Int) d x.f0 x.f1 x.f2 acc) (acc ++ (d.drop i).filter (fun y => nless x.f0 y.f0)) := by
  intro m
  induction m with
  | zero =>
    intro i acc hi ha
    refine Ev.step (spec_l03Put.l1.eq_2 (i : Int) d x.f0 x.f1 x.f2 acc) (Ev.no (by omega) (Ev.const ?_))
    rw [List.drop_eq_nil_of_le (by omega)]; simp
  | succ m ih =>
    intro i acc hi ha
    have hlt : i < d.length := by omega
    have e := rd45_at d i hlt
    have w4 : wrap64 ((i : Int) + 1) = ((i + 1 : Nat) : Int) := by rw [w64 (by omega) (by omega)]; omega
    refine Ev.step (spec_l03Put.l1.eq_2 (i : Int) d x.f0 x.f1 x.f2 acc) (Ev.yes (by omega) (Ev.yes (by omega) ?_))
    rw [w4, e, List.drop_eq_getElem_cons hlt, List.filter_cons]
    refine Ev.ite (fun h => ?_) (fun h => ?_)
    · rw [if_pos (show nless x.f0 d[i].f0 = true from h)]
      refine Ev.yes (by omega) ?_
      have := ih (i + 1) (acc ++ [d[i]]) (by omega) (by rw [List.length_append, List.length_singleton]; omega)
      rw [List.append_assoc] at this
      exact this
    · rw [if_neg (show ¬ nless x.f0 d[i].f0 = true from h)]
      exact ih (i + 1) acc (by omega) (by omega)
theorem spec_l03Put_l0 (d : List S45) (x : S45) (hd : d.length ≤ 2097152) : ∀ (m i : Nat) (acc : List S45), i + m = d.length → acc.length ≤ i →
    Ev (fun k => spec_l03Put.l0 k (i : Int) d x.f0 x.f1 x.f2 acc) ((acc ++ (d.drop i).filter (fun y => nless y.f0 x.f0)) ++ x :: d.filter (fun y => nless x.f0 y.f0)) := by
  intro m
  induction m with
  | zero =>
    intro i acc hi ha
    refine Ev.step (spec_l03Put.l0.eq_2 (i : Int) d x.f0 x.f1 x.f2 acc) (Ev.no (by omega) (Ev.yes (by omega) ?_))
    have := spec_l03Put_l1 d x hd d.length 0 (acc ++ [x]) (by omega) (by rw [List.length_append, List.length_singleton]; omega)
    rw [List.drop_zero, List.append_assoc] at this
    rw [List.drop_eq_nil_of_le (by omega), List.filter_nil, List.append_nil]
    exact this
  | succ m ih =>
    intro i acc hi ha
    have hlt : i < d.length := by omega
    have e := rd45_at d i hlt
    have w4 : wrap64 ((i : Int) + 1) = ((i + 1 : Nat) : Int) := by rw [w64 (by omega) (by omega)]; omega
    refine Ev.step (spec_l03Put.l0.eq_2 (i : Int) d x.f0 x.f1 x.f2 acc) (Ev.yes (by omega) (Ev.yes (by omega) ?_))
    rw [w4, e, List.drop_eq_getElem_cons hlt, List.filter_cons]
    refine Ev.ite (fun h => ?_) (fun h => ?_)
    · rw [if_pos (show nless d[i].f0 x.f0 = true from h)]
      refine Ev.yes (by omega) ?_
      have := ih (i + 1) (acc ++ [d[i]]) (by omega) (by rw [List.length_append, List.length_singleton]; omega)
      rw [List.append_assoc acc] at this
      exact this
    · rw [if_neg (show ¬ nless d[i].f0 x.f0 = true from h)]
      exact ih (i + 1) acc (by omega) (by omega)
theorem spec_l03Put_ev (d : List S45) (x : S45) (hd : d.length ≤ 2097152) : Ev (fun k => spec_l03Put.f k d x.f0 x.f1 x.f2) (putL d x) := by
  have := spec_l03Put_l0 d x hd d.length 0 [] (by omega) (by simp)
  rw [List.drop_zero, List.nil_append] at this
  exact this

theorem find_range (a : ByteArray) : ∀ (l : List S45) (i : Int), impl_placeOf.find a l i = -1 ∨ (i ≤ impl_placeOf.find a l i ∧ impl_placeOf.find a l i < i + l.length)
  | [], i => .inl rfl
  | x :: r, i => by
    unfold impl_placeOf.find
    split
    · right; simp only [List.length_cons]; omega
    · rcases find_range a r (i + 1) with h | h
      · exact .inl h
      · right; simp only [List.length_cons]; omega
theorem spec_l03At_l0 (l : List S45) (hl : l.length ≤ 2097152) (a : ByteArray) : ∀ (d i : Nat), i + d = l.length → Ev (fun k => spec_l03At.l0 k a (i : Int) l) (impl_placeOf.find a (l.drop i) (i : Int)) := by
  intro d
  induction d with
  | zero =>
    intro i hi
    rw [List.drop_of_length_le (by omega)]
    exact Ev.step (spec_l03At.l0.eq_2 a i l) (Ev.no (by omega) (Ev.now _))
  | succ d ih =>
    intro i hi
    have hil : i < l.length := by omega
    rw [List.drop_eq_getElem_cons hil, impl_placeOf.find]
    refine Ev.step (spec_l03At.l0.eq_2 a i l) (Ev.yes (by omega) (Ev.yes (by omega) ?_))
    rw [rd45_at l i hil]
    refine Ev.ite (fun h => ?_) (fun h => ?_)
    · rw [if_pos h]; exact Ev.now _
    · rw [if_neg h, w64 (by omega) (by omega)]
      exact ih (i + 1) (by omega)
theorem spec_l03At_ev (l : List S45) (hl : l.length ≤ 2097152) (a : ByteArray) : Ev (fun k => spec_l03At.f k l a) (impl_placeOf.find a l 0) := by
  have := spec_l03At_l0 l hl a l.length 0 (by omega)
  rw [List.drop_zero] at this
  exact this

/-! what an act does -/
theorem less_total : ∀ a b : List UInt8, a ≠ b → Op.bytesLess a b = true ∨ Op.bytesLess b a = true
  | [], [], h => absurd rfl h
  | [], _ :: _, _ => .inl rfl
  | _ :: _, [], _ => .inr rfl
  | x :: a, y :: b, h => by
    simp only [Op.bytesLess, Bool.or_eq_true, decide_eq_true_eq, Bool.and_eq_true, beq_iff_eq]
    by_cases h1 : x < y
    · exact .inl (.inl h1)
    · by_cases h2 : y < x
      · exact .inr (.inl h2)
      · have e : x = y := UInt8.le_antisymm (UInt8.not_lt.1 h2) (UInt8.not_lt.1 h1)
        subst e
        rcases less_total a b (fun e => h (by rw [e])) with h3 | h3
        · exact .inl (.inr ⟨rfl, h3⟩)
        · exact .inr (.inr ⟨rfl, h3⟩)
theorem less_ne {a b : ByteArray} (h : nless a b = true) : ¬ a.toList = b.toList := fun e => by
  unfold nless at h
  rw [e, less_self] at h
  cases h
theorem put_ahead (x : S45) : ∀ d : List S45, (∀ z ∈ d, nless x.f0 z.f0 = true) → impl_withoutFile.keep x.f0 d = d ∧ impl_withFile.ins x d = x :: d ∧ putL d x = x :: d
  | [], _ => ⟨rfl, rfl, rfl⟩
  | z :: d, h => by
    have hz := h z (by simp)
    have hn := less_not hz
    refine ⟨?_, ?_, ?_⟩
    · unfold impl_withoutFile.keep
      refine List.filter_eq_self.2 (fun y hy => ?_)
      have hy2 := less_ne (h y hy)
      have hb : (y.f0.toList == x.f0.toList) = false := beq_eq_false_iff_ne.2 (fun e => hy2 e.symm)
      rw [hb]; rfl
    · rw [impl_withFile.ins]
      exact if_neg (show ¬ nless z.f0 x.f0 = true by rw [hn]; simp)
    · unfold putL
      rw [List.filter_eq_nil_iff.2 (fun y hy => by rw [less_not (h y hy)]; simp), List.filter_eq_self.2 (fun y hy => h y hy), List.nil_append]
theorem ins_put (x : S45) : ∀ d : List S45, sorted d → impl_withFile.ins x (impl_withoutFile.keep x.f0 d) = putL d x
  | [], _ => rfl
  | y :: d, hs => by
    obtain ⟨h1, h2⟩ := List.pairwise_cons.1 hs
    by_cases hl : nless y.f0 x.f0 = true
    · have ih := ins_put x d h2
      have hb : (y.f0.toList == x.f0.toList) = false := beq_eq_false_iff_ne.2 (less_ne hl)
      have ek : impl_withoutFile.keep x.f0 (y :: d) = y :: impl_withoutFile.keep x.f0 d := by
        unfold impl_withoutFile.keep
        rw [List.filter_cons_of_pos (by rw [hb]; rfl)]
      rw [ek, impl_withFile.ins]
      refine (if_pos hl).trans ?_
      rw [ih]
      unfold putL
      rw [List.filter_cons_of_pos (p := fun (y : S45) => nless y.f0 x.f0) hl, List.filter_cons_of_neg (p := fun (y : S45) => nless x.f0 y.f0) (by rw [less_not hl]; simp)]
      rfl
    · by_cases he : y.f0.toList = x.f0.toList
      · have ha : ∀ z ∈ d, nless x.f0 z.f0 = true := fun z hz => by
          have := h1 z hz
          unfold nless at this ⊢
          rw [← he]; exact this
        obtain ⟨a1, a2, a3⟩ := put_ahead x d ha
        have ek : impl_withoutFile.keep x.f0 (y :: d) = impl_withoutFile.keep x.f0 d := by
          unfold impl_withoutFile.keep
          rw [List.filter_cons_of_neg (by rw [beq_iff_eq.2 he]; simp)]
        have es : nless x.f0 y.f0 = false := by unfold nless; rw [he, less_self]
        rw [ek, a1, a2, ← a3]
        unfold putL
        rw [List.filter_cons_of_neg (p := fun (y : S45) => nless y.f0 x.f0) hl, List.filter_cons_of_neg (p := fun (y : S45) => nless x.f0 y.f0) (by rw [es]; simp)]
      · have hg : nless x.f0 y.f0 = true := (less_total _ _ he).resolve_left hl
        obtain ⟨a1, a2, a3⟩ := put_ahead x (y :: d) (fun z hz => by
          rcases List.mem_cons.1 hz with rfl | hz
          · exact hg
          · exact nless_trans hg (h1 z hz))
        rw [a1, a2, a3]
theorem keep_sorted {d : List S45} (h : sorted d) (a : ByteArray) : sorted (impl_withoutFile.keep a d) := h.sublist List.filter_sublist
theorem keep_len (a : ByteArray) (d : List S45) : (impl_withoutFile.keep a d).length ≤ d.length := List.length_filter_le _ _
theorem spec_l03Without_l0 (a : ByteArray) (l : List S45) (hl : l.length ≤ 2097152) : ∀ (d i : Nat) (acc : List S45), i + d = l.length → acc.length ≤ i →
    Ev (fun k => spec_l03Without.l0 k a (i : Int) l acc) (acc ++ impl_withoutFile.keep a (l.drop i)) := by
  intro d
  induction d with
  | zero =>
    intro i acc hi ha
    refine Ev.step (spec_l03Without.l0.eq_2 a (i : Int) l acc) (Ev.no (by omega) (Ev.const ?_))
    rw [List.drop_eq_nil_of_le (by omega)]; simp [impl_withoutFile.keep]
  | succ d ih =>
    intro i acc hi ha
    have hlt : i < l.length := by omega
    have e := rd45_at l i hlt
    have w4 : wrap64 ((i : Int) + 1) = ((i + 1 : Nat) : Int) := by rw [w64 (by omega) (by omega)]; omega
    refine Ev.step (spec_l03Without.l0.eq_2 a (i : Int) l acc) (Ev.yes (by omega) (Ev.yes (by omega) ?_))
    rw [w4, e, List.drop_eq_getElem_cons hlt]
    refine Ev.ite (fun h => ?_) (fun h => ?_)
    · have ek : impl_withoutFile.keep a (l[i] :: l.drop (i + 1)) = impl_withoutFile.keep a (l.drop (i + 1)) := by
        unfold impl_withoutFile.keep
        rw [List.filter_cons_of_neg (by rw [beq_iff_eq.2 h]; simp)]
      rw [ek]
      exact ih (i + 1) acc (by omega) (by omega)
    · have hb : ((l[i]).f0.toList == a.toList) = false := beq_eq_false_iff_ne.2 h
      have ek : impl_withoutFile.keep a (l[i] :: l.drop (i + 1)) = l[i] :: impl_withoutFile.keep a (l.drop (i + 1)) := by
        unfold impl_withoutFile.keep
        rw [List.filter_cons_of_pos (by rw [hb]; rfl)]
      rw [ek]
      have := ih (i + 1) (acc ++ [l[i]]) (by omega) (by rw [List.length_append, List.length_singleton]; omega)
      rw [List.append_assoc] at this
      exact Ev.yes (by omega) this
theorem spec_l03Without_ev (a : ByteArray) (l : List S45) (hl : l.length ≤ 2097152) : Ev (fun k => spec_l03Without.f k l a) (impl_withoutFile.keep a l) := by
  have := spec_l03Without_l0 a l hl l.length 0 [] (by omega) (by simp)
  rw [List.drop_zero, List.nil_append] at this
  exact this
def finO (l : List S45) : List S45 × Bool := if diskOkB (l.map pf) = true then (l, true) else ([], false)
def nameOk (a : ByteArray) : Prop := 1 ≤ (a.size : Int) ∧ (a.size : Int) ≤ 8
instance (a : ByteArray) : Decidable (nameOk a) := by unfold nameOk; exact inferInstance
/-- the file of a name; a new one without -/
def fileOf (d : List S45) (nm : ByteArray) : S45 := if impl_placeOf.find nm d 0 < 0 then ⟨nm, (⟨#[]⟩ : ByteArray), 0⟩ else rd_T45 d (impl_placeOf.find nm d 0)
def actO (d : List S45) (k : Int) (nm tx tg : ByteArray) : List S45 × Bool :=
  if diskOkB (d.map pf) = true ∧ nameOk nm ∧ (k = 3 ∨ tg.toList = []) ∧ (k = 1 ∨ tx.toList = []) then
    if k = 1 then finO (putL d ⟨nm, (fileOf d nm).f1 ++ tx, (fileOf d nm).f2⟩)
    else if impl_placeOf.find nm d 0 < 0 then ([], false)
    else if k = 2 then finO (putL d ⟨nm, (fileOf d nm).f1, ((fileOf d nm).f1.size : Int)⟩)
    else if k = 3 then (if (fileOf d nm).f2 < ((fileOf d nm).f1.size : Int) ∨ tg.toList = nm.toList ∨ ¬ nameOk tg then ([], false) else finO (putL (impl_withoutFile.keep nm d) ⟨tg, (fileOf d nm).f1, (fileOf d nm).f2⟩))
    else if k = 4 then finO (impl_withoutFile.keep nm d)
    else ([], false)
  else ([], false)
theorem find_at (a : ByteArray) : ∀ (l : List S45) (i : Int), 0 ≤ i → ¬ impl_placeOf.find a l i < 0 → ∃ (k : Nat) (h : k < l.length), impl_placeOf.find a l i = i + k ∧ (l[k]).f0 = a
  | [], i, _, h => absurd (show impl_placeOf.find a [] i < 0 by unfold impl_placeOf.find; omega) h
  | x :: r, i, h0, h => by
    unfold impl_placeOf.find at h ⊢
    by_cases hq : x.f0.toList = a.toList
    · rw [if_pos hq]
      exact ⟨0, by simp, by omega, toList_iff.1 hq⟩
    · rw [if_neg hq] at h ⊢
      obtain ⟨k, hk, e, e2⟩ := find_at a r (i + 1) (by omega) h
      exact ⟨k + 1, by simpa using hk, by rw [e]; omega, by simpa using e2⟩
theorem fileOf_ok {d : List S45} {nm : ByteArray} (hd : diskOkB (d.map pf) = true) : (0 ≤ (fileOf d nm).f2 ∧ (fileOf d nm).f2 ≤ ((fileOf d nm).f1.size : Int)) ∧ ((fileOf d nm).f1.size : Int) ≤ 20000 ∧ (fileOf d nm).f0 = nm ∧ (¬ impl_placeOf.find nm d 0 < 0 → nameOk nm) := by
  have hok := ((diskOk_iff d).1 hd).2.1
  unfold fileOf
  by_cases h : impl_placeOf.find nm d 0 < 0
  · rw [if_pos h]
    exact ⟨⟨Int.le_refl 0, by show (0 : Int) ≤ ((0 : Nat) : Int); omega⟩, by show ((0 : Nat) : Int) ≤ 20000; omega, rfl, fun h2 => absurd h h2⟩
  · rw [if_neg h]
    obtain ⟨k, hk, e, e2⟩ := find_at nm d 0 (by omega) h
    have e3 : rd_T45 d (impl_placeOf.find nm d 0) = d[k] := by rw [e, Int.zero_add]; exact rd45_at d k hk
    have hx := hok _ (List.getElem_mem hk)
    rw [e3]
    exact ⟨hx.2.2, hx.2.1, e2, fun _ => by rw [← e2]; exact hx.1⟩
theorem finO_bad {l : List S45} {x : S45} (hx : x ∈ l) (h : ¬ nameOk x.f0) : finO l = ([], false) := by
  unfold finO
  rw [if_neg (fun hd => h (((diskOk_iff l).1 hd).2.1 x hx).1)]
theorem mem_put (d : List S45) (x : S45) : x ∈ putL d x := by unfold putL; simp
theorem finO_len (l : List S45) : (finO l).1.length ≤ 30 := by
  unfold finO
  split
  · rename_i h; exact ((diskOk_iff l).1 h).1
  · simp
theorem actO_len (d : List S45) (k : Int) (nm tx tg : ByteArray) : (actO d k nm tx tg).1.length ≤ 30 := by
  unfold actO
  repeat' split
  all_goals first | exact finO_len _ | simp
theorem spec_fin (l : List S45) (hl : l.length ≤ 2097152) : Ev (fun k => (spec_DiskOk.f k l).bind fun t => (if t = true then (some (l, true)) else (some (([] : List S45), false)))) (finO l) := by
  unfold finO
  exact Ev.bind (spec_DiskOk_ev l hl) (Ev.ite (fun h => by rw [if_pos h]; exact Ev.now _) (fun h => by rw [if_neg h]; exact Ev.now _))
theorem impl_fin (l : List S45) (hl : l.length ≤ 2097152) : Ev (fun k => (impl_DiskOk.f k l).bind fun t => (if t = true then (some (l, true)) else (some (([] : List S45), false)))) (finO l) := by
  unfold finO
  exact Ev.bind (impl_DiskOk_ev l hl) (Ev.ite (fun h => by rw [if_pos h]; exact Ev.now _) (fun h => by rw [if_neg h]; exact Ev.now _))
theorem spec_l03Name_eq (a : ByteArray) : spec_l03Name.f a = some (decide (nameOk a)) := by
  unfold spec_l03Name.f
  rw [spec_l01In_ev]
  rfl
theorem wrap_bne (t : ByteArray) : (t.toList != ([] : List UInt8)) = true ↔ ¬ t.toList = [] := bne_iff_ne
theorem spec_DoAct_ev (d : List S45) (k0 : Int) (nm tx tg : ByteArray) (hl : d.length ≤ 2097151) (ht : tx.size ≤ 4611686018427387904) : Ev (fun k => spec_DoAct.f k d k0 nm tx tg) (actO d k0 nm tx tg) := by
  have bad : ∀ R : List S45 × Bool, R = ([], false) → Ev (fun k => spec_DoAct.j0 k true d k0 nm tx tg) R := fun R h => by
    rw [h]; exact Ev.step (spec_DoAct.j0.eq_2 true d k0 nm tx tg) (Ev.yes rfl (Ev.now _))
  unfold spec_DoAct.f
  refine Ev.bind (spec_DiskOk_ev d (by omega)) ?_
  by_cases hd : diskOkB (d.map pf) = true
  case neg => exact Ev.no hd (bad _ (by unfold actO; rw [if_neg (fun h => hd h.1)]))
  refine Ev.yes hd (Ev.bindc (spec_l03Name_eq nm) ?_)
  by_cases hn : nameOk nm
  case neg => exact Ev.no (by rw [decide_eq_false hn]; simp) (bad _ (by unfold actO; rw [if_neg (fun h => hn h.2.1)]))
  refine Ev.yes (decide_eq_true hn) ?_
  obtain ⟨hf1, hf2, hf3, -⟩ := fileOf_ok (nm := nm) hd
  have main : (k0 = 3 ∨ tg.toList = []) → (k0 = 1 ∨ tx.toList = []) → Ev (fun k => spec_DoAct.j0 k false d k0 nm tx tg) (actO d k0 nm tx tg) := fun h3 h1 => by
    have hcond : diskOkB (d.map pf) = true ∧ nameOk nm ∧ (k0 = 3 ∨ tg.toList = []) ∧ (k0 = 1 ∨ tx.toList = []) := ⟨hd, hn, h3, h1⟩
    have j2 : ∀ (b : Bool) (f0 f1 : ByteArray) (f2 : Int) (R : List S45 × Bool), (b = true → R = ([], false)) → (b = false → R = finO (putL (impl_withoutFile.keep nm d) ⟨tg, f1, f2⟩)) → Ev (fun k => spec_DoAct.j2 k b d k0 nm tx tg f0 f1 f2) R := fun b f0 f1 f2 R hb1 hb2 => by
      cases b
      · rw [hb2 rfl]
        have hk := keep_len nm d
        have hp := spec_l03Put_ev (impl_withoutFile.keep nm d) ⟨tg, f1, f2⟩ (by omega)
        have hpl := putL_length ⟨tg, f1, f2⟩ (impl_withoutFile.keep nm d)
        exact Ev.step (spec_DoAct.j2.eq_2 false d k0 nm tx tg f0 f1 f2) (Ev.no (by simp) (Ev.bind (spec_l03Without_ev nm d (by omega)) (Ev.bind hp (spec_fin _ (by omega)))))
      · rw [hb1 rfl]
        exact Ev.step (spec_DoAct.j2.eq_2 true d k0 nm tx tg f0 f1 f2) (Ev.yes rfl (Ev.now _))
    have j1 : ∀ i : Int, i = impl_placeOf.find nm d 0 → Ev (fun k => spec_DoAct.j1 k i d k0 nm tx tg nm (fileOf d nm).f1 (fileOf d nm).f2) (actO d k0 nm tx tg) := fun i hi => by
      unfold actO
      rw [if_pos hcond, ← hi]
      generalize fileOf d nm = f at hf1 hf2 ⊢
      refine Ev.step (spec_DoAct.j1.eq_2 i d k0 nm tx tg nm f.f1 f.f2) ?_
      by_cases k1 : k0 = 1
      · rw [if_pos k1]
        have hp := spec_l03Put_ev d ⟨nm, f.f1 ++ tx, f.f2⟩ (by omega)
        have hpl := putL_length ⟨nm, f.f1 ++ tx, f.f2⟩ d
        exact Ev.yes k1 (Ev.yes (by omega) (Ev.bind hp (spec_fin _ (by omega))))
      rw [if_neg k1]
      refine Ev.no k1 (Ev.ite (fun h0 => by rw [if_pos h0]; exact Ev.now _) (fun h0 => ?_))
      rw [if_neg h0]
      by_cases k2 : k0 = 2
      · rw [if_pos k2]
        have hp := spec_l03Put_ev d ⟨nm, f.f1, (f.f1.size : Int)⟩ (by omega)
        have hpl := putL_length ⟨nm, f.f1, (f.f1.size : Int)⟩ d
        exact Ev.yes k2 (Ev.bind hp (spec_fin _ (by omega)))
      rw [if_neg k2]
      refine Ev.no k2 ?_
      by_cases k3 : k0 = 3
      · rw [if_pos k3]
        refine Ev.yes k3 (Ev.ite (fun h => j2 _ _ _ _ _ (fun _ => by rw [if_pos (.inl h)]) (fun h => by cases h)) (fun h => Ev.ite (fun h2 => j2 _ _ _ _ _ (fun _ => by rw [if_pos (.inr (.inl h2))]) (fun h => by cases h)) (fun h2 => Ev.bindc (spec_l03Name_eq tg) (j2 _ _ _ _ _ (fun hb => ?_) (fun hb => ?_)))))
        · rw [if_pos (.inr (.inr (by simpa using hb)))]
        · rw [if_neg (fun e => by
            rcases e with e | e | e
            · exact h e
            · exact h2 e
            · exact e (by simpa using hb))]
      rw [if_neg k3]
      refine Ev.no k3 ?_
      by_cases k4 : k0 = 4
      · rw [if_pos k4]
        have hk := keep_len nm d
        exact Ev.yes k4 (Ev.bind (spec_l03Without_ev nm d (by omega)) (spec_fin _ (by omega)))
      · rw [if_neg k4]; exact Ev.no k4 (Ev.now _)
    refine Ev.step (spec_DoAct.j0.eq_2 false d k0 nm tx tg) (Ev.no (by simp) (Ev.bind (spec_l03At_ev d (by omega) nm) ?_))
    have hr := find_range nm d 0
    by_cases h : impl_placeOf.find nm d 0 < 0
    · have := j1 _ rfl
      have e : fileOf d nm = ⟨nm, (⟨#[]⟩ : ByteArray), 0⟩ := by unfold fileOf; rw [if_pos h]
      rw [e] at this
      exact Ev.no (by omega) this
    · have := j1 _ rfl
      have e : fileOf d nm = rd_T45 d (impl_placeOf.find nm d 0) := by unfold fileOf; rw [if_neg h]
      rw [e] at this hf3
      refine Ev.yes (by omega) (Ev.yes (by omega) (Ev.yes (by omega) ?_))
      rw [hf3]
      exact this
  have out : ¬ ((k0 = 3 ∨ tg.toList = []) ∧ (k0 = 1 ∨ tx.toList = [])) → actO d k0 nm tx tg = ([], false) := fun h => by
    unfold actO; rw [if_neg (fun e => h e.2.2)]
  have txt : (k0 = 3 ∨ tg.toList = []) → ¬ k0 = 1 → Ev (fun k => spec_DoAct.j0 k (tx.toList != ([] : List UInt8)) d k0 nm tx tg) (actO d k0 nm tx tg) := fun h3 h1 => by
    by_cases hb : tx.toList = []
    · rw [show (tx.toList != ([] : List UInt8)) = false by rw [hb]; rfl]
      exact main h3 (.inr hb)
    · rw [(wrap_bne tx).2 hb]
      exact bad _ (out (fun e => e.2.elim h1 hb))
  refine Ev.ite (fun h3 => Ev.ite (fun h1 => main (.inl h3) (.inl h1)) (fun h1 => txt (.inl h3) h1)) (fun h3 => Ev.ite (fun hb => Ev.ite (fun h1 => main (.inr hb) (.inl h1)) (fun h1 => txt (.inr hb) h1)) (fun hb => bad _ (out (fun e => e.1.elim h3 hb))))
theorem impl_actOk_eq (k0 : Int) (nm tx tg : ByteArray) : impl_actOk.f k0 nm tx tg = some (decide ((1 ≤ k0 ∧ k0 ≤ 4) ∧ (k0 = 1 ∨ tx.toList = []) ∧ (k0 = 3 ∨ tg.toList = []))) := by
  unfold impl_actOk.f
  rw [impl_within_ev]
  simp only [Option.bind_some]
  by_cases h : 1 ≤ k0 ∧ k0 ≤ 4
  case neg => rw [if_neg (by rw [decide_eq_false h]; simp), decide_eq_false (fun e => h e.1)]
  rw [if_pos (decide_eq_true h)]
  have k3 : (k0 == 3) = decide (k0 = 3) := rfl
  by_cases h1 : tx.toList = []
  · rw [if_pos h1]
    by_cases h2 : tg.toList = []
    · rw [if_pos h2, decide_eq_true ⟨h, .inr h1, .inr h2⟩]
    · rw [if_neg h2, k3]
      congr 1
      exact decide_eq_decide.2 ⟨fun e => ⟨h, .inr h1, .inl e⟩, fun e => e.2.2.resolve_right h2⟩
  · rw [if_neg h1]
    by_cases h4 : k0 = 1
    · rw [if_pos h4]
      by_cases h2 : tg.toList = []
      · rw [if_pos h2, decide_eq_true ⟨h, .inl h4, .inr h2⟩]
      · rw [if_neg h2, k3]
        congr 1
        exact decide_eq_decide.2 ⟨fun e => ⟨h, .inl h4, .inl e⟩, fun e => e.2.2.resolve_right h2⟩
    · rw [if_neg h4, decide_eq_false (fun e => e.2.1.elim h4 h1)]
theorem impl_withFile_eq (d : List S45) (nm tx : ByteArray) (kp : Int) (hs : sorted d) (hl : d.length ≤ 2097152) : impl_withFile.f d nm tx kp = some (putL d ⟨nm, tx, kp⟩) := by
  unfold impl_withFile.f
  rw [if_pos (by omega)]
  congr 1
  exact ins_put ⟨nm, tx, kp⟩ d hs
theorem impl_DoAct_ev (d : List S45) (k0 : Int) (nm tx tg : ByteArray) (hl : d.length ≤ 2097151) (ht : tx.size ≤ 4611686018427387904) : Ev (fun k => impl_DoAct.f k d k0 nm tx tg) (actO d k0 nm tx tg) := by
  have bad : ∀ (i : Int) (R : List S45 × Bool), R = ([], false) → Ev (fun k => impl_DoAct.j0 k i true d k0 nm tx tg) R := fun i R h => by
    rw [h]; exact Ev.step (impl_DoAct.j0.eq_2 i true d k0 nm tx tg) (Ev.yes rfl (Ev.now _))
  unfold impl_DoAct.f
  refine Ev.bindc (show impl_placeOf.f d nm = some (impl_placeOf.find nm d 0) from rfl) (Ev.bind (impl_DiskOk_ev d (by omega)) ?_)
  by_cases hd : diskOkB (d.map pf) = true
  case neg => exact Ev.no hd (bad _ _ (by unfold actO; rw [if_neg (fun h => hd h.1)]))
  refine Ev.yes hd (Ev.bindc (impl_actOk_eq k0 nm tx tg) ?_)
  obtain ⟨hf1, hf2, hf3, hf4⟩ := fileOf_ok (nm := nm) hd
  have hs := ((diskOk_iff d).1 hd).2.2
  have hr := find_range nm d 0
  by_cases ha : (1 ≤ k0 ∧ k0 ≤ 4) ∧ (k0 = 1 ∨ tx.toList = []) ∧ (k0 = 3 ∨ tg.toList = [])
  case neg =>
    refine Ev.no (by rw [decide_eq_false ha]; simp) (bad _ _ ?_)
    unfold actO
    by_cases hc : diskOkB (d.map pf) = true ∧ nameOk nm ∧ (k0 = 3 ∨ tg.toList = []) ∧ (k0 = 1 ∨ tx.toList = [])
    · have hk : ¬ (1 ≤ k0 ∧ k0 ≤ 4) := fun h => ha ⟨h, hc.2.2.2, hc.2.2.1⟩
      rw [if_pos hc, if_neg (by omega), if_neg (show ¬ k0 = 2 by omega), if_neg (show ¬ k0 = 3 by omega), if_neg (show ¬ k0 = 4 by omega)]
      split <;> rfl
    · rw [if_neg hc]
  refine Ev.yes (decide_eq_true ha) ?_
  have main : (k0 = 1 ∨ ¬ impl_placeOf.find nm d 0 < 0) → Ev (fun k => impl_DoAct.j0 k (impl_placeOf.find nm d 0) false d k0 nm tx tg) (actO d k0 nm tx tg) := fun hi => by
    have j2 : ∀ (b : Bool) (f0 f1 : ByteArray) (f2 : Int) (R : List S45 × Bool), (b = true → R = ([], false)) → (b = false → R = finO (putL (impl_withoutFile.keep nm d) ⟨tg, f1, f2⟩)) → Ev (fun k => impl_DoAct.j2 k b d k0 nm tx tg f0 f1 f2) R := fun b f0 f1 f2 R hb1 hb2 => by
      cases b
      · rw [hb2 rfl]
        have hk := keep_len nm d
        have hpl := putL_length ⟨tg, f1, f2⟩ (impl_withoutFile.keep nm d)
        have hw : impl_withoutFile.f d nm = some (impl_withoutFile.keep nm d) := by unfold impl_withoutFile.f; rw [if_pos (by omega)]
        exact Ev.step (impl_DoAct.j2.eq_2 false d k0 nm tx tg f0 f1 f2) (Ev.no (by simp) (Ev.bindc hw (Ev.bindc (impl_withFile_eq _ tg f1 f2 (keep_sorted hs nm) (by omega)) (impl_fin _ (by omega)))))
      · rw [hb1 rfl]
        exact Ev.step (impl_DoAct.j2.eq_2 true d k0 nm tx tg f0 f1 f2) (Ev.yes rfl (Ev.now _))
    have j1 : Ev (fun k => impl_DoAct.j1 k d k0 nm tx tg nm (fileOf d nm).f1 (fileOf d nm).f2) (actO d k0 nm tx tg) := by
      have nmok : ¬ nameOk nm → actO d k0 nm tx tg = ([], false) := fun hn => by unfold actO; rw [if_neg (fun h => hn h.2.1)]
      have hcond : nameOk nm → diskOkB (d.map pf) = true ∧ nameOk nm ∧ (k0 = 3 ∨ tg.toList = []) ∧ (k0 = 1 ∨ tx.toList = []) := fun hn => ⟨hd, hn, ha.2.2, ha.2.1⟩
      refine Ev.step (impl_DoAct.j1.eq_2 d k0 nm tx tg nm (fileOf d nm).f1 (fileOf d nm).f2) ?_
      by_cases k1 : k0 = 1
      · have hpl := putL_length ⟨nm, (fileOf d nm).f1 ++ tx, (fileOf d nm).f2⟩ d
        have e : actO d k0 nm tx tg = finO (putL d ⟨nm, (fileOf d nm).f1 ++ tx, (fileOf d nm).f2⟩) := by
          by_cases hn : nameOk nm
          · unfold actO; rw [if_pos (hcond hn), if_pos k1]
          · rw [nmok hn, finO_bad (mem_put d _) hn]
        rw [e]
        exact Ev.yes k1 (Ev.yes (by omega) (Ev.bindc (impl_withFile_eq d nm _ _ hs (by omega)) (impl_fin _ (by omega))))
      have h0 : ¬ impl_placeOf.find nm d 0 < 0 := hi.resolve_left k1
      have hn := hf4 h0
      unfold actO
      rw [if_pos (hcond hn), if_neg k1, if_neg h0]
      refine Ev.no k1 ?_
      generalize fileOf d nm = f at hf1 hf2 ⊢
      by_cases k2 : k0 = 2
      · rw [if_pos k2]
        have hpl := putL_length ⟨nm, f.f1, (f.f1.size : Int)⟩ d
        exact Ev.yes k2 (Ev.bindc (impl_withFile_eq d nm _ _ hs (by omega)) (impl_fin _ (by omega)))
      rw [if_neg k2]
      refine Ev.no k2 ?_
      by_cases k3 : k0 = 3
      · rw [if_pos k3]
        refine Ev.yes k3 (Ev.ite (fun h => j2 _ _ _ _ _ (fun hb => ?_) (fun hb => ?_)) (fun h => j2 _ _ _ _ _ (fun _ => ?_) (fun hb => by cases hb)))
        · rw [if_pos (.inr (.inl (by simpa using hb)))]
        · have hne : ¬ tg.toList = nm.toList := by simpa using hb
          by_cases hto : nameOk tg
          · rw [if_neg (fun e => by
              rcases e with e | e | e
              · omega
              · exact hne e
              · exact e hto)]
          · rw [if_pos (.inr (.inr hto)), finO_bad (mem_put _ _) hto]
        · rw [if_pos (.inl (by omega))]
      rw [if_neg k3, if_pos (show k0 = 4 by omega)]
      have hk := keep_len nm d
      have hw : impl_withoutFile.f d nm = some (impl_withoutFile.keep nm d) := by unfold impl_withoutFile.f; rw [if_pos (by omega)]
      exact Ev.no k3 (Ev.bindc hw (impl_fin _ (by omega)))
    refine Ev.step (impl_DoAct.j0.eq_2 (impl_placeOf.find nm d 0) false d k0 nm tx tg) (Ev.no (by simp) ?_)
    by_cases h : impl_placeOf.find nm d 0 < 0
    · have e : fileOf d nm = ⟨nm, (⟨#[]⟩ : ByteArray), 0⟩ := by unfold fileOf; rw [if_pos h]
      rw [e] at j1
      exact Ev.no (by omega) j1
    · have e : fileOf d nm = rd_T45 d (impl_placeOf.find nm d 0) := by unfold fileOf; rw [if_neg h]
      rw [e] at j1 hf3
      refine Ev.yes (by omega) (Ev.yes (by omega) (Ev.yes (by omega) ?_))
      rw [hf3]
      exact j1
  refine Ev.ite (fun h => ?_) (fun h => main (.inr h))
  by_cases k1 : k0 = 1
  · rw [show (k0 != 1) = false by rw [k1]; rfl]; exact main (.inl k1)
  · rw [show (k0 != 1) = true from bne_iff_ne.2 k1]
    refine bad _ _ ?_
    unfold actO
    rw [if_neg k1, if_pos h]
    split <;> rfl

/-! acts one after the other -/
theorem rd55_at (l : List S55) (i : Nat) (h : i < l.length) : rd_T55 l (i : Int) = l[i] := by
  unfold rd_T55
  rw [Int.toNat_natCast, List.getD_eq_getElem?_getD, List.getElem?_eq_getElem h]; rfl
def actsO : List S55 → Int → List S45 → List S45 × Int
  | [], i, d => (d, i)
  | a :: r, i, d => if (actO d a.f0 a.f1 a.f2 a.f3).2 = true then actsO r (i + 1) (actO d a.f0 a.f1 a.f2 a.f3).1 else (d, i)
theorem actsO_len : ∀ (l : List S55) (i : Int) (d : List S45), d.length ≤ 2097151 → (actsO l i d).1.length ≤ 2097151
  | [], _, _, h => h
  | a :: r, i, d, h => by
    have hn := actO_len d a.f0 a.f1 a.f2 a.f3
    rw [actsO]
    split
    · exact actsO_len r (i + 1) _ (by omega)
    · exact h
theorem spec_DoActs_l0 (l : List S55) (hl : l.length ≤ 2097152) (ht : ∀ a ∈ l, a.f2.size ≤ 1048576) : ∀ (d i : Nat) (D : List S45), i + d = l.length → D.length ≤ 2097151 → Ev (fun k => spec_DoActs.l0 k l (i : Int) D) (actsO (l.drop i) (i : Int) D) := by
  intro d
  induction d with
  | zero =>
    intro i D hi hD
    refine Ev.step (spec_DoActs.l0.eq_2 l (i : Int) D) (Ev.no (by omega) (Ev.const ?_))
    rw [List.drop_eq_nil_of_le (by omega), actsO, show (l.length : Int) = (i : Int) by omega]
  | succ d ih =>
    intro i D hi hD
    have hlt : i < l.length := by omega
    have e := rd55_at l i hlt
    have w4 : wrap64 ((i : Int) + 1) = ((i + 1 : Nat) : Int) := by rw [w64 (by omega) (by omega)]; omega
    have hx := spec_DoAct_ev D (l[i]).f0 (l[i]).f1 (l[i]).f2 (l[i]).f3 hD (by have := ht _ (List.getElem_mem hlt); omega)
    have hn := actO_len D (l[i]).f0 (l[i]).f1 (l[i]).f2 (l[i]).f3
    rw [List.drop_eq_getElem_cons hlt, actsO]
    refine Ev.step (spec_DoActs.l0.eq_2 l (i : Int) D) (Ev.yes (by omega) (Ev.yes (by omega) ?_))
    rw [w4, e]
    refine Ev.bind hx (Ev.ite (fun h => ?_) (fun h => ?_))
    · rw [if_pos h, show (i : Int) + 1 = ((i + 1 : Nat) : Int) by omega]
      exact ih (i + 1) _ (by omega) (by omega)
    · rw [if_neg h]; exact Ev.now _
theorem spec_DoActs_ev (D : List S45) (l : List S55) (hD : D.length ≤ 2097151) (hl : l.length ≤ 2097152) (ht : ∀ a ∈ l, a.f2.size ≤ 1048576) : Ev (fun k => spec_DoActs.f k D l) (actsO l 0 D) := by
  have h := spec_DoActs_l0 l hl ht l.length 0 D (by omega) hD
  rw [List.drop_zero] at h
  unfold spec_DoActs.f
  exact Ev.bindc rfl (Ev.yes (by show 0 + D.length < _; omega) h)
theorem impl_DoActs_l0 (l : List S55) (hl : l.length ≤ 2097152) (ht : ∀ a ∈ l, a.f2.size ≤ 1048576) : ∀ (d i : Nat) (D : List S45), i + d = l.length → D.length ≤ 2097151 → Ev (fun k => impl_DoActs.l0 k l l (l.length : Int) (i : Int) D) (actsO (l.drop i) (i : Int) D) := by
  intro d
  induction d with
  | zero =>
    intro i D hi hD
    refine Ev.step (impl_DoActs.l0.eq_2 l l (l.length : Int) (i : Int) D) (Ev.no (by omega) (Ev.const ?_))
    rw [List.drop_eq_nil_of_le (by omega), actsO, show (l.length : Int) = (i : Int) by omega]
  | succ d ih =>
    intro i D hi hD
    have hlt : i < l.length := by omega
    have e := rd55_at l i hlt
    have w4 : wrap64 ((i : Int) + 1) = ((i + 1 : Nat) : Int) := by rw [w64 (by omega) (by omega)]; omega
    have hx := impl_DoAct_ev D (l[i]).f0 (l[i]).f1 (l[i]).f2 (l[i]).f3 hD (by have := ht _ (List.getElem_mem hlt); omega)
    have hn := actO_len D (l[i]).f0 (l[i]).f1 (l[i]).f2 (l[i]).f3
    rw [List.drop_eq_getElem_cons hlt, actsO]
    refine Ev.step (impl_DoActs.l0.eq_2 l l (l.length : Int) (i : Int) D) (Ev.yes (by omega) (Ev.yes (by omega) (Ev.yes (by omega) ?_)))
    rw [w4, e]
    refine Ev.bind hx (Ev.ite (fun h => ?_) (fun h => ?_))
    · rw [if_pos h, show (i : Int) + 1 = ((i + 1 : Nat) : Int) by omega]
      exact ih (i + 1) _ (by omega) (by omega)
    · rw [if_neg h]; exact Ev.now _
theorem impl_DoActs_ev (D : List S45) (l : List S55) (hD : D.length ≤ 2097151) (hl : l.length ≤ 2097152) (ht : ∀ a ∈ l, a.f2.size ≤ 1048576) : Ev (fun k => impl_DoActs.f k D l) (actsO l 0 D) := by
  have h := impl_DoActs_l0 l hl ht l.length 0 D (by omega) hD
  rw [List.drop_zero] at h
  have hc : impl_copyDisk.f D = some D := by
    unfold impl_copyDisk.f
    rw [Option.bind_some, if_pos (by show 0 + D.length < _; omega)]; rfl
  unfold impl_DoActs.f
  exact Ev.bindc hc h

/-! a part of the acts, then a loss -/
theorem loseOut_len (l : List S45) (left : List Int) (hl : l.length ≤ 2097152) : (loseOut l left).1.length ≤ 2097152 := by
  unfold loseOut
  split
  · rw [loseL_length]; exact hl
  · simp
def cutO (d : List S45) (l : List S55) (n : Int) (left : List Int) : List S45 × Bool :=
  if 0 ≤ n ∧ n ≤ (l.length : Int) then (if (actsO (l.take n.toNat) 0 d).2 < n then ([], false) else loseOut (actsO (l.take n.toNat) 0 d).1 left) else ([], false)
theorem cutO_len (d : List S45) (l : List S55) (n : Int) (left : List Int) (hd : d.length ≤ 2097151) : (cutO d l n left).1.length ≤ 2097152 := by
  have h := actsO_len (l.take n.toNat) 0 d hd
  unfold cutO
  split
  · split
    · simp
    · exact loseOut_len _ _ (by omega)
  · simp
theorem take_small {l : List S55} (hl : l.length ≤ 2097152) (ht : ∀ a ∈ l, a.f2.size ≤ 1048576) (n : Nat) : (l.take n).length ≤ 2097152 ∧ ∀ a ∈ l.take n, a.f2.size ≤ 1048576 :=
  ⟨by rw [List.length_take]; omega, fun a ha => ht a (List.mem_of_mem_take ha)⟩
theorem spec_CutActs_ev (d : List S45) (l : List S55) (n : Int) (left : List Int) (hd : d.length ≤ 2097151) (hl : l.length ≤ 2097152) (ht : ∀ a ∈ l, a.f2.size ≤ 1048576) : Ev (fun k => spec_CutActs.f k d l n left) (cutO d l n left) := by
  have hs := take_small hl ht n.toNat
  have hx := spec_DoActs_ev d (l.take n.toNat) hd hs.1 hs.2
  have hn := actsO_len (l.take n.toNat) 0 d hd
  unfold spec_CutActs.f cutO
  refine Ev.bindc (spec_l01In_ev n 0 (l.length : Int)) ?_
  by_cases h : 0 ≤ n ∧ n ≤ (l.length : Int)
  · rw [if_pos h]
    refine Ev.yes (decide_eq_true h) (Ev.yes h.1 (Ev.yes h.2 (Ev.bind hx (Ev.ite (fun h2 => ?_) (fun h2 => ?_)))))
    · rw [if_pos h2]; exact Ev.now _
    · rw [if_neg h2]; exact Ev.bind (spec_LoseDisk_ev _ left (by omega)) (Ev.now _)
  · rw [if_neg h]; exact Ev.no (by rw [decide_eq_false h]; simp) (Ev.now _)
theorem impl_CutActs_ev (d : List S45) (l : List S55) (n : Int) (left : List Int) (hd : d.length ≤ 2097151) (hl : l.length ≤ 2097152) (ht : ∀ a ∈ l, a.f2.size ≤ 1048576) : Ev (fun k => impl_CutActs.f k d l n left) (cutO d l n left) := by
  have hs := take_small hl ht n.toNat
  have hx := impl_DoActs_ev d (l.take n.toNat) hd hs.1 hs.2
  have hn := actsO_len (l.take n.toNat) 0 d hd
  unfold impl_CutActs.f cutO
  refine Ev.bindc (impl_within_ev n 0 (l.length : Int)) ?_
  by_cases h : 0 ≤ n ∧ n ≤ (l.length : Int)
  · rw [if_pos h]
    refine Ev.yes (decide_eq_true h) (Ev.yes h.1 (Ev.yes h.2 (Ev.bind hx (Ev.ite (fun h2 => ?_) (fun h2 => ?_)))))
    · rw [if_pos h2]; exact Ev.now _
    · rw [if_neg h2]; exact Ev.bind (impl_LoseDisk_ev _ left (by omega)) (Ev.now _)
  · rw [if_neg h]; exact Ev.no (by rw [decide_eq_false h]; simp) (Ev.now _)

theorem laws_sameDisk_l0 (l : List S45) (hl : l.length ≤ 2097152) : ∀ (d i : Nat), i + d = l.length → Ev (fun k => laws_sameDisk.l0 k (i : Int) l l) true := by
  intro d
  induction d with
  | zero =>
    intro i hi
    exact Ev.step (laws_sameDisk.l0.eq_2 (i : Int) l l) (Ev.no (by omega) (Ev.now _))
  | succ d ih =>
    intro i hi
    refine Ev.step (laws_sameDisk.l0.eq_2 (i : Int) l l) (Ev.yes (by omega) (Ev.yes (by omega) (Ev.yes (by omega) (Ev.no (by simp) ?_))))
    rw [w64 (by omega) (by omega)]
    exact ih (i + 1) (by omega)
theorem laws_sameDisk_ev (l : List S45) (hl : l.length ≤ 2097152) : Ev (fun k => laws_sameDisk.f k l l) true := by
  unfold laws_sameDisk.f
  exact Ev.yes rfl (laws_sameDisk_l0 l hl l.length 0 (by omega))

/-! the reader of draws: whatever it tells, it is in its range -/
theorem spec_l01Byte_ev (b : List Int) (i h : Int) (hb : b.length ≤ 140737488351232) (hi : 0 ≤ i) : ∃ r i' h', spec_l01Byte.f b i h = some (r, i', h') ∧ (0 ≤ r ∧ r ≤ 255) ∧ 0 ≤ i' := by
  unfold spec_l01Byte.f
  by_cases hc : i < (b.length : Int)
  · rw [if_pos hc, if_pos hi, w64 (x := i + 1) (by omega) (by omega)]
    exact ⟨_, _, _, rfl, and_255 _, by omega⟩
  · rw [if_neg hc]
    exact ⟨_, _, _, rfl, and_255 _, hi⟩
theorem spec_l01Below_ev (b : List Int) (i h n : Int) (hb : b.length ≤ 140737488351232) (hi : 0 ≤ i) (hn : n ≤ 4294967296) : ∃ r i' h', spec_l01Below.f b i h n = some (r, i', h') ∧ (0 ≤ r ∧ (r < n ∨ n ≤ 0 ∧ r = 0)) ∧ 0 ≤ i' := by
  unfold spec_l01Below.f
  by_cases h0 : n ≤ 0
  · rw [if_pos h0]; exact ⟨_, _, _, rfl, ⟨by omega, Or.inr ⟨h0, rfl⟩⟩, hi⟩
  rw [if_neg h0]
  by_cases h1 : n ≤ 256
  · rw [if_pos h1]
    obtain ⟨r, i1, g1, e1, r1, j1⟩ := spec_l01Byte_ev b i h hb hi
    rw [e1]
    simp only [Option.bind_some]
    rw [if_neg (by omega)]
    have := tmod_range r n r1.1 (by omega)
    exact ⟨_, _, _, rfl, ⟨this.1, Or.inl this.2⟩, j1⟩
  · rw [if_neg h1]
    obtain ⟨x1, i1, g1, e1, r1, j1⟩ := spec_l01Byte_ev b i h hb hi
    obtain ⟨x2, i2, g2, e2, r2, j2⟩ := spec_l01Byte_ev b i1 g1 hb j1
    obtain ⟨x3, i3, g3, e3, r3, j3⟩ := spec_l01Byte_ev b i2 g2 hb j2
    obtain ⟨x4, i4, g4, e4, r4, j4⟩ := spec_l01Byte_ev b i3 g3 hb j3
    rw [e1]; simp only [Option.bind_some]
    rw [e2]; simp only [Option.bind_some]
    rw [e3]; simp only [Option.bind_some]
    rw [e4]; simp only [Option.bind_some]
    rw [if_neg (by omega)]
    have ew : 0 ≤ wrap64 ((wrap64 ((wrap64 ((wrap64 (x1 * 16777216)) + (wrap64 (x2 * 65536)))) + (wrap64 (x3 * 256)))) + x4) := by
      rw [w64 (x := x1 * 16777216) (by omega) (by omega), w64 (x := x2 * 65536) (by omega) (by omega), w64 (x := x3 * 256) (by omega) (by omega), w64 (x := x1 * 16777216 + x2 * 65536) (by omega) (by omega), w64 (x := x1 * 16777216 + x2 * 65536 + x3 * 256) (by omega) (by omega), w64 (by omega) (by omega)]
      omega
    have := tmod_range _ n ew (by omega)
    exact ⟨_, _, _, rfl, ⟨this.1, Or.inl this.2⟩, j4⟩
theorem spec_l01New_l0 (l : List Int) (hl : l.length ≤ 140737488351232) : ∀ (d : Nat) (i h : Int), 0 ≤ i → (l.length : Int) - i ≤ d → ∃ h', Ev (fun k => spec_l01New.l0 k l h i) (l, 0, h') := by
  intro d
  induction d with
  | zero =>
    intro i h h0 hd
    exact ⟨h, Ev.step (spec_l01New.l0.eq_2 l h i) (Ev.no (by omega) (Ev.now _))⟩
  | succ d ih =>
    intro i h h0 hd
    by_cases h1 : i < (l.length : Int)
    · by_cases h2 : i < 4000
      · obtain ⟨h', e⟩ := ih (i + 1) (Go.bits .and .i64 (wrap64 ((wrap64 ((wrap64 (h * 131)) + (wrap64 (rd l i)))) + 7)) 1073741823) (by omega) (by omega)
        refine ⟨h', Ev.step (spec_l01New.l0.eq_2 l h i) (Ev.yes h1 (Ev.yes h2 (Ev.yes h0 ?_)))⟩
        rw [w64 (x := i + 1) (by omega) (by omega)]
        exact e
      · exact ⟨h, Ev.step (spec_l01New.l0.eq_2 l h i) (Ev.yes h1 (Ev.no h2 (Ev.now _)))⟩
    · exact ⟨h, Ev.step (spec_l01New.l0.eq_2 l h i) (Ev.no h1 (Ev.now _))⟩
theorem spec_l01New_ev (l : List Int) (hl : l.length ≤ 140737488351232) : ∃ h, Ev (fun k => spec_l01New.f k l) (l, 0, h) := by
  obtain ⟨h, e⟩ := spec_l01New_l0 l hl l.length 0 (wrap64 (35201 + (l.length : Int))) (by omega) (by omega)
  exact ⟨h, e⟩

theorem spec_l01Text_l0 (n : Int) (hn : n ≤ 5000) (b : List Int) (hb : b.length ≤ 140737488351232) : ∀ (d : Nat) (j : Int) (xs : List Int) (i h : Int), n - j ≤ d → 0 ≤ j → 0 ≤ i → (xs.length : Int) ≤ j → xs.length ≤ 5000 →
    ∃ t i' h', Ev (fun k => spec_l01Text.l0 k n xs j b i h) (t, i', h') ∧ t.size ≤ 5000 ∧ ((xs.length : Int) = j → j ≤ n → (t.size : Int) = n) ∧ 0 ≤ i' := by
  intro d
  induction d with
  | zero =>
    intro j xs i h hd h0 hi hx hx5
    exact ⟨_, _, _, Ev.step (spec_l01Text.l0.eq_2 n xs j b i h) (Ev.no (by omega) (Ev.now _)), by rw [size_nums]; exact hx5, by rw [size_nums]; omega, hi⟩
  | succ d ih =>
    intro j xs i h hd h0 hi hx hx5
    by_cases hc : j < n
    · obtain ⟨r, i1, h1, e1, r1, j1⟩ := spec_l01Byte_ev b i h hb hi
      obtain ⟨t, i2, h2, e, ht, ht2, hi2⟩ := ih (j + 1) (xs ++ [r % 256]) i1 h1 (by omega) (by omega) j1 (by rw [List.length_append, List.length_singleton]; omega) (by rw [List.length_append, List.length_singleton]; omega)
      refine ⟨t, i2, h2, Ev.step (spec_l01Text.l0.eq_2 n xs j b i h) (Ev.yes hc (Ev.bindc e1 (Ev.yes (by omega) ?_))), ht, ?_, hi2⟩
      · rw [w64 (x := j + 1) (by omega) (by omega)]
        exact e
      · intro h3 h4
        exact ht2 (by rw [List.length_append, List.length_singleton]; omega) (by omega)
    · exact ⟨_, _, _, Ev.step (spec_l01Text.l0.eq_2 n xs j b i h) (Ev.no hc (Ev.now _)), by rw [size_nums]; exact hx5, by rw [size_nums]; omega, hi⟩
theorem spec_l01Text_ev (n : Int) (b : List Int) (i h : Int) (hb : b.length ≤ 140737488351232) (hi : 0 ≤ i) (hn : n ≤ 1000000) :
    ∃ t i' h', Ev (fun k => spec_l01Text.f k b i h n) (t, i', h') ∧ t.size ≤ 5000 ∧ (0 ≤ n → n ≤ 5000 → (t.size : Int) = n) ∧ 0 ≤ i' := by
  unfold spec_l01Text.f
  by_cases hc : n > 5000
  · obtain ⟨t, i2, h2, e, ht, ht2, hi2⟩ := spec_l01Text_l0 5000 (by omega) b hb 5000 0 [] i h (by omega) (by omega) hi (by simp) (by simp)
    exact ⟨t, i2, h2, Ev.yes hc (Ev.step (spec_l01Text.j0.eq_2 _ b i h) e), ht, by omega, hi2⟩
  · obtain ⟨t, i2, h2, e, ht, ht2, hi2⟩ := spec_l01Text_l0 n (by omega) b hb 5000 0 [] i h (by omega) (by omega) hi (by simp) (by simp)
    exact ⟨t, i2, h2, Ev.no hc (Ev.step (spec_l01Text.j0.eq_2 _ b i h) e), ht, fun h3 _ => ht2 rfl h3, hi2⟩

theorem spec_l01Long_l0 (n x : Int) : ∀ (d : Nat) (j : Int) (xs : List Int), j + d = n → 0 ≤ j → n ≤ 1000000 → (xs.length : Int) = n → ∃ t : ByteArray, Ev (fun k => spec_l01Long.l0 k n x xs j) t ∧ (t.size : Int) = n := by
  intro d
  induction d with
  | zero =>
    intro j xs hj h0 hn hx
    exact ⟨_, Ev.step (spec_l01Long.l0.eq_2 n x xs j) (Ev.no (by omega) (Ev.now _)), by rw [size_nums]; exact hx⟩
  | succ d ih =>
    intro j xs hj h0 hn hx
    obtain ⟨t, e, ht⟩ := ih (j + 1) (xs.set j.toNat x) (by omega) (by omega) hn (by rw [List.length_set]; exact hx)
    refine ⟨t, Ev.step (spec_l01Long.l0.eq_2 n x xs j) (Ev.yes (by omega) (Ev.yes h0 (Ev.yes (by omega) ?_))), ht⟩
    rw [w64 (x := j + 1) (by omega) (by omega)]
    exact e
theorem spec_l01Long_ev (n x : Int) (h0 : 0 ≤ n) (hn : n ≤ 1000000) : ∃ t : ByteArray, Ev (fun k => spec_l01Long.f k n x) t ∧ (t.size : Int) = n := by
  unfold spec_l01Long.f
  obtain ⟨t, e, ht⟩ := spec_l01Long_l0 n x n.toNat 0 (List.replicate n.toNat 0) (by omega) (by omega) hn (by rw [List.length_replicate]; omega)
  exact ⟨t, Ev.yes h0 (Ev.yes (by omega) e), ht⟩
theorem spec_l01Once_ev (b : List Int) (i h n : Int) (hb : b.length ≤ 140737488351232) (hi : 0 ≤ i) (hn : n ≤ 4294967296) : ∃ r i' h', spec_l01Once.f b i h n = some (r, i', h') ∧ 0 ≤ i' := by
  obtain ⟨r, i1, h1, e1, -, j1⟩ := spec_l01Below_ev b i h n hb hi hn
  unfold spec_l01Once.f
  rw [e1]
  exact ⟨_, _, _, rfl, j1⟩


/-! what a text draws: some result, of which only a little is told -/
theorem ex_of {α : Type} {A B : Nat → Option α} {P : α → Prop} (h : ∀ r, Ev A r → Ev B r) : (∃ r, Ev A r ∧ P r) → ∃ r, Ev B r ∧ P r := fun ⟨r, e, p⟩ => ⟨r, h r e, p⟩
theorem ex_c {α β : Type} {g : Option β} {a : β} {F : Nat → β → Option α} {P : α → Prop} (hg : g = some a) : (∃ r, Ev (fun k => F k a) r ∧ P r) → ∃ r, Ev (fun k => g.bind (F k)) r ∧ P r := fun ⟨r, e, p⟩ => ⟨r, Ev.bindc hg e, p⟩
theorem ex_b {α β : Type} {G : Nat → Option β} {a : β} {F : Nat → β → Option α} {P : α → Prop} (hg : Ev G a) : (∃ r, Ev (fun k => F k a) r ∧ P r) → ∃ r, Ev (fun k => (G k).bind (F k)) r ∧ P r := fun ⟨r, e, p⟩ => ⟨r, Ev.bind hg e, p⟩
theorem ex_yes {α : Type} {c : Prop} [Decidable c] {A B : Nat → Option α} {P : α → Prop} (hc : c) : (∃ r, Ev A r ∧ P r) → ∃ r, Ev (fun k => if c then A k else B k) r ∧ P r := fun ⟨r, e, p⟩ => ⟨r, Ev.yes hc e, p⟩
theorem ex_no {α : Type} {c : Prop} [Decidable c] {A B : Nat → Option α} {P : α → Prop} (hc : ¬ c) : (∃ r, Ev B r ∧ P r) → ∃ r, Ev (fun k => if c then A k else B k) r ∧ P r := fun ⟨r, e, p⟩ => ⟨r, Ev.no hc e, p⟩
theorem ex_ite {α : Type} {c : Prop} [Decidable c] {A B : Nat → Option α} {P : α → Prop} (h1 : c → ∃ r, Ev A r ∧ P r) (h2 : ¬ c → ∃ r, Ev B r ∧ P r) : ∃ r, Ev (fun k => if c then A k else B k) r ∧ P r :=
  if hc : c then ex_yes hc (h1 hc) else ex_no hc (h2 hc)
theorem ex_pickInt {α : Type} {b : List Int} {i h : Int} {l : List Int} {F : Nat → Int × Int × Int → Option α} {P : α → Prop} (hb : b.length ≤ 140737488351232) (hi : 0 ≤ i) (h0 : 0 < l.length) (hl : l.length ≤ 1000)
    (hF : ∀ p i' h', 0 ≤ i' → ∃ r, Ev (fun k => F k (p, i', h')) r ∧ P r) : ∃ r, Ev (fun k => (spec_l01PickInt.f b i h l).bind (F k)) r ∧ P r := by
  obtain ⟨r, i1, h1, e1, r1, j1⟩ := spec_l01Below_ev b i h (l.length : Int) hb hi (by omega)
  refine ex_c (a := (rd l r, i1, h1)) ?_ (hF _ _ _ j1)
  unfold spec_l01PickInt.f
  rw [e1]
  simp only [Option.bind_some]
  rw [if_pos (by omega), if_pos (by omega)]
theorem ex_pick {α : Type} {b : List Int} {i h : Int} {l : List ByteArray} {F : Nat → ByteArray × Int × Int → Option α} {P : α → Prop} (hb : b.length ≤ 140737488351232) (hi : 0 ≤ i) (h0 : 0 < l.length) (hl : l.length ≤ 1000)
    (hF : ∀ p i' h', 0 ≤ i' → ∃ r, Ev (fun k => F k (p, i', h')) r ∧ P r) : ∃ r, Ev (fun k => (spec_l01Pick.f b i h l).bind (F k)) r ∧ P r := by
  obtain ⟨r, i1, h1, e1, r1, j1⟩ := spec_l01Below_ev b i h (l.length : Int) hb hi (by omega)
  refine ex_c (a := (rdOf ByteArray.empty l r, i1, h1)) ?_ (hF _ _ _ j1)
  unfold spec_l01Pick.f
  rw [e1]
  simp only [Option.bind_some]
  rw [if_pos (by omega), if_pos (by omega)]

theorem named_ev (b : List Int) (i h : Int) (hb : b.length ≤ 140737488351232) (hi : 0 ≤ i) : ∃ r i' h', spec_l03Named.f b i h = some (r, i', h') ∧ 0 ≤ i' := by
  obtain ⟨r, i1, h1, e1, r1, j1⟩ := spec_l01Below_ev b i h 8 hb hi (by omega)
  unfold spec_l03Named.f spec_l01Pick.f
  rw [show ((([(⟨#[97]⟩ : ByteArray), (⟨#[98]⟩ : ByteArray), (⟨#[99]⟩ : ByteArray), (⟨#[106, 48]⟩ : ByteArray), (⟨#[106, 49]⟩ : ByteArray), (⟨#[106, 43]⟩ : ByteArray), (⟨#[115, 48]⟩ : ByteArray), (⟨#[115, 43]⟩ : ByteArray)] : List ByteArray).length : Nat) : Int) = 8 from rfl]
  rw [e1]
  simp only [Option.bind_some]
  rw [if_pos (by omega), if_pos (by omega)]
  exact ⟨_, _, _, rfl, j1⟩
theorem dec_l0 : ∀ (m u : Nat) (acc : ByteArray), u ≤ m → u ≤ 1000000 → acc.size + u ≤ 2000000 → ∃ t, Ev (fun k => spec_Decimal.l0 k (u : Int) false acc) t ∧ t.size ≤ 2000000 := by
  intro m
  induction m with
  | zero =>
    intro u acc hu h1 h2
    exact ⟨acc, Ev.step (spec_Decimal.l0.eq_2 (u : Int) false acc) (Ev.yes (by omega) (Ev.no (by simp) (Ev.now _))), by omega⟩
  | succ m ih =>
    intro u acc hu h1 h2
    by_cases h0 : u = 0
    · subst h0
      exact ⟨acc, Ev.step (spec_Decimal.l0.eq_2 ((0 : Nat) : Int) false acc) (Ev.yes rfl (Ev.no (by simp) (Ev.now _))), by omega⟩
    · have hf : ∀ d, ∃ v, spec_l01Figure.f d = some v := fun d => by unfold spec_l01Figure.f; split <;> exact ⟨_, rfl⟩
      obtain ⟨v, hv⟩ := hf (Int.tmod (u : Int) 10)
      have e1 : wrap64 (Int.tdiv (u : Int) 10) = ((u / 10 : Nat) : Int) := by rw [td10, w64] <;> omega
      have hn : ¬ Int.tmod (u : Int) 10 < 0 := by have := Int.tmod_nonneg (a := (u : Int)) 10 (by omega); omega
      obtain ⟨t, ht, hs⟩ := ih (u / 10) (strOfNums [v] ++ acc) (by omega) (by omega) (by rw [size_append, size_nums, List.length_singleton]; omega)
      refine ⟨t, Ev.step (spec_Decimal.l0.eq_2 (u : Int) false acc) (Ev.no (by omega) (Ev.no hn (Ev.bindc hv (Ev.bindc rfl (Ev.yes (by rw [size_nums, List.length_singleton]; omega) ?_))))), hs⟩
      rw [e1]
      exact ht
theorem dec_ev (n : Int) (h0 : 0 < n) (h1 : n ≤ 1000000) : ∃ t, Ev (fun k => spec_Decimal.f k n) t ∧ t.size ≤ 2000000 := by
  obtain ⟨u, rfl⟩ := Int.eq_ofNat_of_zero_le (show 0 ≤ n by omega)
  obtain ⟨t, ht, hs⟩ := dec_l0 u u (⟨#[]⟩ : ByteArray) (Nat.le_refl _) (by omega) (by show 0 + u ≤ _; omega)
  refine ⟨t, ?_, hs⟩
  unfold spec_Decimal.f
  refine Ev.no (by omega) ?_
  rw [show decide ((u : Int) < 0) = false from decide_eq_false (by omega)]
  exact ht
abbrev DP (r : List S45 × Int × Int) : Prop := r.1.length ≤ 64 ∧ 0 ≤ r.2.1
theorem spec_l03Disk_l1 (b : List Int) (hb : b.length ≤ 140737488351232) : ∀ (m : Nat) (x : Int) (d : List S45) (i h : Int), x + m = 31 → 0 ≤ x → 0 ≤ i → (d.length : Int) ≤ x → ∃ r, Ev (fun k => spec_l03Disk.l1 k x b i h d) r ∧ DP r := by
  intro m
  induction m with
  | zero =>
    intro x d i h hx h0 hi hl
    obtain ⟨r, i1, h1, e1, r1, j1⟩ := spec_l01Below_ev b i h 2 hb hi (by omega)
    have w30 : wrap64 (30 + r) = 30 + r := w64 (by omega) (by omega)
    refine ex_of (fun r hr => Ev.step (spec_l03Disk.l1.eq_2 x b i h d) hr) (ex_c e1 (ex_no ?_ ⟨_, Ev.now _, by show d.length ≤ 64; omega, j1⟩))
    show ¬ x < wrap64 (30 + r)
    omega
  | succ m ih =>
    intro x d i h hx h0 hi hl
    obtain ⟨r, i1, h1, e1, r1, j1⟩ := spec_l01Below_ev b i h 2 hb hi (by omega)
    have w30 : wrap64 (30 + r) = 30 + r := w64 (by omega) (by omega)
    have w1 : wrap64 (x + 1) = x + 1 := w64 (by omega) (by omega)
    have w2 : wrap64 (100 + x) = 100 + x := w64 (by omega) (by omega)
    refine ex_of (fun r hr => Ev.step (spec_l03Disk.l1.eq_2 x b i h d) hr) (ex_c e1 (ex_ite (fun hc => ?_) (fun hc => ⟨_, Ev.now _, by show d.length ≤ 64; omega, j1⟩)))
    rw [w1, w2]
    obtain ⟨t, e2, q2⟩ := dec_ev (100 + x) (by omega) (by omega)
    exact ex_b e2 (ex_yes (by omega) (ex_yes (by omega) (ih (x + 1) _ i1 h1 (by omega) (by omega) j1 (by rw [List.length_append, List.length_singleton]; omega))))
theorem spec_l03Disk_end (b : List Int) (hb : b.length ≤ 140737488351232) (x : Int) (d : List S45) (i h r i1 h1 : Int) (hd : d.length ≤ 5) (e1 : spec_l01Below.f b i h 6 = some (r, i1, h1)) (j1 : 0 ≤ i1) (hc : ¬ x < r) : ∃ r, Ev (fun k => spec_l03Disk.l0 k x b i h d) r ∧ DP r := by
  refine ex_of (fun r hr => Ev.step (spec_l03Disk.l0.eq_2 x b i h d) hr) (ex_c e1 (ex_no hc (ex_ite (fun _ => ⟨_, Ev.now _, by show d.length ≤ 64; omega, j1⟩) (fun h0 => ?_))))
  obtain ⟨f, i2, h2, e2, q2, j2⟩ := spec_l01Below_ev b i1 h1 (d.length : Int) hb j1 (by omega)
  obtain ⟨g, i3, h3, e3, q3, j3⟩ := spec_l01Below_ev b i2 h2 40 hb j2 (by omega)
  have hf0 : 0 ≤ f := q2.1
  have hf1 : f < (d.length : Int) := by omega
  have hset : ∀ (j : Nat) (v : S45), (d.set j v).length ≤ 64 := fun j v => by rw [List.length_set]; omega
  refine ex_c e2 (ex_c e3 (ex_ite (fun _ => ex_yes hf0 (ex_yes hf1 (ex_pickInt hb j3 (by simp) (by simp) (fun p i' h' hi' => ⟨_, Ev.now _, hset _ _, hi'⟩)))) (fun _ => ex_ite (fun _ => ex_yes hf0 (ex_yes hf1 (ex_yes (by omega) ⟨_, Ev.now _, ?_, j3⟩))) (fun _ => ex_ite (fun _ => ex_pick hb j3 (by simp) (by simp) (fun p i' h' hi' => ex_yes hf0 (ex_yes hf1 ⟨_, Ev.now _, hset _ _, hi'⟩))) (fun _ => ex_ite (fun _ => spec_l03Disk_l1 b hb 31 0 [] i3 h3 (by omega) (by omega) j3 (by simp)) (fun _ => ex_ite (fun _ => ?_) (fun _ => ⟨_, Ev.now _, by show d.length ≤ 64; omega, j3⟩)))))))
  · show (d ++ [_]).length ≤ 64
    rw [List.length_append, List.length_singleton]; omega
  · obtain ⟨p, i4, h4, e4, q4, j4⟩ := spec_l01Below_ev b i3 h3 3 hb j3 (by omega)
    have w1 : wrap64 (19999 + p) = 19999 + p := w64 (by omega) (by omega)
    obtain ⟨t, et, -⟩ := spec_l01Long_ev (19999 + p) 65 (by omega) (by omega)
    refine ex_c e4 ?_
    rw [w1]
    exact ex_b et (ex_yes hf0 (ex_yes hf1 ⟨_, Ev.now _, hset _ _, j4⟩))
theorem spec_l03Disk_l0 (b : List Int) (hb : b.length ≤ 140737488351232) : ∀ (m : Nat) (x : Int) (d : List S45) (i h : Int), x + m = 5 → 0 ≤ x → 0 ≤ i → (d.length : Int) ≤ x → ∃ r, Ev (fun k => spec_l03Disk.l0 k x b i h d) r ∧ DP r := by
  intro m
  induction m with
  | zero =>
    intro x d i h hx h0 hi hl
    obtain ⟨r, i1, h1, e1, r1, j1⟩ := spec_l01Below_ev b i h 6 hb hi (by omega)
    exact spec_l03Disk_end b hb x d i h r i1 h1 (by omega) e1 j1 (by omega)
  | succ m ih =>
    intro x d i h hx h0 hi hl
    obtain ⟨r, i1, h1, e1, r1, j1⟩ := spec_l01Below_ev b i h 6 hb hi (by omega)
    by_cases hc : x < r
    · obtain ⟨r2, i2, h2, e2, q2, j2⟩ := spec_l01Below_ev b i1 h1 9 hb j1 (by omega)
      obtain ⟨t, i3, h3, e3, q3, q3', j3⟩ := spec_l01Text_ev r2 b i2 h2 hb j2 (by omega)
      obtain ⟨nm, i4, h4, e4, j4⟩ := named_ev b i3 h3 hb j3
      obtain ⟨kp, i5, h5, e5, q5, j5⟩ := spec_l01Below_ev b i4 h4 ((t.size : Int) + 1) hb j4 (by omega)
      have hp := spec_l03Put_ev d ⟨nm, t, kp⟩ (by omega)
      have hpl := putL_length ⟨nm, t, kp⟩ d
      have w1 : wrap64 (x + 1) = x + 1 := w64 (by omega) (by omega)
      have w2 : wrap64 ((t.size : Int) + 1) = (t.size : Int) + 1 := w64 (by omega) (by omega)
      refine ex_of (fun r hr => Ev.step (spec_l03Disk.l0.eq_2 x b i h d) hr) (ex_c e1 (ex_yes hc (ex_c e2 (ex_b e3 (ex_c e4 ?_)))))
      simp only
      rw [w1, w2]
      exact ex_c e5 (ex_b hp (ih (x + 1) _ i5 h5 (by omega) (by omega) j5 (by omega)))
    · exact spec_l03Disk_end b hb x d i h r i1 h1 (by omega) e1 j1 hc
abbrev AP (r : Int × ByteArray × ByteArray × ByteArray × Int × Int) : Prop := r.2.2.1.size ≤ 5000 ∧ 0 ≤ r.2.2.2.2.1
theorem spec_l03Act_j0 (b : List Int) (hb : b.length ≤ 140737488351232) (i h k0 : Int) (nm tx tg : ByteArray) (hi : 0 ≤ i) (ht : tx.size ≤ 5000) : ∃ r, Ev (fun k => spec_l03Act.j0 k b i h k0 nm tx tg) r ∧ AP r := by
  obtain ⟨g, i1, h1, e1, q1, j1⟩ := spec_l01Below_ev b i h 40 hb hi (by omega)
  refine ex_of (fun r hr => Ev.step (spec_l03Act.j0.eq_2 b i h k0 nm tx tg) hr) (ex_c e1 (ex_ite (fun _ => ex_pickInt hb j1 (by simp) (by simp) (fun p i' h' hi' => ⟨_, Ev.now _, ht, hi'⟩)) (fun _ => ex_ite (fun _ => ex_pick hb j1 (by simp) (by simp) (fun p i' h' hi' => ⟨_, Ev.now _, ht, hi'⟩)) (fun _ => ex_ite (fun _ => ⟨_, Ev.now _, ht, j1⟩) (fun _ => ex_ite (fun _ => ⟨_, Ev.now _, ?_, j1⟩) (fun _ => ⟨_, Ev.now _, ht, j1⟩))))))
  show (1 : Nat) ≤ 5000
  omega
theorem spec_l03Act_ev (b : List Int) (hb : b.length ≤ 140737488351232) (i h : Int) (hi : 0 ≤ i) : ∃ r, Ev (fun k => spec_l03Act.f k b i h) r ∧ AP r := by
  obtain ⟨g, i1, h1, e1, q1, j1⟩ := spec_l01Below_ev b i h 4 hb hi (by omega)
  obtain ⟨nm, i2, h2, e2, j2⟩ := named_ev b i1 h1 hb j1
  unfold spec_l03Act.f
  refine ex_c e1 (ex_c e2 (ex_ite (fun _ => ?_) (fun _ => ex_ite (fun _ => ?_) (fun _ => spec_l03Act_j0 b hb _ _ _ _ _ _ j2 (by show 0 ≤ 5000; omega)))))
  · obtain ⟨n, i3, h3, e3, q3, j3⟩ := spec_l01Below_ev b i2 h2 6 hb j2 (by omega)
    obtain ⟨t, i4, h4, e4, q4, -, j4⟩ := spec_l01Text_ev n b i3 h3 hb j3 (by omega)
    exact ex_c e3 (ex_b e4 (spec_l03Act_j0 b hb _ _ _ _ _ _ j4 q4))
  · obtain ⟨tg, i3, h3, e3, j3⟩ := named_ev b i2 h2 hb j2
    exact ex_c e3 (spec_l03Act_j0 b hb _ _ _ _ _ _ j3 (by show 0 ≤ 5000; omega))
abbrev LP (r : List S55 × Int × Int) : Prop := (r.1.length ≤ 64 ∧ ∀ a ∈ r.1, a.f2.size ≤ 5000) ∧ 0 ≤ r.2.1
theorem spec_l03Acts_l0 (b : List Int) (hb : b.length ≤ 140737488351232) : ∀ (m : Nat) (x : Int) (l : List S55) (i h : Int) (D : List S45), x + m = 8 → 0 ≤ x → 0 ≤ i → (l.length : Int) ≤ x → (∀ a ∈ l, a.f2.size ≤ 5000) → D.length ≤ 64 → ∃ r, Ev (fun k => spec_l03Acts.l0 k l x b i h D) r ∧ LP r := by
  intro m
  induction m with
  | zero =>
    intro x l i h D hx h0 hi hl ht hD
    obtain ⟨r, i1, h1, e1, r1, j1⟩ := spec_l01Below_ev b i h 9 hb hi (by omega)
    exact ex_of (fun r hr => Ev.step (spec_l03Acts.l0.eq_2 l x b i h D) hr) (ex_c e1 (ex_no (by show ¬ x < r; omega) ⟨_, Ev.now _, ⟨by show l.length ≤ 64; omega, ht⟩, j1⟩))
  | succ m ih =>
    intro x l i h D hx h0 hi hl ht hD
    obtain ⟨r, i1, h1, e1, r1, j1⟩ := spec_l01Below_ev b i h 9 hb hi (by omega)
    have w1 : wrap64 (x + 1) = x + 1 := w64 (by omega) (by omega)
    refine ex_of (fun r hr => Ev.step (spec_l03Acts.l0.eq_2 l x b i h D) hr) (ex_c e1 (ex_ite (fun hc => ?_) (fun hc => ⟨_, Ev.now _, ⟨by show l.length ≤ 64; omega, ht⟩, j1⟩)))
    obtain ⟨R, e2, p2, j2⟩ := spec_l03Act_ev b hb i1 h1 j1
    have e3 := spec_DoAct_ev D R.1 R.2.1 R.2.2.1 R.2.2.2.1 (by omega) (by omega)
    have hn := actO_len D R.1 R.2.1 R.2.2.1 R.2.2.2.1
    have ht2 : ∀ a ∈ l ++ [(⟨R.1, R.2.1, R.2.2.1, R.2.2.2.1⟩ : S55)], a.f2.size ≤ 5000 := fun a ha => by
      rcases List.mem_append.1 ha with ha | ha
      · exact ht a ha
      · rw [List.mem_singleton.1 ha]; exact p2
    have hl2 : ((l ++ [(⟨R.1, R.2.1, R.2.2.1, R.2.2.2.1⟩ : S55)]).length : Int) ≤ x + 1 := by rw [List.length_append, List.length_singleton]; omega
    rw [w1]
    refine ex_b e2 (ex_b e3 (ex_ite (fun _ => ex_yes (by omega) (ih (x + 1) _ _ _ _ (by omega) (by omega) j2 hl2 ht2 (by omega))) (fun _ => ?_)))
    obtain ⟨o, i3, h3, e4, j3⟩ := spec_l01Once_ev b R.2.2.2.2.1 R.2.2.2.2.2 20 hb j2 (by omega)
    exact ex_c e4 (ex_ite (fun _ => ex_yes (by omega) (ih (x + 1) _ _ _ _ (by omega) (by omega) j3 hl2 ht2 (by omega))) (fun _ => ih (x + 1) _ _ _ _ (by omega) (by omega) j3 (by omega) ht hD))
theorem spec_l01Place_ev (b : List Int) (i h n : Int) (hb : b.length ≤ 140737488351232) (hi : 0 ≤ i) (hn : n ≤ 4294967296) : ∃ r i' h', spec_l01Place.f b i h n = some (r, i', h') ∧ 0 ≤ i' := by
  obtain ⟨o, i1, h1, e1, j1⟩ := spec_l01Once_ev b i h 15 hb hi (by omega)
  unfold spec_l01Place.f
  rw [e1, Option.bind_some]
  split
  · obtain ⟨r, i2, h2, e2, q2, j2⟩ := spec_l01Below_ev b i1 h1 5 hb j1 (by omega)
    unfold spec_l01PickInt.f
    rw [show ((([(-1), n, wrap64 (n + 1), 9223372036854775807, (-9223372036854775808)] : List Int).length : Nat) : Int) = 5 from rfl, e2]
    simp only [Option.bind_some]
    rw [if_pos (by omega), if_pos (by omega)]
    exact ⟨_, _, _, rfl, j2⟩
  · obtain ⟨r, i2, h2, e2, q2, j2⟩ := spec_l01Below_ev b i1 h1 n hb j1 hn
    simp only
    rw [e2]
    exact ⟨_, _, _, rfl, j2⟩
theorem spec_l03Left_l0 (b : List Int) (hb : b.length ≤ 140737488351232) : ∀ (m : Nat) (x : Int) (l : List Int) (i h : Int), x + m = 5 → 0 ≤ x → 0 ≤ i → (l.length : Int) ≤ x → ∃ r, Ev (fun k => spec_l03Left.l0 k l x b i h) r ∧ True := by
  intro m
  induction m with
  | zero =>
    intro x l i h hx h0 hi hl
    obtain ⟨r, i1, h1, e1, r1, j1⟩ := spec_l01Below_ev b i h 6 hb hi (by omega)
    exact ex_of (fun r hr => Ev.step (spec_l03Left.l0.eq_2 l x b i h) hr) (ex_c e1 (ex_no (by show ¬ x < r; omega) ⟨_, Ev.now _, trivial⟩))
  | succ m ih =>
    intro x l i h hx h0 hi hl
    obtain ⟨r, i1, h1, e1, r1, j1⟩ := spec_l01Below_ev b i h 6 hb hi (by omega)
    have w1 : wrap64 (x + 1) = x + 1 := w64 (by omega) (by omega)
    refine ex_of (fun r hr => Ev.step (spec_l03Left.l0.eq_2 l x b i h) hr) (ex_c e1 (ex_ite (fun hc => ?_) (fun hc => ⟨_, Ev.now _, trivial⟩)))
    rw [w1]
    exact ex_pickInt hb j1 (by simp) (by simp) (fun p i' h' hi' => ex_yes (by omega) (ih (x + 1) _ _ _ (by omega) (by omega) hi' (by rw [List.length_append, List.length_singleton]; omega)))
theorem spec_DrawCutActs_ev (l : List Int) (hl : l.length ≤ 140737488351232) : ∃ r : List S45 × List S55 × Int × List Int, Ev (fun k => spec_DrawCutActs.f k l) r ∧ r.1.length ≤ 64 ∧ r.2.1.length ≤ 64 ∧ ∀ a ∈ r.2.1, a.f2.size ≤ 5000 := by
  obtain ⟨h, e⟩ := spec_l01New_ev l hl
  obtain ⟨d, e1, p1, j1⟩ := spec_l03Disk_l0 l hl 5 0 [] 0 h (by omega) (by omega) (by omega) (by simp)
  obtain ⟨a, e2, p2, j2⟩ := spec_l03Acts_l0 l hl 8 0 [] d.2.1 d.2.2 d.1 (by omega) (by omega) j1 (by simp) (by simp) p1
  have w1 : wrap64 ((a.1.length : Int) + 1) = (a.1.length : Int) + 1 := w64 (by omega) (by omega)
  obtain ⟨p, i3, h3, e3, j3⟩ := spec_l01Place_ev l a.2.1 a.2.2 ((a.1.length : Int) + 1) hl j2 (by omega)
  obtain ⟨q, e4, -⟩ := spec_l03Left_l0 l hl 5 0 [] i3 h3 (by omega) (by omega) j3 (by simp)
  unfold spec_DrawCutActs.f
  refine ex_b e (ex_b e1 (ex_b e2 ?_))
  rw [w1]
  exact ex_c e3 (ex_b e4 ⟨_, Ev.now _, p1, p2.1, p2.2⟩)

theorem find_mem (a : ByteArray) : ∀ (l : List S45) (i : Int), 0 ≤ i → (∃ y ∈ l, y.f0.toList = a.toList) → ¬ impl_placeOf.find a l i < 0
  | [], _, _, h => by obtain ⟨y, hy, -⟩ := h; cases hy
  | x :: r, i, h0, h => by
    unfold impl_placeOf.find
    by_cases hq : x.f0.toList = a.toList
    · rw [if_pos hq]; omega
    · rw [if_neg hq]
      obtain ⟨y, hy, e⟩ := h
      rcases List.mem_cons.1 hy with rfl | hy
      · exact absurd e hq
      · exact find_mem a r (i + 1) (by omega) ⟨y, hy, e⟩
theorem find_not (a : ByteArray) : ∀ (l : List S45) (i : Int), (∀ y ∈ l, ¬ y.f0.toList = a.toList) → impl_placeOf.find a l i < 0
  | [], _, _ => by show (-1 : Int) < 0; omega
  | x :: r, i, h => by
    unfold impl_placeOf.find
    rw [if_neg (h x (by simp))]
    exact find_not a r (i + 1) (fun y hy => h y (List.mem_cons_of_mem _ hy))
def atO (l : List S45) (a : ByteArray) : ByteArray × Bool := if impl_placeOf.find a l 0 < 0 then ((⟨#[]⟩ : ByteArray), false) else ((rd_T45 l (impl_placeOf.find a l 0)).f1, true)
theorem impl_FileAt_eq (l : List S45) (a : ByteArray) : impl_FileAt.f l a = some (atO l a) := by
  have hr := find_range a l 0
  unfold atO
  by_cases h : impl_placeOf.find a l 0 < 0
  · rw [if_pos h]
    show (some (impl_placeOf.find a l 0)).bind _ = _
    simp only [Option.bind_some]
    rw [if_pos h]
  · rw [if_neg h]
    show (some (impl_placeOf.find a l 0)).bind _ = _
    simp only [Option.bind_some]
    rw [if_neg h, if_pos (by omega), if_pos (by omega)]
theorem fileOf_at (d : List S45) (nm : ByteArray) : (fileOf d nm).f1 = (atO d nm).1 := by
  unfold fileOf atO
  split <;> rfl
theorem at_put (x : S45) (d : List S45) : atO (putL d x) x.f0 = (x.f1, true) := by
  have hf := find_mem x.f0 (putL d x) 0 (by omega) ⟨x, mem_put d x, rfl⟩
  unfold atO
  rw [if_neg hf]
  obtain ⟨k, hk, e, e2⟩ := find_at x.f0 (putL d x) 0 (by omega) hf
  have e3 : rd_T45 (putL d x) (impl_placeOf.find x.f0 (putL d x) 0) = (putL d x)[k] := by rw [e, Int.zero_add]; exact rd45_at _ k hk
  rw [e3]
  have hm := List.getElem_mem hk
  generalize (putL d x)[k] = y at e2 hm
  have hy : y = x := by
    unfold putL at hm
    rcases List.mem_append.1 hm with h | h
    · exact absurd (by rw [e2]) (less_ne (List.mem_filter.1 h).2)
    · rcases List.mem_cons.1 h with h | h
      · exact h
      · exact absurd (by rw [e2]) (less_ne (List.mem_filter.1 h).2)
  rw [hy]
theorem at_keep (a : ByteArray) (d : List S45) : (atO (impl_withoutFile.keep a d) a).2 = false := by
  unfold atO
  rw [if_pos (find_not a _ 0 (fun y hy => by
    have h := (List.mem_filter.1 hy).2
    simpa using h))]
theorem finO_true {l : List S45} (h : (finO l).2 = true) : (finO l).1 = l ∧ diskOkB (l.map pf) = true := by
  unfold finO at h ⊢
  split at h
  · rename_i hd; rw [if_pos hd]; exact ⟨rfl, hd⟩
  · cases h
theorem actO_one {d : List S45} {nm tx tg : ByteArray} (h : (actO d 1 nm tx tg).2 = true) : atO (actO d 1 nm tx tg).1 nm = ((atO d nm).1 ++ tx, true) ∧ (atO d nm).1.size + tx.size ≤ 20000 := by
  unfold actO at h ⊢
  split at h
  · rename_i hc
    rw [if_pos rfl] at h
    rw [if_pos hc, if_pos rfl]
    obtain ⟨h1, h2⟩ := finO_true h
    have hs := ((diskOk_iff _).1 h2).2.1 _ (mem_put d ⟨nm, (fileOf d nm).f1 ++ tx, (fileOf d nm).f2⟩)
    have hs2 : (((fileOf d nm).f1 ++ tx).size : Int) ≤ 20000 := hs.2.1
    rw [h1, at_put ⟨nm, (fileOf d nm).f1 ++ tx, (fileOf d nm).f2⟩ d, ← fileOf_at]
    rw [size_append] at hs2
    exact ⟨rfl, by omega⟩
  · cases h
theorem actO_four {d : List S45} {nm tx tg : ByteArray} (h : (actO d 4 nm tx tg).2 = true) : (atO (actO d 4 nm tx tg).1 nm).2 = false := by
  unfold actO at h ⊢
  split at h
  · rename_i hc
    rw [if_pos hc]
    rw [if_neg (show ¬ (4 : Int) = 1 by omega), if_neg (show ¬ (4 : Int) = 2 by omega), if_neg (show ¬ (4 : Int) = 3 by omega), if_pos (show (4 : Int) = 4 from rfl)] at h ⊢
    split at h
    · cases h
    · rename_i hf
      rw [if_neg hf, (finO_true h).1]
      exact at_keep nm d
  · cases h
theorem actsO_ge : ∀ (l : List S55) (i : Int) (d : List S45), i ≤ (actsO l i d).2
  | [], _, _ => Int.le_refl _
  | a :: r, i, d => by
    rw [actsO]
    split
    · have := actsO_ge r (i + 1) (actO d a.f0 a.f1 a.f2 a.f3).1
      omega
    · exact Int.le_refl _
theorem actsO_same : ∀ (l : List S55) (i : Int) (d : List S45), (actsO l i d).2 = i → (actsO l i d).1 = d
  | [], _, _, _ => rfl
  | a :: r, i, d, h => by
    rw [actsO] at h ⊢
    split at h
    · have := actsO_ge r (i + 1) (actO d a.f0 a.f1 a.f2 a.f3).1
      omega
    · rename_i hc; rw [if_neg hc]
theorem acts_loop (l : List S55) (whole : Int) (left : List Int) (d R : List S45) (n : Int) (hl : l.length ≤ 64) (ht : ∀ a ∈ l, a.f2.size ≤ 5000) (hd : d.length ≤ 2097151) (hR : R.length ≤ 2097151) :
    ∀ (m i : Nat) (D : List S45), i + m = l.length → D.length ≤ 2097151 → actsO (l.drop i) (i : Int) D = (R, n) → (i : Int) ≤ n → Ev (fun k => laws_FnActs.l0 k l whole left n (i : Int) d R D) true := by
  have fin : ∀ (i : Nat), (i : Int) = n → Ev (fun k => laws_FnActs.l0 k l whole left n (i : Int) d R R) true := fun i hi => by
    have e1 := impl_CutActs_ev d l whole left hd (by omega) (fun a ha => by have := ht a ha; omega)
    have e2 := spec_CutActs_ev d l whole left hd (by omega) (fun a ha => by have := ht a ha; omega)
    have hc := cutO_len d l whole left hd
    refine Ev.step (laws_FnActs.l0.eq_2 l whole left n (i : Int) d R R) (Ev.no (by omega) (Ev.bind e1 (Ev.bind e2 (Ev.yes (by simp) (Ev.bind (laws_sameDisk_ev _ hc) (Ev.yes rfl (Ev.ite (fun _ => Ev.now _) (fun _ => Ev.bind (laws_sameDisk_ev R (by omega)) (Ev.now _)))))))))
  intro m
  induction m with
  | zero =>
    intro i D hi hD he hn
    rw [List.drop_eq_nil_of_le (by omega), actsO] at he
    injection he with e1 e2
    subst e1
    exact fin i e2
  | succ m ih =>
    intro i D hi hD he hn
    by_cases hq : (i : Int) = n
    · have := actsO_same (l.drop i) (i : Int) D (by rw [he]; exact hq.symm)
      rw [he] at this
      change R = D at this
      subst this
      exact fin i hq
    have hlt : i < l.length := by omega
    have e := rd55_at l i hlt
    have w4 : wrap64 ((i : Int) + 1) = ((i + 1 : Nat) : Int) := by rw [w64 (by omega) (by omega)]; omega
    have hta := ht _ (List.getElem_mem hlt)
    rw [List.drop_eq_getElem_cons hlt, actsO] at he
    have hx := impl_DoAct_ev D (l[i]).f0 (l[i]).f1 (l[i]).f2 (l[i]).f3 hD (by omega)
    have hlen := actO_len D (l[i]).f0 (l[i]).f1 (l[i]).f2 (l[i]).f3
    by_cases hs : (actO D (l[i]).f0 (l[i]).f1 (l[i]).f2 (l[i]).f3).2 = true
    case neg =>
      rw [if_neg hs] at he
      injection he with e1 e2
      exact absurd e2 hq
    rw [if_pos hs, show (i : Int) + 1 = ((i + 1 : Nat) : Int) by omega] at he
    have hnext := ih (i + 1) _ (by omega) (by omega) he (by omega)
    refine Ev.step (laws_FnActs.l0.eq_2 l whole left n (i : Int) d R D) (Ev.yes (by omega) (Ev.yes (by omega) (Ev.yes (by omega) ?_)))
    rw [w4, e]
    refine Ev.bind hx (Ev.yes hs (Ev.bindc (impl_FileAt_eq D (l[i]).f1) (Ev.bindc (impl_FileAt_eq _ (l[i]).f1) ?_)))
    by_cases k1 : (l[i]).f0 = 1
    · have hone : atO (actO D (l[i]).f0 (l[i]).f1 (l[i]).f2 (l[i]).f3).1 (l[i]).f1 = ((atO D (l[i]).f1).1 ++ (l[i]).f2, true) ∧ (atO D (l[i]).f1).1.size + (l[i]).f2.size ≤ 20000 := by
        rw [k1] at hs ⊢
        exact actO_one hs
      rw [hone.1]
      exact Ev.yes k1 (Ev.yes rfl (Ev.yes (by have := hone.2; omega) (Ev.yes rfl (Ev.no (by omega) hnext))))
    · refine Ev.no k1 ?_
      by_cases k4 : (l[i]).f0 = 4
      · have hfour : (atO (actO D (l[i]).f0 (l[i]).f1 (l[i]).f2 (l[i]).f3).1 (l[i]).f1).2 = false := by
          rw [k4] at hs ⊢
          exact actO_four hs
        exact Ev.yes k4 (Ev.no (by rw [hfour]; simp) hnext)
      · exact Ev.no k4 hnext
theorem FnActs : laws_FnActs.Pure := by
  intro l hm hl hw
  apply Ev.rounds
  unfold laws_FnActs.f
  refine Ev.bindc (show laws_big.f l = some (decide ((l.length : Int) > 1048576)) from rfl) (Ev.ite (fun _ => Ev.now _) (fun hbig => ?_))
  obtain ⟨T, eT, t1, t2, t3⟩ := spec_DrawCutActs_ev l (by omega)
  obtain ⟨d, acts, whole, left⟩ := T
  have e1 := impl_DoActs_ev d acts (by have : d.length ≤ 64 := t1; omega) (by have : acts.length ≤ 64 := t2; omega) (fun a ha => by have := t3 a ha; omega)
  have e2 := spec_DoActs_ev d acts (by have : d.length ≤ 64 := t1; omega) (by have : acts.length ≤ 64 := t2; omega) (fun a ha => by have := t3 a ha; omega)
  have hol := actsO_len acts 0 d (by have : d.length ≤ 64 := t1; omega)
  have hge := actsO_ge acts 0 d
  obtain ⟨P, hP⟩ : ∃ P, P = actsO acts 0 d := ⟨_, rfl⟩
  rw [← hP] at e1 e2 hol hge
  obtain ⟨R, n⟩ := P
  refine Ev.bind eT (Ev.bind e1 (Ev.bind e2 (Ev.yes rfl (Ev.bind (laws_sameDisk_ev R (by have : R.length ≤ 2097151 := hol; omega)) ?_))))
  refine Ev.step (laws_FnActs.j0.eq_2 acts whole left n (!true) d R) (Ev.no (by simp) ?_)
  exact acts_loop acts whole left d R n t2 t3 (by have : d.length ≤ 64 := t1; omega) hol acts.length 0 d (by omega) (by have : d.length ≤ 64 := t1; omega) hP.symm hge
end Go.Proofs.Ytdiecogmaiglaaa.Pure
