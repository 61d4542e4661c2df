/- Of a drawn right disk what is kept is never lost; of what is not kept a beginning is left; lost again, nothing more is lost. For every list of bytes; no condition. -/
import Derived.Test.YtdiecogmaiglaaaDisk
import Derived.Test.YtdiecogmaiglaaaQFnKeepsx9
namespace Go.Proofs.Ytdiecogmaiglaaa.Pure
open Go.RowKit Go.Proofs.Ytdiecogmaiglaaa.PFnKeeps Go.Proofs.YtdiecogmaiglaaaW.PrintWords Go.Proofs.YtdiecogmaiglaaaW.PrintLast Go.Proofs.YtdiecogmaiglaaaW.PrintMore Go.Proofs.Ytdiecogmaiglaaa.Gen
set_option linter.unusedVariables false

theorem impl_within_ev (a b c : Int) : impl_within.f a b c = some (decide (b ≤ a ∧ a ≤ c)) := by
  unfold impl_within.f
  by_cases h : a ≥ b
  · rw [if_pos h]; congr 1; simp; omega
  · rw [if_neg h]; congr 1; simp; omega

def pf (x : S45) : Fl := ⟨x.f0, x.f1, x.f2⟩
theorem rd45_at (l : List S45) (i : Nat) (h : i < l.length) : rd_T45 l (i : Int) = l[i] := by
  unfold rd_T45
  rw [Int.toNat_natCast, List.getD_eq_getElem?_getD, List.getElem?_eq_getElem h]; rfl
theorem impl_DiskOk_l0 (l : List S45) (hl : l.length ≤ 2097152) : ∀ (d i : Nat) (p : Option ByteArray), i + d = l.length → (i = 0 → p = none) → (0 < i → p = some (rd_T45 l ((i : Int) - 1)).f0) →
    Ev (fun k => impl_DiskOk.l0 k l (l.length : Int) (i : Int) l) (diskOkL p ((l.drop i).map pf) && decide ((l.length : Int) ≤ 30)) := by
  intro d
  induction d with
  | zero =>
    intro i p hi h0 h1
    refine Ev.step (impl_DiskOk.l0.eq_2 l (l.length : Int) (i : Int) l) (Ev.no (by omega) (Ev.const ?_))
    rw [List.drop_eq_nil_of_le (by omega)]; rfl
  | succ d ih =>
    intro i p hi h0 h1
    have hlt : i < l.length := by omega
    obtain ⟨x, hx⟩ : ∃ x, x = rd_T45 l (i : Int) := ⟨_, rfl⟩
    have e : x = l[i] := hx.trans (rd45_at l i hlt)
    have hn : Ev (fun k => impl_DiskOk.l0 k l (l.length : Int) ((i + 1 : Nat) : Int) l) (diskOkL (some x.f0) ((l.drop (i + 1)).map pf) && decide ((l.length : Int) ≤ 30)) := by
      refine ih (i + 1) (some x.f0) (by omega) (fun h => by omega) (fun _ => ?_)
      have e3 : (((i + 1 : Nat) : Int) - 1) = (i : Int) := by omega
      rw [e3, ← hx]
    have hd : diskOkL p ((l.drop i).map pf) = (decide ((1 ≤ (x.f0.size : Int) ∧ (x.f0.size : Int) ≤ 8) ∧ (x.f1.size : Int) ≤ 20000 ∧ (0 ≤ x.f2 ∧ x.f2 ≤ (x.f1.size : Int))) && ordB p x.f0 && diskOkL (some x.f0) ((l.drop (i + 1)).map pf)) := by
      rw [List.drop_eq_getElem_cons hlt, ← e]; rfl
    have e2 : wrap64 ((i : Int) + 1) = ((i + 1 : Nat) : Int) := by rw [w64 (by omega) (by omega)]; omega
    refine Ev.step (impl_DiskOk.l0.eq_2 l (l.length : Int) (i : Int) l) ?_
    rw [e2, ← hx, hd]
    clear e2 e ih hd
    have hz : 0 < i → wrap64 ((i : Int) - 1) = (i : Int) - 1 := fun h => w64 (by omega) (by omega)
    refine Ev.yes (by omega) (Ev.yes (by omega) (Ev.yes (by omega) (Ev.bindc (impl_within_ev _ _ _) ?_)))
    refine Ev.ite (fun h2 => ?_) (fun h2 => ?_)
    · rw [decide_eq_true_eq] at h2
      refine Ev.ite (fun h3 => ?_) (fun h3 => ?_)
      · rw [decide_eq_false (fun h7 => by omega)]; exact Ev.now _
      · refine Ev.bindc (impl_within_ev _ _ _) ?_
        refine Ev.ite (fun h4 => ?_) (fun h4 => ?_)
        · rw [decide_eq_true_eq] at h4
          refine Ev.ite (fun h5 => ?_) (fun h5 => ?_)
          · rw [hz (by omega)]
            rw [h1 (by omega)]
            have eo : ∀ q : ByteArray, ordB (some q) x.f0 = Op.bytesLess q.toList x.f0.toList := fun _ => rfl
            rw [eo]
            clear hz
            refine Ev.yes (by omega) (Ev.yes (by omega) ?_)
            rw [decide_eq_true (show (1 ≤ (x.f0.size : Int) ∧ (x.f0.size : Int) ≤ 8) ∧ (x.f1.size : Int) ≤ 20000 ∧ (0 ≤ x.f2 ∧ x.f2 ≤ (x.f1.size : Int)) from ⟨h2, by omega, h4⟩), Bool.true_and]
            refine Ev.ite (fun h6 => ?_) (fun h6 => ?_)
            · simp only [h6, Bool.true_and]; exact hn
            · rw [Bool.not_eq_true] at h6
              simp only [h6, Bool.false_and]; exact Ev.now _
          · clear hz
            rw [h0 (by omega), show ordB none x.f0 = true from rfl]
            rw [decide_eq_true (show (1 ≤ (x.f0.size : Int) ∧ (x.f0.size : Int) ≤ 8) ∧ (x.f1.size : Int) ≤ 20000 ∧ (0 ≤ x.f2 ∧ x.f2 ≤ (x.f1.size : Int)) from ⟨h2, by omega, h4⟩), Bool.true_and, Bool.true_and]
            exact hn
        · rw [decide_eq_true_eq] at h4
          rw [decide_eq_false (fun h7 => h4 h7.2.2)]; exact Ev.now _
    · rw [decide_eq_true_eq] at h2
      rw [decide_eq_false (fun h7 => h2 h7.1)]; exact Ev.now _
theorem impl_DiskOk_ev (l : List S45) (hl : l.length ≤ 2097152) : Ev (fun k => impl_DiskOk.f k l) (diskOkB (l.map pf)) := by
  have := impl_DiskOk_l0 l hl l.length 0 none (by omega) (fun _ => rfl) (fun h => by omega)
  unfold diskOkB
  rw [List.length_map, Bool.and_comm]
  exact this

/-- how many bytes are left of the file at place i -/
def loseN (left : List Int) (i : Nat) (x : S45) : Int := mx x.f2 (mn (if (i : Int) < (left.length : Int) then rd left (i : Int) else 0) (x.f1.size : Int))
def loseS (left : List Int) (i : Nat) (x : S45) : S45 := ⟨x.f0, x.f1.extract 0 (loseN left i x).toNat, loseN left i x⟩
def loseL (left : List Int) : Nat → List S45 → List S45
  | _, [] => []
  | i, x :: l => loseS left i x :: loseL left (i + 1) l
theorem loseL_length (left : List Int) : ∀ (l : List S45) (i : Nat), (loseL left i l).length = l.length
  | [], _ => rfl
  | x :: l, i => by simp [loseL, loseL_length left l (i + 1)]
theorem loseL_get (left : List Int) : ∀ (l : List S45) (i j : Nat) (h : j < l.length), (loseL left i l)[j]'(by rw [loseL_length]; exact h) = loseS left (i + j) l[j]
  | [], _, _, h => by simp at h
  | x :: l, i, 0, _ => rfl
  | x :: l, i, j + 1, h => by
    have := loseL_get left l (i + 1) j (by simpa using h)
    simp only [loseL, List.getElem_cons_succ]
    rw [this]; congr 1; omega
theorem loseN_range (left : List Int) (i : Nat) (x : S45) (h0 : 0 ≤ x.f2) (h1 : x.f2 ≤ (x.f1.size : Int)) : 0 ≤ loseN left i x ∧ loseN left i x ≤ (x.f1.size : Int) := by
  unfold loseN mx mn
  generalize (if (i : Int) < (left.length : Int) then rd left (i : Int) else 0) = m
  split <;> split at * <;> omega
def Kept (l : List S45) : Prop := ∀ f ∈ l.map pf, 0 ≤ f.k ∧ f.k ≤ (f.t.size : Int)
def loseOut (l : List S45) (left : List Int) : List S45 × Bool := if diskOkB (l.map pf) = true then (loseL left 0 l, true) else ([], false)

theorem impl_LoseDisk_l0 (l : List S45) (left : List Int) (hl : l.length ≤ 2097152) (hok : Kept l) : ∀ (d i : Nat) (out : List S45), i + d = l.length → out.length = l.length → out.take i = (loseL left 0 l).take i →
    Ev (fun k => impl_LoseDisk.l0 k left l (l.length : Int) (i : Int) out) (loseL left 0 l, true) := by
  intro d
  induction d with
  | zero =>
    intro i out hi ho ht
    refine Ev.step (impl_LoseDisk.l0.eq_2 left l (l.length : Int) (i : Int) out) (Ev.no (by omega) (Ev.const ?_))
    rw [List.take_of_length_le (by omega), List.take_of_length_le (by rw [loseL_length]; omega)] at ht
    rw [ht]
  | succ d ih =>
    intro i out hi ho ht
    have hlt : i < l.length := by omega
    have hlt2 : i < out.length := by omega
    obtain ⟨x, hx⟩ : ∃ x, x = rd_T45 l (i : Int) := ⟨_, rfl⟩
    have e : x = l[i] := hx.trans (rd45_at l i hlt)
    have hk := hok (pf l[i]) (List.mem_map_of_mem (List.getElem_mem hlt))
    rw [← e] at hk
    have hk' : 0 ≤ x.f2 ∧ x.f2 ≤ (x.f1.size : Int) := hk
    have hr := loseN_range left i x hk'.1 hk'.2
    have hnext : Ev (fun k => impl_LoseDisk.l0 k left l (l.length : Int) ((i + 1 : Nat) : Int) (out.set i (loseS left i x))) (loseL left 0 l, true) := by
      refine ih (i + 1) _ (by omega) (by rw [List.length_set]; exact ho) ?_
      rw [take_set_next out i _ hlt2, ht, List.take_succ_eq_append_getElem (by rw [loseL_length]; exact hlt), loseL_get left l 0 i hlt, Nat.zero_add, e]
    have w4 : wrap64 ((i : Int) + 1) = ((i + 1 : Nat) : Int) := by rw [w64 (by omega) (by omega)]; omega
    refine Ev.step (impl_LoseDisk.l0.eq_2 left l (l.length : Int) (i : Int) out) ?_
    rw [w4, ← hx]
    clear w4
    refine Ev.yes (by omega) (Ev.yes (by omega) (Ev.yes (by omega) ?_))
    rw [Int.toNat_natCast]
    refine Ev.ite (fun h => ?_) (fun h => ?_)
    · have en : mx x.f2 (mn (rd left (i : Int)) (x.f1.size : Int)) = loseN left i x := by unfold loseN; rw [if_pos h]
      rw [en]
      exact Ev.yes hr.1 (Ev.yes hr.2 (Ev.yes (by omega) hnext))
    · have en : x.f2 = loseN left i x := by
        unfold loseN; rw [if_neg h]; unfold mx mn
        split <;> split at * <;> omega
      refine Ev.yes hk'.1 (Ev.yes hk'.2 (Ev.yes (by omega) ?_))
      have es : (⟨x.f0, x.f1.extract 0 x.f2.toNat, x.f2⟩ : S45) = loseS left i x := by unfold loseS; rw [← en]
      rw [es]
      exact hnext
theorem impl_LoseDisk_ev (l : List S45) (left : List Int) (hl : l.length ≤ 2097152) : Ev (fun k => impl_LoseDisk.f k l left) (loseOut l left) := by
  unfold impl_LoseDisk.f loseOut
  refine Ev.bind (impl_DiskOk_ev l hl) ?_
  refine Ev.ite (fun h => ?_) (fun h => ?_)
  · rw [if_pos h]
    have h' := h
    simp only [diskOkB, Bool.and_eq_true] at h'
    have hc : impl_copyDisk.f l = some l := by
      unfold impl_copyDisk.f
      simp only [Option.bind_some, List.length_nil, List.nil_append]
      rw [if_pos (by omega)]
    refine Ev.bindc hc ?_
    exact impl_LoseDisk_l0 l left hl (fun f hf => (diskOkL_mem h'.2 f hf).2.2) l.length 0 l (by omega) rfl (by simp)
  · rw [if_neg h]; exact Ev.now _

theorem impl_AllKept_l0 (l : List S45) (hl : l.length ≤ 2097152) : ∀ (d i : Nat), i + d = l.length → Ev (fun k => impl_AllKept.l0 k l (l.length : Int) (i : Int) l) (keptB ((l.drop i).map pf) && diskOkB (l.map pf)) := by
  intro d
  induction d with
  | zero =>
    intro i hi
    refine Ev.step (impl_AllKept.l0.eq_2 l (l.length : Int) (i : Int) l) (Ev.no (by omega) (Ev.bind (impl_DiskOk_ev l hl) (Ev.const ?_)))
    rw [List.drop_eq_nil_of_le (by omega)]; rfl
  | succ d ih =>
    intro i hi
    have hlt : i < l.length := by omega
    obtain ⟨x, hx⟩ : ∃ x, x = rd_T45 l (i : Int) := ⟨_, rfl⟩
    have e : x = l[i] := hx.trans (rd45_at l i hlt)
    refine Ev.step (impl_AllKept.l0.eq_2 l (l.length : Int) (i : Int) l) (Ev.yes (by omega) (Ev.yes (by omega) (Ev.yes (by omega) ?_)))
    rw [w64 (by omega) (by omega), ← hx, List.drop_eq_getElem_cons hlt, ← e]
    have e2 : keptB ((x :: l.drop (i + 1)).map pf) = (decide (x.f2 = (x.f1.size : Int)) && keptB ((l.drop (i + 1)).map pf)) := rfl
    rw [e2]
    refine Ev.ite (fun h => ?_) (fun h => ?_)
    · rw [decide_eq_true h, Bool.true_and]; exact ih (i + 1) (by omega)
    · rw [decide_eq_false h, Bool.false_and, Bool.false_and]; exact Ev.now _
theorem impl_AllKept_ev (l : List S45) (hl : l.length ≤ 2097152) : Ev (fun k => impl_AllKept.f k l) (allKeptB (l.map pf)) := impl_AllKept_l0 l hl l.length 0 (by omega)

/-! the order of texts -/
theorem less_trans : ∀ a b c : List UInt8, Op.bytesLess a b = true → Op.bytesLess b c = true → Op.bytesLess a c = true
  | _, [], c, h, _ => by cases c <;> simp [Op.bytesLess] at h
  | _, _ :: _, [], _, h => by simp [Op.bytesLess] at h
  | [], _ :: _, _ :: _, _, _ => rfl
  | x :: a, y :: b, z :: c, h1, h2 => by
    simp only [Op.bytesLess, Bool.or_eq_true, decide_eq_true_eq, Bool.and_eq_true, beq_iff_eq] at h1 h2 ⊢
    rcases h1 with h1 | ⟨rfl, h1⟩
    · rcases h2 with h2 | ⟨rfl, h2⟩
      · exact .inl (UInt8.lt_trans h1 h2)
      · exact .inl h1
    · rcases h2 with h2 | ⟨rfl, h2⟩
      · exact .inl h2
      · exact .inr ⟨rfl, less_trans a b c h1 h2⟩
theorem less_self : ∀ a : List UInt8, Op.bytesLess a a = false
  | [] => rfl
  | x :: a => by
    simp only [Op.bytesLess, less_self a, Bool.and_false, Bool.or_false, decide_eq_false_iff_not]
    exact UInt8.lt_irrefl x
/-- one name ahead of another -/
def nless (a b : ByteArray) : Bool := Op.bytesLess a.toList b.toList
theorem nless_trans {a b c : ByteArray} (h1 : nless a b = true) (h2 : nless b c = true) : nless a c = true := less_trans _ _ _ h1 h2
def fileOk (x : S45) : Prop := (1 ≤ (x.f0.size : Int) ∧ (x.f0.size : Int) ≤ 8) ∧ (x.f1.size : Int) ≤ 20000 ∧ (0 ≤ x.f2 ∧ x.f2 ≤ (x.f1.size : Int))
def sorted (l : List S45) : Prop := l.Pairwise (fun a b => nless a.f0 b.f0 = true)
theorem diskOkL_iff : ∀ (l : List S45) (p : Option ByteArray), diskOkL p (l.map pf) = true ↔ (∀ x ∈ l, fileOk x) ∧ sorted l ∧ (∀ q, p = some q → ∀ x ∈ l, nless q x.f0 = true)
  | [], p => by simp [diskOkL, sorted]
  | x :: l, p => by
    have ih := diskOkL_iff l (some x.f0)
    constructor
    · intro h
      obtain ⟨h1, h2, h3⟩ := diskOkL_cons (f := pf x) (l := l.map pf) (by simpa using h)
      obtain ⟨a1, a2, a3⟩ := ih.1 h3
      refine ⟨?_, ?_, ?_⟩
      · intro y hy
        rcases List.mem_cons.1 hy with rfl | hy
        · exact h1
        · exact a1 y hy
      · exact List.pairwise_cons.2 ⟨fun y hy => a3 _ rfl y hy, a2⟩
      · intro q hq y hy
        rcases List.mem_cons.1 hy with rfl | hy
        · exact h2 q hq
        · exact nless_trans (h2 q hq) (a3 _ rfl y hy)
    · rintro ⟨a1, a2, a3⟩
      obtain ⟨b1, b2⟩ := List.pairwise_cons.1 a2
      have h3 := ih.2 ⟨fun y hy => a1 y (List.mem_cons_of_mem _ hy), b2, fun q hq y hy => by cases hq; exact b1 y hy⟩
      have h4 : ordB p x.f0 = true := by
        cases p with
        | none => rfl
        | some q => exact a3 q rfl x (by simp)
      have h1 := a1 x (by simp)
      simp only [List.map_cons, diskOkL, Bool.and_eq_true]
      exact ⟨⟨decide_eq_true h1, h4⟩, h3⟩
theorem diskOk_iff (l : List S45) : diskOkB (l.map pf) = true ↔ l.length ≤ 30 ∧ (∀ x ∈ l, fileOk x) ∧ sorted l := by
  unfold diskOkB
  rw [Bool.and_eq_true, diskOkL_iff, List.length_map, decide_eq_true_eq]
  constructor
  · rintro ⟨h1, h2, h3, -⟩; exact ⟨by omega, h2, h3⟩
  · rintro ⟨h1, h2, h3⟩; exact ⟨by omega, h2, h3, fun q hq => by cases hq⟩
/-- a file put in its place -/
def putL (d : List S45) (x : S45) : List S45 := d.filter (fun y => nless y.f0 x.f0) ++ x :: d.filter (fun y => nless x.f0 y.f0)
theorem putL_sorted {d : List S45} (h : sorted d) (x : S45) : sorted (putL d x) := by
  unfold putL sorted
  refine List.pairwise_append.2 ⟨h.sublist List.filter_sublist, List.pairwise_cons.2 ⟨fun y hy => (List.mem_filter.1 hy).2, h.sublist List.filter_sublist⟩, ?_⟩
  intro a ha b hb
  have h1 := (List.mem_filter.1 ha).2
  rcases List.mem_cons.1 hb with rfl | hb
  · exact h1
  · exact nless_trans h1 (List.mem_filter.1 hb).2
theorem putL_ok {d : List S45} (h : ∀ y ∈ d, fileOk y) {x : S45} (hx : fileOk x) : ∀ y ∈ putL d x, fileOk y := by
  intro y hy
  unfold putL at hy
  rcases List.mem_append.1 hy with hy | hy
  · exact h y (List.mem_filter.1 hy).1
  · rcases List.mem_cons.1 hy with rfl | hy
    · exact hx
    · exact h y (List.mem_filter.1 hy).1
theorem less_not {a b : ByteArray} (h : nless a b = true) : nless b a = false := by
  cases e : nless b a with
  | false => rfl
  | true =>
    have := nless_trans h e
    unfold nless at this
    rw [less_self] at this; cases this
theorem putL_length (x : S45) : ∀ d : List S45, (putL d x).length ≤ d.length + 1 := by
  intro d
  unfold putL
  rw [List.length_append, List.length_cons]
  have : (d.filter (fun y => nless y.f0 x.f0)).length + (d.filter (fun y => nless x.f0 y.f0)).length ≤ d.length := by
    induction d with
    | nil => simp
    | cons y d ih =>
      rw [List.filter_cons, List.filter_cons]
      by_cases h1 : nless y.f0 x.f0 = true
      · rw [if_pos h1, if_neg (by rw [less_not h1]; simp)]
        simp only [List.length_cons]; omega
      · rw [if_neg h1]
        split <;> simp only [List.length_cons] <;> omega
  omega

theorem spec_l03Put_l1 (d : List S45) (x : S45) (hd : d.length ≤ 2097152) : ∀ (m i : Nat) (acc : List S45), i + m = d.length → acc.length ≤ d.length + 1 + i →
    Ev (fun k => spec_l03Put.l1 k (i : Int) d x.f0 x.f1 x.f2 acc) (acc ++ (d.drop i).filter (fun y => nless x.f0 y.f0)) := by
  intro m
  induction m with
  | zero =>
    intro i acc hi ha
    refine Ev.step (spec_l03Put.l1.eq_2 (i : Int) d x.f0 x.f1 x.f2 acc) (Ev.no (by omega) (Ev.const ?_))
    rw [List.drop_eq_nil_of_le (by omega)]; simp
  | succ m ih =>
    intro i acc hi ha
    have hlt : i < d.length := by omega
    have e := rd45_at d i hlt
    have w4 : wrap64 ((i : Int) + 1) = ((i + 1 : Nat) : Int) := by rw [w64 (by omega) (by omega)]; omega
    refine Ev.step (spec_l03Put.l1.eq_2 (i : Int) d x.f0 x.f1 x.f2 acc) (Ev.yes (by omega) (Ev.yes (by omega) ?_))
    rw [w4, e, List.drop_eq_getElem_cons hlt, List.filter_cons]
    refine Ev.ite (fun h => ?_) (fun h => ?_)
    · rw [if_pos (show nless x.f0 d[i].f0 = true from h)]
      refine Ev.yes (by omega) ?_
      have := ih (i + 1) (acc ++ [d[i]]) (by omega) (by rw [List.length_append, List.length_singleton]; omega)
      rw [List.append_assoc] at this
      exact this
    · rw [if_neg (show ¬ nless x.f0 d[i].f0 = true from h)]
      exact ih (i + 1) acc (by omega) (by omega)
theorem spec_l03Put_l0 (d : List S45) (x : S45) (hd : d.length ≤ 2097152) : ∀ (m i : Nat) (acc : List S45), i + m = d.length → acc.length ≤ i →
    Ev (fun k => spec_l03Put.l0 k (i : Int) d x.f0 x.f1 x.f2 acc) ((acc ++ (d.drop i).filter (fun y => nless y.f0 x.f0)) ++ x :: d.filter (fun y => nless x.f0 y.f0)) := by
  intro m
  induction m with
  | zero =>
    intro i acc hi ha
    refine Ev.step (spec_l03Put.l0.eq_2 (i : Int) d x.f0 x.f1 x.f2 acc) (Ev.no (by omega) (Ev.yes (by omega) ?_))
    have := spec_l03Put_l1 d x hd d.length 0 (acc ++ [x]) (by omega) (by rw [List.length_append, List.length_singleton]; omega)
    rw [List.drop_zero, List.append_assoc] at this
    rw [List.drop_eq_nil_of_le (by omega), List.filter_nil, List.append_nil]
    exact this
  | succ m ih =>
    intro i acc hi ha
    have hlt : i < d.length := by omega
    have e := rd45_at d i hlt
    have w4 : wrap64 ((i : Int) + 1) = ((i + 1 : Nat) : Int) := by rw [w64 (by omega) (by omega)]; omega
    refine Ev.step (spec_l03Put.l0.eq_2 (i : Int) d x.f0 x.f1 x.f2 acc) (Ev.yes (by omega) (Ev.yes (by omega) ?_))
    rw [w4, e, List.drop_eq_getElem_cons hlt, List.filter_cons]
    refine Ev.ite (fun h => ?_) (fun h => ?_)
    · rw [if_pos (show nless d[i].f0 x.f0 = true from h)]
      refine Ev.yes (by omega) ?_
      have := ih (i + 1) (acc ++ [d[i]]) (by omega) (by rw [List.length_append, List.length_singleton]; omega)
      rw [List.append_assoc acc] at this
      exact this
    · rw [if_neg (show ¬ nless d[i].f0 x.f0 = true from h)]
      exact ih (i + 1) acc (by omega) (by omega)
theorem spec_l03Put_ev (d : List S45) (x : S45) (hd : d.length ≤ 2097152) : Ev (fun k => spec_l03Put.f k d x.f0 x.f1 x.f2) (putL d x) := by
  have := spec_l03Put_l0 d x hd d.length 0 [] (by omega) (by simp)
  rw [List.drop_zero, List.nil_append] at this
  exact this

/-! the reader of draws: whatever it tells, it is in its range -/
theorem spec_l01Byte_ev (b : List Int) (i h : Int) (hb : b.length ≤ 140737488351232) (hi : 0 ≤ i) : ∃ r i' h', spec_l01Byte.f b i h = some (r, i', h') ∧ (0 ≤ r ∧ r ≤ 255) ∧ 0 ≤ i' := by
  unfold spec_l01Byte.f
  by_cases hc : i < (b.length : Int)
  · rw [if_pos hc, if_pos hi, w64 (x := i + 1) (by omega) (by omega)]
    exact ⟨_, _, _, rfl, and_255 _, by omega⟩
  · rw [if_neg hc]
    exact ⟨_, _, _, rfl, and_255 _, hi⟩
theorem spec_l01Below_ev (b : List Int) (i h n : Int) (hb : b.length ≤ 140737488351232) (hi : 0 ≤ i) (hn : n ≤ 4294967296) : ∃ r i' h', spec_l01Below.f b i h n = some (r, i', h') ∧ (0 ≤ r ∧ (r < n ∨ n ≤ 0 ∧ r = 0)) ∧ 0 ≤ i' := by
  unfold spec_l01Below.f
  by_cases h0 : n ≤ 0
  · rw [if_pos h0]; exact ⟨_, _, _, rfl, ⟨by omega, Or.inr ⟨h0, rfl⟩⟩, hi⟩
  rw [if_neg h0]
  by_cases h1 : n ≤ 256
  · rw [if_pos h1]
    obtain ⟨r, i1, g1, e1, r1, j1⟩ := spec_l01Byte_ev b i h hb hi
    rw [e1]
    simp only [Option.bind_some]
    rw [if_neg (by omega)]
    have := tmod_range r n r1.1 (by omega)
    exact ⟨_, _, _, rfl, ⟨this.1, Or.inl this.2⟩, j1⟩
  · rw [if_neg h1]
    obtain ⟨x1, i1, g1, e1, r1, j1⟩ := spec_l01Byte_ev b i h hb hi
    obtain ⟨x2, i2, g2, e2, r2, j2⟩ := spec_l01Byte_ev b i1 g1 hb j1
    obtain ⟨x3, i3, g3, e3, r3, j3⟩ := spec_l01Byte_ev b i2 g2 hb j2
    obtain ⟨x4, i4, g4, e4, r4, j4⟩ := spec_l01Byte_ev b i3 g3 hb j3
    rw [e1]; simp only [Option.bind_some]
    rw [e2]; simp only [Option.bind_some]
    rw [e3]; simp only [Option.bind_some]
    rw [e4]; simp only [Option.bind_some]
    rw [if_neg (by omega)]
    have ew : 0 ≤ wrap64 ((wrap64 ((wrap64 ((wrap64 (x1 * 16777216)) + (wrap64 (x2 * 65536)))) + (wrap64 (x3 * 256)))) + x4) := by
      rw [w64 (x := x1 * 16777216) (by omega) (by omega), w64 (x := x2 * 65536) (by omega) (by omega), w64 (x := x3 * 256) (by omega) (by omega), w64 (x := x1 * 16777216 + x2 * 65536) (by omega) (by omega), w64 (x := x1 * 16777216 + x2 * 65536 + x3 * 256) (by omega) (by omega), w64 (by omega) (by omega)]
      omega
    have := tmod_range _ n ew (by omega)
    exact ⟨_, _, _, rfl, ⟨this.1, Or.inl this.2⟩, j4⟩
theorem spec_l01New_l0 (l : List Int) (hl : l.length ≤ 140737488351232) : ∀ (d : Nat) (i h : Int), 0 ≤ i → (l.length : Int) - i ≤ d → ∃ h', Ev (fun k => spec_l01New.l0 k l h i) (l, 0, h') := by
  intro d
  induction d with
  | zero =>
    intro i h h0 hd
    exact ⟨h, Ev.step (spec_l01New.l0.eq_2 l h i) (Ev.no (by omega) (Ev.now _))⟩
  | succ d ih =>
    intro i h h0 hd
    by_cases h1 : i < (l.length : Int)
    · by_cases h2 : i < 4000
      · obtain ⟨h', e⟩ := ih (i + 1) (Go.bits .and .i64 (wrap64 ((wrap64 ((wrap64 (h * 131)) + (wrap64 (rd l i)))) + 7)) 1073741823) (by omega) (by omega)
        refine ⟨h', Ev.step (spec_l01New.l0.eq_2 l h i) (Ev.yes h1 (Ev.yes h2 (Ev.yes h0 ?_)))⟩
        rw [w64 (x := i + 1) (by omega) (by omega)]
        exact e
      · exact ⟨h, Ev.step (spec_l01New.l0.eq_2 l h i) (Ev.yes h1 (Ev.no h2 (Ev.now _)))⟩
    · exact ⟨h, Ev.step (spec_l01New.l0.eq_2 l h i) (Ev.no h1 (Ev.now _))⟩
theorem spec_l01New_ev (l : List Int) (hl : l.length ≤ 140737488351232) : ∃ h, Ev (fun k => spec_l01New.f k l) (l, 0, h) := by
  obtain ⟨h, e⟩ := spec_l01New_l0 l hl l.length 0 (wrap64 (35201 + (l.length : Int))) (by omega) (by omega)
  exact ⟨h, e⟩

theorem spec_DrawPlaces_l0 (b : List Int) (hb : b.length ≤ 140737488351232) : ∀ (d : Nat) (j : Int) (xs : List Int) (i h : Int), j + d = 12 → 0 ≤ j → 0 ≤ i → (xs.length : Int) = j → (∀ x ∈ xs, 0 ≤ x ∧ x < 10000) →
    ∃ ps : List Int, Ev (fun k => spec_DrawPlaces.l0 k xs j b i h) ps ∧ ps.length = 12 ∧ ∀ x ∈ ps, 0 ≤ x ∧ x < 10000 := by
  intro d
  induction d with
  | zero =>
    intro j xs i h hj h0 hi hx hr
    exact ⟨xs, Ev.step (spec_DrawPlaces.l0.eq_2 xs j b i h) (Ev.no (by omega) (Ev.now _)), by omega, hr⟩
  | succ d ih =>
    intro j xs i h hj h0 hi hx hr
    obtain ⟨r, i1, h1, e1, r1, j1⟩ := spec_l01Below_ev b i h 10000 hb hi (by omega)
    obtain ⟨ps, e, hl, hp⟩ := ih (j + 1) (xs ++ [r]) i1 h1 (by omega) (by omega) j1 (by rw [List.length_append, List.length_singleton]; omega) (by
      intro x hx'
      rcases List.mem_append.1 hx' with hx' | hx'
      · exact hr x hx'
      · have := List.mem_singleton.1 hx'; omega)
    refine ⟨ps, Ev.step (spec_DrawPlaces.l0.eq_2 xs j b i h) (Ev.yes (by omega) (Ev.bindc e1 (Ev.yes (by omega) ?_))), hl, hp⟩
    rw [w64 (x := j + 1) (by omega) (by omega)]
    exact e
theorem spec_DrawPlaces_ev (l : List Int) (hl : l.length ≤ 140737488351232) : ∃ ps : List Int, Ev (fun k => spec_DrawPlaces.f k l) ps ∧ ps.length = 12 ∧ ∀ x ∈ ps, 0 ≤ x ∧ x < 10000 := by
  obtain ⟨h, e⟩ := spec_l01New_ev l hl
  obtain ⟨r, i1, h1, e1, -, j1⟩ := spec_l01Byte_ev l 0 h hl (by omega)
  obtain ⟨ps, e2, h2, h3⟩ := spec_DrawPlaces_l0 l hl 12 0 [] i1 h1 (by omega) (by omega) j1 rfl (by simp)
  exact ⟨ps, Ev.bind e (Ev.bindc e1 e2), h2, h3⟩

theorem spec_l01Text_l0 (n : Int) (hn : n ≤ 5000) (b : List Int) (hb : b.length ≤ 140737488351232) : ∀ (d : Nat) (j : Int) (xs : List Int) (i h : Int), n - j ≤ d → 0 ≤ j → 0 ≤ i → (xs.length : Int) ≤ j → xs.length ≤ 5000 →
    ∃ t i' h', Ev (fun k => spec_l01Text.l0 k n xs j b i h) (t, i', h') ∧ t.size ≤ 5000 ∧ ((xs.length : Int) = j → j ≤ n → (t.size : Int) = n) ∧ 0 ≤ i' := by
  intro d
  induction d with
  | zero =>
    intro j xs i h hd h0 hi hx hx5
    exact ⟨_, _, _, Ev.step (spec_l01Text.l0.eq_2 n xs j b i h) (Ev.no (by omega) (Ev.now _)), by rw [size_nums]; exact hx5, by rw [size_nums]; omega, hi⟩
  | succ d ih =>
    intro j xs i h hd h0 hi hx hx5
    by_cases hc : j < n
    · obtain ⟨r, i1, h1, e1, r1, j1⟩ := spec_l01Byte_ev b i h hb hi
      obtain ⟨t, i2, h2, e, ht, ht2, hi2⟩ := ih (j + 1) (xs ++ [r % 256]) i1 h1 (by omega) (by omega) j1 (by rw [List.length_append, List.length_singleton]; omega) (by rw [List.length_append, List.length_singleton]; omega)
      refine ⟨t, i2, h2, Ev.step (spec_l01Text.l0.eq_2 n xs j b i h) (Ev.yes hc (Ev.bindc e1 (Ev.yes (by omega) ?_))), ht, ?_, hi2⟩
      · rw [w64 (x := j + 1) (by omega) (by omega)]
        exact e
      · intro h3 h4
        exact ht2 (by rw [List.length_append, List.length_singleton]; omega) (by omega)
    · exact ⟨_, _, _, Ev.step (spec_l01Text.l0.eq_2 n xs j b i h) (Ev.no hc (Ev.now _)), by rw [size_nums]; exact hx5, by rw [size_nums]; omega, hi⟩
theorem spec_l01Text_ev (n : Int) (b : List Int) (i h : Int) (hb : b.length ≤ 140737488351232) (hi : 0 ≤ i) (hn : n ≤ 1000000) :
    ∃ t i' h', Ev (fun k => spec_l01Text.f k b i h n) (t, i', h') ∧ t.size ≤ 5000 ∧ (0 ≤ n → n ≤ 5000 → (t.size : Int) = n) ∧ 0 ≤ i' := by
  unfold spec_l01Text.f
  by_cases hc : n > 5000
  · obtain ⟨t, i2, h2, e, ht, ht2, hi2⟩ := spec_l01Text_l0 5000 (by omega) b hb 5000 0 [] i h (by omega) (by omega) hi (by simp) (by simp)
    exact ⟨t, i2, h2, Ev.yes hc (Ev.step (spec_l01Text.j0.eq_2 _ b i h) e), ht, by omega, hi2⟩
  · obtain ⟨t, i2, h2, e, ht, ht2, hi2⟩ := spec_l01Text_l0 n (by omega) b hb 5000 0 [] i h (by omega) (by omega) hi (by simp) (by simp)
    exact ⟨t, i2, h2, Ev.no hc (Ev.step (spec_l01Text.j0.eq_2 _ b i h) e), ht, fun h3 _ => ht2 rfl h3, hi2⟩

theorem spec_l03Named_ev (b : List Int) (i h : Int) (hb : b.length ≤ 140737488351232) (hi : 0 ≤ i) :
    ∃ r i' h', spec_l03Named.f b i h = some (r, i', h') ∧ (1 ≤ (r.size : Int) ∧ (r.size : Int) ≤ 8) ∧ 0 ≤ i' := by
  obtain ⟨r, i1, h1, e1, r1, j1⟩ := spec_l01Below_ev b i h 8 hb hi (by omega)
  unfold spec_l03Named.f spec_l01Pick.f
  rw [show ((([(⟨#[97]⟩ : ByteArray), (⟨#[98]⟩ : ByteArray), (⟨#[99]⟩ : ByteArray), (⟨#[106, 48]⟩ : ByteArray), (⟨#[106, 49]⟩ : ByteArray), (⟨#[106, 43]⟩ : ByteArray), (⟨#[115, 48]⟩ : ByteArray), (⟨#[115, 43]⟩ : ByteArray)] : List ByteArray).length : Nat) : Int) = 8 from rfl]
  rw [e1]
  simp only [Option.bind_some]
  rw [if_pos (by omega), if_pos (by omega)]
  simp only [Option.bind_some]
  refine ⟨_, _, _, rfl, ?_, j1⟩
  have hr : r = 0 ∨ r = 1 ∨ r = 2 ∨ r = 3 ∨ r = 4 ∨ r = 5 ∨ r = 6 ∨ r = 7 := by omega
  rcases hr with rfl | rfl | rfl | rfl | rfl | rfl | rfl | rfl <;> decide
theorem spec_DrawRightDisk_l0 (b : List Int) (hb : b.length ≤ 140737488351232) : ∀ (m : Nat) (i : Int) (d : List S45) (bi h : Int), i + m = 5 → 0 ≤ i → 0 ≤ bi → (d.length : Int) ≤ i → (∀ x ∈ d, fileOk x) → sorted d →
    ∃ d' : List S45, Ev (fun k => spec_DrawRightDisk.l0 k i b bi h d) d' ∧ d'.length ≤ 5 ∧ (∀ x ∈ d', fileOk x) ∧ sorted d' := by
  intro m
  induction m with
  | zero =>
    intro i d bi h hi h0 hbi hl hok hs
    obtain ⟨r, i1, h1, e1, r1, j1⟩ := spec_l01Below_ev b bi h 6 hb hbi (by omega)
    exact ⟨d, Ev.step (spec_DrawRightDisk.l0.eq_2 i b bi h d) (Ev.bindc e1 (Ev.no (by show ¬ i < r; omega) (Ev.now _))), by omega, hok, hs⟩
  | succ m ih =>
    intro i d bi h hi h0 hbi hl hok hs
    obtain ⟨r, i1, h1, e1, r1, j1⟩ := spec_l01Below_ev b bi h 6 hb hbi (by omega)
    by_cases hc : i < r
    · obtain ⟨r2, i2, h2, e2, q2, j2⟩ := spec_l01Below_ev b i1 h1 30 hb j1 (by omega)
      obtain ⟨t, i3, h3, e3, q3, q3', j3⟩ := spec_l01Text_ev r2 b i2 h2 hb j2 (by omega)
      obtain ⟨nm, i4, h4, e4, q4, j4⟩ := spec_l03Named_ev b i3 h3 hb j3
      obtain ⟨kp, i5, h5, e5, q5, j5⟩ := spec_l01Below_ev b i4 h4 ((t.size : Int) + 1) hb j4 (by omega)
      have hx : fileOk ⟨nm, t, kp⟩ := ⟨q4, by show (t.size : Int) ≤ 20000; omega, by show 0 ≤ kp ∧ kp ≤ (t.size : Int); omega⟩
      have hp := spec_l03Put_ev d ⟨nm, t, kp⟩ (by omega)
      have hpl := putL_length ⟨nm, t, kp⟩ d
      obtain ⟨d', e, p1, p2, p3⟩ := ih (i + 1) (putL d ⟨nm, t, kp⟩) i5 h5 (by omega) (by omega) j5 (by omega) (putL_ok hok hx) (putL_sorted hs _)
      refine ⟨d', Ev.step (spec_DrawRightDisk.l0.eq_2 i b bi h d) (Ev.bindc e1 (Ev.yes hc (Ev.bindc e2 (Ev.bind e3 (Ev.bindc e4 ?_))))), p1, p2, p3⟩
      simp only
      rw [w64 (x := (t.size : Int) + 1) (by omega) (by omega), w64 (x := i + 1) (by omega) (by omega)]
      exact Ev.bindc e5 (Ev.bind hp e)
    · exact ⟨d, Ev.step (spec_DrawRightDisk.l0.eq_2 i b bi h d) (Ev.bindc e1 (Ev.no hc (Ev.now _))), by omega, hok, hs⟩
theorem spec_DrawRightDisk_ev (l : List Int) (hl : l.length ≤ 140737488351232) : ∃ d : List S45, Ev (fun k => spec_DrawRightDisk.f k l) d ∧ d.length ≤ 5 ∧ (∀ x ∈ d, fileOk x) ∧ sorted d := by
  obtain ⟨h, e⟩ := spec_l01New_ev l hl
  obtain ⟨d, e1, h1⟩ := spec_DrawRightDisk_l0 l hl 5 0 [] 0 h (by omega) (by omega) (by omega) (by simp) (by simp) List.Pairwise.nil
  exact ⟨d, Ev.bind e e1, h1⟩

theorem laws_lefts_l0 (p : List Int) (hp : p.length = 12) : ∀ (m : Nat) (i : Int) (acc : List Int), i + m = 6 → 0 ≤ i → (acc.length : Int) = i → ∃ q : List Int, Ev (fun k => laws_lefts.l0 k p acc i) q ∧ q.length = 6 := by
  intro m
  induction m with
  | zero =>
    intro i acc hi h0 ha
    exact ⟨acc, Ev.step (laws_lefts.l0.eq_2 p acc i) (Ev.no (by omega) (Ev.now _)), by omega⟩
  | succ m ih =>
    intro i acc hi h0 ha
    obtain ⟨q, e, hq⟩ := ih (i + 1) (acc ++ [Int.tmod (rd p i) 300]) (by omega) (by omega) (by rw [List.length_append, List.length_singleton]; omega)
    refine ⟨q, Ev.step (laws_lefts.l0.eq_2 p acc i) (Ev.yes (by omega) (Ev.yes h0 (Ev.yes (by omega) (Ev.yes (by omega) ?_)))), hq⟩
    rw [w64 (by omega) (by omega)]
    exact e
theorem laws_lefts_ev (p : List Int) (hp : p.length = 12) : ∃ q : List Int, Ev (fun k => laws_lefts.f k p) q ∧ q.length = 6 := laws_lefts_l0 p hp 6 0 [] (by omega) (by omega) rfl
theorem laws_sameDisk_l0 (l : List S45) (hl : l.length ≤ 2097152) : ∀ (d i : Nat), i + d = l.length → Ev (fun k => laws_sameDisk.l0 k (i : Int) l l) true := by
  intro d
  induction d with
  | zero =>
    intro i hi
    exact Ev.step (laws_sameDisk.l0.eq_2 (i : Int) l l) (Ev.no (by omega) (Ev.now _))
  | succ d ih =>
    intro i hi
    refine Ev.step (laws_sameDisk.l0.eq_2 (i : Int) l l) (Ev.yes (by omega) (Ev.yes (by omega) (Ev.yes (by omega) (Ev.no (by simp) ?_))))
    rw [w64 (by omega) (by omega)]
    exact ih (i + 1) (by omega)
theorem laws_sameDisk_ev (l : List S45) (hl : l.length ≤ 2097152) : Ev (fun k => laws_sameDisk.f k l l) true := by
  unfold laws_sameDisk.f
  exact Ev.yes rfl (laws_sameDisk_l0 l hl l.length 0 (by omega))
theorem laws_begins_ev (a b : ByteArray) (h : a.size ≤ b.size) (e : b.extract 0 a.size = a) : laws_begins.f a b = some true := by
  unfold laws_begins.f
  rw [if_pos (by omega), if_pos (by omega), Int.toNat_natCast, e]
  simp
theorem extract_extract0 (a : ByteArray) (m n : Nat) (h : m ≤ n) (hn : n ≤ a.size) : (a.extract 0 n).extract 0 m = a.extract 0 m := by
  apply bs_inj
  rw [bs_extract, bs_extract, bs_extract, List.drop_zero, List.drop_zero, Nat.sub_zero, Nat.sub_zero, List.take_take, Nat.min_eq_left h]
theorem extract_all (a : ByteArray) : a.extract 0 a.size = a := by
  apply bs_inj
  rw [bs_extract, List.drop_zero, Nat.sub_zero, List.take_of_length_le (by rw [bs_length]; exact Nat.le_refl _)]
theorem loseS_facts (left : List Int) (i : Nat) (x : S45) (h : fileOk x) :
    fileOk (loseS left i x) ∧ (loseS left i x).f2 = ((loseS left i x).f1.size : Int) ∧ (loseS left i x).f0 = x.f0 ∧ ∃ n : Nat, (n : Int) = loseN left i x ∧ n ≤ x.f1.size ∧ x.f2 ≤ (n : Int) ∧ (loseS left i x).f1 = x.f1.extract 0 n := by
  obtain ⟨h1, h2, h3⟩ := h
  have hr := loseN_range left i x h3.1 h3.2
  have hk : x.f2 ≤ loseN left i x := by unfold loseN mx; split <;> omega
  obtain ⟨n, hn⟩ : ∃ n : Nat, (n : Int) = loseN left i x := ⟨(loseN left i x).toNat, by omega⟩
  have e1 : (loseS left i x).f1 = x.f1.extract 0 n := by unfold loseS; rw [← hn, Int.toNat_natCast]
  have e2 : (loseS left i x).f1.size = n := by rw [e1, size_extract x.f1 0 n (by omega)]; omega
  have e3 : (loseS left i x).f2 = (n : Int) := hn.symm
  have e0 : (loseS left i x).f0 = x.f0 := rfl
  refine ⟨⟨by rw [e0]; exact h1, by rw [e2]; omega, by rw [e3, e2]; omega⟩, by rw [e3, e2], e0, n, hn, by omega, by omega, e1⟩
theorem loseL_facts (left : List Int) : ∀ (l : List S45) (i : Nat), (∀ x ∈ l, fileOk x) → sorted l →
    (∀ x ∈ loseL left i l, fileOk x ∧ x.f2 = (x.f1.size : Int)) ∧ sorted (loseL left i l) ∧ (∀ x ∈ loseL left i l, ∃ y ∈ l, x.f0 = y.f0)
  | [], _, _, _ => ⟨by simp [loseL], List.Pairwise.nil, by simp [loseL]⟩
  | x :: l, i, h, hs => by
    obtain ⟨s1, s2⟩ := List.pairwise_cons.1 hs
    obtain ⟨a1, a2, a3⟩ := loseL_facts left l (i + 1) (fun y hy => h y (List.mem_cons_of_mem _ hy)) s2
    obtain ⟨b1, b2, b3, -⟩ := loseS_facts left i x (h x (by simp))
    refine ⟨?_, ?_, ?_⟩
    · intro y hy
      rcases List.mem_cons.1 hy with rfl | hy
      · exact ⟨b1, b2⟩
      · exact a1 y hy
    · refine List.pairwise_cons.2 ⟨fun y hy => ?_, a2⟩
      obtain ⟨z, hz, e⟩ := a3 y hy
      rw [b3, e]; exact s1 z hz
    · intro y hy
      rcases List.mem_cons.1 hy with rfl | hy
      · exact ⟨x, by simp, b3⟩
      · obtain ⟨z, hz, e⟩ := a3 y hy
        exact ⟨z, List.mem_cons_of_mem _ hz, e⟩
theorem loseL_again : ∀ (l : List S45) (i : Nat), (∀ x ∈ l, fileOk x ∧ x.f2 = (x.f1.size : Int)) → loseL [] i l = l
  | [], _, _ => rfl
  | x :: l, i, h => by
    have h1 := h x (by simp)
    have e : loseN [] i x = x.f2 := by
      unfold loseN mx mn
      rw [if_neg (show ¬ ((i : Int) < (([] : List Int).length : Int)) by simp)]
      have := h1.1.2.2
      split <;> split at * <;> omega
    have e2 : loseS [] i x = x := by
      unfold loseS
      rw [e, h1.2, Int.toNat_natCast, extract_all, ← h1.2]
    rw [loseL, e2, loseL_again l (i + 1) (fun y hy => h y (List.mem_cons_of_mem _ hy))]

theorem FnKeeps : laws_FnKeeps.Pure := by
  intro l hm hl hw
  apply Ev.rounds
  unfold laws_FnKeeps.f
  refine Ev.bindc (show laws_big.f l = some (decide ((l.length : Int) > 1048576)) from rfl) (Ev.ite (fun _ => Ev.now _) (fun hbig => ?_))
  obtain ⟨d, ed, ld, dok, ds⟩ := spec_DrawRightDisk_ev l (by omega)
  obtain ⟨ps, ep, lp, -⟩ := spec_DrawPlaces_ev l (by omega)
  obtain ⟨left, el, ll⟩ := laws_lefts_ev ps lp
  have hd : diskOkB (d.map pf) = true := (diskOk_iff d).2 ⟨by omega, dok, ds⟩
  have e1 := impl_LoseDisk_ev d left (by omega)
  have o1 : loseOut d left = (loseL left 0 d, true) := by unfold loseOut; rw [if_pos hd]
  rw [o1] at e1
  obtain ⟨f1, f2, -⟩ := loseL_facts left d 0 dok ds
  have le : (loseL left 0 d).length = d.length := loseL_length left d 0
  have hget : ∀ (j : Nat) (h : j < d.length), (loseL left 0 d)[j]? = some (loseS left j d[j]) := fun j h => by
    rw [List.getElem?_eq_getElem (by rw [loseL_length]; exact h), loseL_get left d 0 j h, Nat.zero_add]
  generalize loseL left 0 d = E at *
  have hE : diskOkB (E.map pf) = true := (diskOk_iff E).2 ⟨by omega, fun x hx => (f1 x hx).1, f2⟩
  have e2 := impl_LoseDisk_ev E [] (by omega)
  have o2 : loseOut E [] = (E, true) := by unfold loseOut; rw [if_pos hE, loseL_again E 0 f1]
  rw [o2] at e2
  have e3 := impl_AllKept_ev E (by omega)
  have hk : allKeptB (E.map pf) = true := by
    unfold allKeptB
    rw [hE, Bool.and_true]
    unfold keptB
    rw [List.all_eq_true]
    intro f hf
    obtain ⟨x, hx, rfl⟩ := List.mem_map.1 hf
    exact decide_eq_true (f1 x hx).2
  rw [hk] at e3
  have e4 := impl_DiskOk_ev d (by omega)
  rw [hd] at e4
  refine Ev.bind ed (Ev.bind ep (Ev.bind el (Ev.bind e1 (Ev.bind e2 (Ev.yes rfl (Ev.yes rfl (Ev.yes (by show (E.length : Int) = (d.length : Int); omega) (Ev.bind (laws_sameDisk_ev E (by omega)) (Ev.yes rfl (Ev.bind e3 (Ev.yes rfl (Ev.bind e4 ?_))))))))))))
  refine Ev.step (laws_FnKeeps.j0.eq_2 (!true) d E) (Ev.no (by simp) ?_)
  clear e1 e2 e3 e4 o1 o2 ed ep el hk hE hd
  suffices hloop : ∀ (m i : Nat), i + m = d.length → Ev (fun k => laws_FnKeeps.l0 k (i : Int) d E) true from hloop d.length 0 (by omega)
  intro m
  induction m with
  | zero =>
    intro i hi
    exact Ev.step (laws_FnKeeps.l0.eq_2 (i : Int) d E) (Ev.no (by omega) (Ev.now _))
  | succ m ih =>
    intro i hi
    have hlt : i < d.length := by omega
    have ex := rd45_at d i hlt
    have ey := rd45_at E i (by omega)
    have hg0 := hget i hlt
    rw [List.getElem?_eq_getElem (show i < E.length by omega)] at hg0
    have hg := Option.some.inj hg0
    clear hg0
    have hx := dok _ (List.getElem_mem hlt)
    obtain ⟨-, -, n0, n, n1, n2, n3, n4⟩ := loseS_facts left i d[i] hx
    have hnext := ih (i + 1) (by omega)
    refine Ev.step (laws_FnKeeps.l0.eq_2 (i : Int) d E) (Ev.yes (by omega) (Ev.yes (by omega) (Ev.yes (by omega) ?_)))
    have w4 : wrap64 ((i : Int) + 1) = ((i + 1 : Nat) : Int) := by rw [w64 (by omega) (by omega)]; omega
    rw [ex, ey, hg, w4]
    clear w4 ex ey hg hm hl hw hbig ih
    generalize loseS left i d[i] = y at n0 n4 ⊢
    generalize d[i] = x at *
    have hx2 := hx.2.2
    have sy : y.f1.size = n := by rw [n4, size_extract x.f1 0 n n2]; omega
    have b1 : laws_begins.f y.f1 x.f1 = some true := laws_begins_ev _ _ (by omega) (by rw [sy, n4])
    have sz : (x.f1.extract 0 x.f2.toNat).size = x.f2.toNat := by rw [size_extract x.f1 0 _ (by omega)]; omega
    have b2 : laws_begins.f (x.f1.extract 0 x.f2.toNat) y.f1 = some true := laws_begins_ev _ _ (by omega) (by rw [sz, n4, extract_extract0 x.f1 _ n (by omega) n2])
    exact Ev.yes (by rw [n0]) (Ev.bindc b1 (Ev.yes rfl (Ev.yes hx2.1 (Ev.yes hx2.2 (Ev.bindc b2 (Ev.yes rfl hnext))))))
end Go.Proofs.Ytdiecogmaiglaaa.Pure
