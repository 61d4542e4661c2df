/- What is told of drawn sets, right or not, is what the document tells. For every list of bytes; no condition. -/
import Derived.Test.YthngecooaddddaaDoorSet
import Derived.Test.YthngecooaddddaaDoorSplit
import Derived.Test.YthngecooaddddaaDoorDec
import Derived.Test.YthngecooaddddaaDoorQFnSetsToldx11
namespace Go.Proofs.YthngecooaddddaaDoor.Pure
open Go.RowKit Go.Proofs.YthngecooaddddaaDoor.PFnSetsTold Go.Proofs.YthngecooaddddaaDoorW.PrintWords Go.Proofs.YthngecooaddddaaDoorW.PrintLast Go.Proofs.YthngecooaddddaaDoorW.PrintMore Go.Proofs.YthngecooaddddaaDoor.Gen
set_option linter.unusedVariables false

theorem spec_l01In_ev (a b c : Int) : spec_l01In.f a b c = some (decide (b ≤ a ∧ a ≤ c)) := by
  unfold spec_l01In.f
  by_cases h : a ≥ b
  · rw [if_pos h]; congr 1; simp; omega
  · rw [if_neg h]; congr 1; simp; omega

theorem impl_within_ev (a b c : Int) : impl_within.f a b c = some (decide (b ≤ a ∧ a ≤ c)) := by
  unfold impl_within.f
  by_cases h : a ≥ b
  · rw [if_pos h]; congr 1; simp; omega
  · rw [if_neg h]; congr 1; simp; omega

/-- a range as a pair -/
def pr (x : S40) : Int × Int := (x.f0, x.f1)
theorem rd45_at (l : List S40) (i : Nat) (h : i < l.length) : rd_T40 l (i : Int) = l[i] := by
  unfold rd_T40
  rw [Int.toNat_natCast, List.getD_eq_getElem?_getD, List.getElem?_eq_getElem h]; rfl
/-! a number of a set's text -/
def digitsB (l : List Nat) : Bool := l.all fun c => decide (48 ≤ c ∧ c ≤ 57)
def dv (n : Nat) (l : List Nat) : Nat := l.foldl (fun n c => 10 * n + (c - 48)) n
theorem dv_cons (n c : Nat) (l : List Nat) : dv n (c :: l) = dv (10 * n + (c - 48)) l := by unfold dv; rw [List.foldl_cons]
def uid (last : Int) (l : List Nat) : Option Int := if l = [42] then some last else if (1 ≤ l.length ∧ l.length ≤ 4) ∧ digitsB l = true ∧ 1 ≤ dv 0 l then some (dv 0 l) else none
/-- what both tell of it: where it is none, whatever number, and false -/
def UidSaid (last : Int) (l : List Nat) (r : Int × Bool) : Prop := (∀ a, uid last l = some a → r = (a, true)) ∧ (uid last l = none → r.2 = false)
theorem bs_star : bs (⟨#[42]⟩ : ByteArray) = [42] := rfl
theorem star_iff (t : ByteArray) : t.toList = ([42] : List UInt8) ↔ bs t = [42] := by
  rw [ByteArray.toList_eq, ← bs_star]
  exact ⟨fun e => by unfold bs; rw [e], fun e => by rw [bs_inj e]⟩
theorem uid_num (n c : Nat) (hn : n < 1000000000) (hd : 48 ≤ c ∧ c ≤ 57) : wrap64 ((wrap64 ((wrap64 (10 * (n : Int))) + (wrap64 (c : Int)))) - 48) = ((10 * n + (c - 48) : Nat) : Int) := by
  rw [w64 (x := 10 * (n : Int)) (by omega) (by omega), w64 (x := (c : Int)) (by omega) (by omega), w64 (x := 10 * (n : Int) + c) (by omega) (by omega), w64 (by omega) (by omega)]
  omega
theorem uid_mod (n c : Nat) (hn : n < 1000000000) (hd : 48 ≤ c ∧ c ≤ 57) : Int.tmod (wrap64 ((wrap64 (10 * (n : Int))) + (((c : Int) - 48) % 256))) 1000000000 = (((10 * n + (c - 48)) % 1000000000 : Nat) : Int) := by
  rw [w64 (x := 10 * (n : Int)) (by omega) (by omega), w64 (by omega) (by omega), show 10 * (n : Int) + ((c : Int) - 48) % 256 = ((10 * n + (c - 48) : Nat) : Int) by omega]
  rfl
theorem uid_next (i : Nat) (h : i < 140737488351233) : wrap64 ((i : Int) + 1) = ((i + 1 : Nat) : Int) := by rw [w64 (by omega) (by omega)]; rfl
theorem uid_within (c : Nat) (hc : c < 256) : impl_within.f (wrap64 (c : Int)) 48 57 = some (decide (48 ≤ c ∧ c ≤ 57)) := by
  rw [w64 (by omega) (by omega), impl_within_ev]
  congr 1; exact decide_eq_decide.2 (by omega)
theorem impl_readUid_l0 (t : ByteArray) (hs : t.size ≤ 140737488351232) : ∀ (d i n : Nat), i + d = t.size → n < 1000000000 →
    ∃ r : Int × Bool, Ev (fun k => impl_readUid.l0 k t (n : Int) (t.size : Int) (i : Int)) r ∧ (digitsB ((bs t).drop i) = false → r.2 = false) ∧ (¬ (1 ≤ t.size ∧ t.size ≤ 4) → r.2 = false) ∧
      (digitsB ((bs t).drop i) = true → 1 ≤ t.size → t.size ≤ 4 → n < 10 ^ i → r = (((dv n ((bs t).drop i) : Nat) : Int), decide ((dv n ((bs t).drop i) : Int) > 0))) := by
  have hlen := bs_length t
  intro d
  induction d with
  | zero =>
    intro i n hi hn
    rw [List.drop_of_length_le (by omega)]
    by_cases hz : 1 ≤ t.size ∧ t.size ≤ 4
    · exact ⟨((n : Int), decide ((n : Int) > 0)), Ev.step (impl_readUid.l0.eq_2 t n t.size i) (Ev.no (by omega) (Ev.bindc (impl_within_ev t.size 1 4) (Ev.yes (by rw [decide_eq_true (by omega)]) (Ev.now _)))), (fun h => absurd h (by decide)), fun h => absurd hz h, fun _ _ _ _ => rfl⟩
    · exact ⟨((n : Int), false), Ev.step (impl_readUid.l0.eq_2 t n t.size i) (Ev.no (by omega) (Ev.bindc (impl_within_ev t.size 1 4) (Ev.no (by rw [decide_eq_false (by omega)]; decide) (Ev.now _)))), fun _ => rfl, fun _ => rfl, fun _ h1 h2 _ => absurd ⟨h1, h2⟩ hz⟩
  | succ d ih =>
    intro i n hi hn
    have hil : i < (bs t).length := by omega
    have hc := bs_lt t _ (List.getElem_mem hil)
    have hbt := bt_eq hil
    rw [List.drop_eq_getElem_cons hil]
    revert hc hbt
    generalize (bs t)[i] = c
    intro hc hbt
    have hdig : digitsB (c :: (bs t).drop (i + 1)) = (decide (48 ≤ c ∧ c ≤ 57) && digitsB ((bs t).drop (i + 1))) := rfl
    have hwi := uid_within c hc
    rw [← hbt] at hwi
    by_cases hd : 48 ≤ c ∧ c ≤ 57
    · rw [decide_eq_true hd] at hwi
      obtain ⟨r, er, f1, f2, f3⟩ := ih (i + 1) ((10 * n + (c - 48)) % 1000000000) (by omega) (Nat.mod_lt _ (by omega))
      refine ⟨r, Ev.step (impl_readUid.l0.eq_2 t n t.size i) (Ev.yes (by omega) (Ev.yes (by omega) (Ev.yes (by omega) (Ev.bindc hwi (Ev.yes rfl ?_))))), fun h => f1 ?_, f2, fun h h1 h4 hlt => ?_⟩
      · rw [hbt, uid_mod n c hn hd, uid_next i (by omega)]; exact er
      · rw [hdig, decide_eq_true hd, Bool.true_and] at h; exact h
      · rw [hdig, decide_eq_true hd, Bool.true_and] at h
        clear hwi hbt
        have hp : 10 ^ (i + 1) ≤ 10 ^ 4 := Nat.pow_le_pow_right (by omega) (by omega)
        have h10 : (10 : Nat) ^ 4 = 10000 := by decide
        have hs2 : 10 ^ (i + 1) = 10 ^ i * 10 := Nat.pow_succ ..
        have hm : (10 * n + (c - 48)) % 1000000000 = 10 * n + (c - 48) := Nat.mod_eq_of_lt (by omega)
        have := f3 h h1 h4 (by rw [hm]; omega)
        rw [hm] at this
        exact this
    · rw [decide_eq_false hd] at hwi
      refine ⟨(0, false), Ev.step (impl_readUid.l0.eq_2 t n t.size i) (Ev.yes (by omega) (Ev.yes (by omega) (Ev.yes (by omega) (Ev.bindc hwi (Ev.no (by decide) (Ev.now _)))))), fun _ => rfl, fun _ => rfl, fun h => ?_⟩
      rw [hdig, decide_eq_false hd, Bool.false_and] at h
      cases h
theorem impl_readUid_ev (t : ByteArray) (last : Int) (hs : t.size ≤ 140737488351232) : ∃ r, Ev (fun k => impl_readUid.f k t last) r ∧ UidSaid last (bs t) r := by
  have hlen := bs_length t
  unfold impl_readUid.f
  by_cases h : bs t = [42]
  · refine ⟨(last, true), Ev.yes ((star_iff t).2 h) (Ev.now _), fun a ha => ?_, fun hn => ?_⟩
    · unfold uid at ha; rw [if_pos h] at ha; rw [Option.some.inj ha]
    · unfold uid at hn; rw [if_pos h] at hn; cases hn
  · have h' : ¬ t.toList = ([42] : List UInt8) := fun e => h ((star_iff t).1 e)
    obtain ⟨r, er, f1, f2, f3⟩ := impl_readUid_l0 t hs t.size 0 0 (by omega) (by omega)
    rw [List.drop_zero] at f1 f3
    refine ⟨r, Ev.no h' er, fun a ha => ?_, fun hn => ?_⟩
    · unfold uid at ha
      rw [if_neg h] at ha
      split at ha
      · rename_i hc
        rw [f3 hc.2.1 (by omega) (by omega) (by omega), decide_eq_true (by omega), Option.some.inj ha]
      · cases ha
    · unfold uid at hn
      rw [if_neg h] at hn
      split at hn
      · cases hn
      · rename_i hc
        by_cases hz : 1 ≤ t.size ∧ t.size ≤ 4
        · cases hd : digitsB (bs t) with
          | false => exact f1 hd
          | true =>
            rw [f3 hd hz.1 hz.2 (by omega)]
            exact decide_eq_false (fun e => hc ⟨by omega, hd, by omega⟩)
        · exact f2 hz

theorem spec_l05Num_l0 (t : ByteArray) (h4 : t.size ≤ 4) : ∀ (d i n : Nat), i + d = t.size → n < 10 ^ i →
    Ev (fun k => spec_l05Num.l0 k t (n : Int) (i : Int)) (if digitsB ((bs t).drop i) = true then ((dv n ((bs t).drop i) : Nat), decide ((dv n ((bs t).drop i) : Int) ≥ 1)) else (0, false)) := by
  have hlen := bs_length t
  intro d
  induction d with
  | zero =>
    intro i n hi hn
    rw [List.drop_of_length_le (by omega)]
    exact Ev.step (spec_l05Num.l0.eq_2 t n i) (Ev.no (by omega) (Ev.now _))
  | succ d ih =>
    intro i n hi hn
    have hil : i < (bs t).length := by omega
    have hc := bs_lt t _ (List.getElem_mem hil)
    have hp : 10 ^ i ≤ 10 ^ 4 := Nat.pow_le_pow_right (by omega) (by omega)
    have h10 : (10 : Nat) ^ 4 = 10000 := by decide
    refine Ev.step (spec_l05Num.l0.eq_2 t n i) (Ev.yes (by omega) (Ev.yes (by omega) ?_))
    rw [List.drop_eq_getElem_cons hil, bt_eq hil]
    generalize (bs t)[i] = c at hc
    have hdig : digitsB (c :: (bs t).drop (i + 1)) = (decide (48 ≤ c ∧ c ≤ 57) && digitsB ((bs t).drop (i + 1))) := rfl
    refine Ev.ite (fun h => ?_) (fun h => Ev.ite (fun h2 => ?_) (fun h2 => ?_))
    · rw [hdig, decide_eq_false (by omega), Bool.false_and, if_neg (by decide)]; exact Ev.now _
    · rw [hdig, decide_eq_false (by omega), Bool.false_and, if_neg (by decide)]; exact Ev.now _
    · rw [hdig, decide_eq_true (by omega), Bool.true_and, dv_cons]
      rw [uid_num n c (by omega) (by omega), uid_next i (by omega)]
      exact ih (i + 1) _ (by omega) (by rw [Nat.pow_succ]; omega)
theorem spec_l05Num_ev (t : ByteArray) (last : Int) : ∃ r, Ev (fun k => spec_l05Num.f k t last) r ∧ UidSaid last (bs t) r := by
  have hlen := bs_length t
  unfold spec_l05Num.f
  by_cases h : bs t = [42]
  · refine ⟨(last, true), Ev.yes ((star_iff t).2 h) (Ev.now _), fun a ha => ?_, fun hn => ?_⟩
    · unfold uid at ha; rw [if_pos h] at ha; rw [Option.some.inj ha]
    · unfold uid at hn; rw [if_pos h] at hn; cases hn
  · have h' : ¬ t.toList = ([42] : List UInt8) := fun e => h ((star_iff t).1 e)
    by_cases hs : 1 ≤ t.size ∧ t.size ≤ 4
    · have := spec_l05Num_l0 t hs.2 t.size 0 0 (by omega) (by omega)
      rw [List.drop_zero] at this
      refine ⟨_, Ev.no h' (Ev.bindc (spec_l01In_ev t.size 1 4) (Ev.yes (by rw [decide_eq_true (by omega)]) this)), fun a ha => ?_, fun hn => ?_⟩
      · unfold uid at ha
        rw [if_neg h] at ha
        split at ha
        · rename_i hc
          rw [if_pos hc.2.1, decide_eq_true (by omega), Option.some.inj ha]
        · cases ha
      · unfold uid at hn
        rw [if_neg h] at hn
        split at hn
        · cases hn
        · rename_i hc
          by_cases hd : digitsB (bs t) = true
          · rw [if_pos hd]
            exact decide_eq_false (fun e => hc ⟨by omega, hd, by omega⟩)
          · rw [if_neg hd]
    · refine ⟨(0, false), Ev.no h' (Ev.bindc (spec_l01In_ev t.size 1 4) (Ev.no (by rw [decide_eq_false (by omega)]; decide) (Ev.now _))), fun a ha => ?_, fun _ => rfl⟩
      unfold uid at ha
      rw [if_neg h, if_neg (fun e => hs (by omega))] at ha
      cases ha


/-! a part of a set's text -/
def cutN (c : Nat) : List Nat → List Nat × Option (List Nat)
  | [] => ([], none)
  | b :: l => if b = c then ([], some l) else (b :: (cutN c l).1, (cutN c l).2)
theorem cutN_none (c : Nat) : ∀ l : List Nat, c ∉ l → cutN c l = (l, none)
  | [], _ => rfl
  | b :: l, h => by
    simp only [List.mem_cons, not_or] at h
    rw [cutN, if_neg (fun e => h.1 e.symm), cutN_none c l h.2]
theorem cutN_hit (c : Nat) (r : List Nat) : ∀ a : List Nat, c ∉ a → cutN c (a ++ c :: r) = (a, some r)
  | [], _ => by simp [cutN]
  | b :: a, h => by
    simp only [List.mem_cons, not_or] at h
    rw [List.cons_append, cutN, if_neg (fun e => h.1 e.symm), cutN_hit c r a h.2]
theorem cut_eq (t : ByteArray) (ht : t.size < 4294967281) : ∃ (f s : ByteArray) (b : Bool), strings_Cut.f t (⟨#[58]⟩ : ByteArray) = some (f, s, b) ∧ ((cutN 58 (bs t) = (bs f, none) ∧ b = false) ∨ (cutN 58 (bs t) = (bs f, some (bs s)) ∧ b = true)) ∧ f.size ≤ t.size ∧ s.size ≤ t.size := by
  refine ⟨_, _, _, if_pos ht, ?_⟩
  have hsz : t.size = t.data.toList.length := rfl
  have hsep : (⟨#[58]⟩ : ByteArray).data.toList = [58] := rfl
  rw [hsep]
  rcases indexByte_cases 58 t.data.toList with ⟨h1, h2⟩ | ⟨a, r, h1, h2, h3⟩
  · have hi : Lib.index t.data.toList [58] = -1 := by rw [Lib.index_one]; exact h1
    have hc : Lib.cut t.data.toList [58] = (t.data.toList, [], false) := by unfold Lib.cut; rw [hi, if_neg (by decide)]
    rw [hc]
    refine ⟨.inl ⟨?_, rfl⟩, Nat.le_refl _, Nat.zero_le _⟩
    exact cutN_none 58 (bs t) (not_mem_nat h2)
  · have hi : Lib.index t.data.toList [58] = (a.length : Int) := by rw [Lib.index_one]; exact h3
    have hc : Lib.cut t.data.toList [58] = (a, r, true) := by
      unfold Lib.cut
      rw [hi, if_pos (by omega), Int.toNat_natCast, h1, List.take_left' rfl]
      have : a ++ (58 : UInt8) :: r = (a ++ [58]) ++ r := by simp
      rw [this, List.drop_left' (by simp)]
    rw [hc]
    have hl : t.size = a.length + 1 + r.length := by rw [hsz, h1, List.length_append, List.length_cons]; omega
    refine ⟨.inr ⟨?_, rfl⟩, by show a.length ≤ t.size; omega, by show r.length ≤ t.size; omega⟩
    have : bs t = a.map UInt8.toNat ++ 58 :: r.map UInt8.toNat := by unfold bs; rw [h1]; simp
    rw [this]
    exact cutN_hit 58 (r.map UInt8.toNat) (a.map UInt8.toNat) (not_mem_nat h2)
def partP (last : Int) (l : List Nat) : Option (Int × Int) := match (cutN 58 l).2 with
  | none => (uid last (cutN 58 l).1).map fun a => (a, a)
  | some s => (uid last (cutN 58 l).1).bind fun a => (uid last s).map fun b => if a > b then (b, a) else (a, b)
def PartSaid (last : Int) (l : List Nat) (r : Int × Int × Bool) : Prop := (∀ p : Int × Int, partP last l = some p → r = (p.1, p.2, true)) ∧ (partP last l = none → r.2.2 = false)
theorem part_two (last : Int) (l f s : List Nat) (hc : cutN 58 l = (f, some s)) (a b : Int × Bool) (ha : UidSaid last f a) (hb : UidSaid last s b) :
    PartSaid last l (if a.1 > b.1 then (if a.2 = true then (b.1, a.1, b.2) else (b.1, a.1, false)) else (if a.2 = true then (a.1, b.1, b.2) else (a.1, b.1, false))) := by
  unfold PartSaid partP
  rw [hc]
  simp only
  cases hf : uid last f with
  | none =>
    have := ha.2 hf
    refine ⟨fun p hp => by simp at hp, fun _ => ?_⟩
    rw [this]
    split <;> rfl
  | some x =>
    obtain rfl := ha.1 x hf
    cases hs : uid last s with
    | none =>
      have := hb.2 hs
      refine ⟨fun p hp => by simp at hp, fun _ => ?_⟩
      split <;> exact this
    | some y =>
      obtain rfl := hb.1 y hs
      refine ⟨fun p hp => ?_, fun hn => by simp at hn⟩
      have hp' : (if x > y then (y, x) else (x, y)) = p := Option.some.inj hp
      subst hp'
      by_cases hxy : x > y
      · simp [hxy]
      · simp [hxy]
theorem part_one (last : Int) (l : List Nat) (hc : cutN 58 l = (l, none)) (a : Int × Bool) (ha : UidSaid last l a) : PartSaid last l (a.1, a.1, a.2) := by
  unfold PartSaid partP
  rw [hc]
  simp only
  cases hf : uid last l with
  | none => exact ⟨fun p hp => by simp at hp, fun _ => ha.2 hf⟩
  | some x =>
    obtain rfl := ha.1 x hf
    refine ⟨fun p hp => ?_, fun hn => by simp at hn⟩
    have : (x, x) = p := Option.some.inj hp
    subst this; rfl

theorem spec_l05Part_l0 (t : ByteArray) (ht : t.size ≤ 140737488351232) (last : Int) : ∀ (d i : Nat), i + d = t.size → 58 ∉ (bs t).take i → ∃ r, Ev (fun k => spec_l05Part.l0 k t last (i : Int)) r ∧ PartSaid last (bs t) r := by
  have hlen := bs_length t
  intro d
  induction d with
  | zero =>
    intro i hi hn
    rw [List.take_of_length_le (by omega)] at hn
    obtain ⟨a, ea, ha⟩ := spec_l05Num_ev t last
    exact ⟨(a.1, a.1, a.2), Ev.step (spec_l05Part.l0.eq_2 t last i) (Ev.no (by omega) (Ev.bind ea (Ev.now _))), part_one last (bs t) (cutN_none 58 _ hn) a ha⟩
  | succ d ih =>
    intro i hi hn
    have hil : i < (bs t).length := by omega
    have hbt := bt_eq hil
    by_cases hc : (bs t)[i] = 58
    · have hsplit : bs t = (bs t).take i ++ 58 :: (bs t).drop (i + 1) := by
        conv => lhs; rw [← List.take_append_drop i (bs t), List.drop_eq_getElem_cons hil, hc]
      have hcut : cutN 58 (bs t) = ((bs t).take i, some ((bs t).drop (i + 1))) := by
        conv => lhs; rw [hsplit]
        exact cutN_hit 58 _ _ hn
      obtain ⟨a, ea, ha⟩ := spec_l05Num_ev (t.extract 0 i) last
      obtain ⟨b, eb, hb⟩ := spec_l05Num_ev (t.extract (i + 1) t.size) last
      rw [bs_extract, List.drop_zero, Nat.sub_zero] at ha
      rw [bs_extract, List.take_of_length_le (by rw [List.length_drop]; omega)] at hb
      refine ⟨_, Ev.step (spec_l05Part.l0.eq_2 t last i) (Ev.yes (by omega) (Ev.yes (by omega) (Ev.yes (by rw [hbt, hc]; rfl) (Ev.yes (by omega) (Ev.bind ea ?_))))), part_two last (bs t) _ _ hcut a b ha hb⟩
      rw [uid_next i (by omega)]
      refine Ev.yes (by omega) (Ev.yes (by omega) (Ev.bind eb ?_))
      refine Ev.ite (fun h => ?_) (fun h => ?_)
      · rw [if_pos h]
        refine Ev.ite (fun h2 => ?_) (fun h2 => ?_)
        · rw [if_pos h2]; exact Ev.now _
        · rw [if_neg h2]; exact Ev.now _
      · rw [if_neg h]
        refine Ev.ite (fun h2 => ?_) (fun h2 => ?_)
        · rw [if_pos h2]; exact Ev.now _
        · rw [if_neg h2]; exact Ev.now _
    · obtain ⟨r, er, hr⟩ := ih (i + 1) (by omega) (by
        rw [List.take_succ_eq_append_getElem hil, List.mem_append]
        simp only [List.mem_singleton, not_or]
        exact ⟨hn, fun e => hc e.symm⟩)
      refine ⟨r, Ev.step (spec_l05Part.l0.eq_2 t last i) (Ev.yes (by omega) (Ev.yes (by omega) (Ev.no (by rw [hbt]; omega) ?_))), hr⟩
      rw [uid_next i (by omega)]
      exact er
theorem spec_l05Part_ev (t : ByteArray) (ht : t.size ≤ 140737488351232) (last : Int) : ∃ r, Ev (fun k => spec_l05Part.f k t last) r ∧ PartSaid last (bs t) r :=
  spec_l05Part_l0 t ht last t.size 0 (by omega) (by simp)


theorem spec_SetOk_l0 (l : List S40) (hl : l.length ≤ 1048576) : ∀ (d i : Nat) (b : Int), i + d = l.length → (i = 0 → b = 0) → (0 < i → b = (rd_T40 l ((i : Int) - 1)).f1 + 1 ∧ 1 ≤ b ∧ b ≤ 10000) →
    Ev (fun k => spec_SetOk.l0 k l (i : Int)) (okL b ((l.drop i).map pr) && decide ((l.length : Int) ≤ 40)) := by
  intro d
  induction d with
  | zero =>
    intro i b hi h0 h1
    refine Ev.step (spec_SetOk.l0.eq_2 l (i : Int)) (Ev.no (by omega) (Ev.const ?_))
    rw [List.drop_eq_nil_of_le (by omega)]; rfl
  | succ d ih =>
    intro i b hi h0 h1
    have hlt : i < l.length := by omega
    have e := rd45_at l i hlt
    rw [List.drop_eq_getElem_cons hlt]
    simp only [List.map_cons, okL]
    have ep : pr l[i] = ((rd_T40 l (i : Int)).f0, (rd_T40 l (i : Int)).f1) := by rw [e]; rfl
    rw [ep]
    generalize rd_T40 l (i : Int) = x at ep e
    have hn : ∀ c : Int, c = x.f1 + 1 → 1 ≤ x.f1 ∧ x.f1 ≤ 9999 → Ev (fun k => spec_SetOk.l0 k l ((i + 1 : Nat) : Int)) (okL c ((l.drop (i + 1)).map pr) && decide ((l.length : Int) ≤ 40)) := by
      intro c hc hx
      refine ih (i + 1) c (by omega) (fun h => by omega) (fun _ => ?_)
      have e3 : (((i + 1 : Nat) : Int) - 1) = (i : Int) := by omega
      rw [e3, rd45_at l i hlt, ← e]
      exact ⟨hc, by omega, by omega⟩
    have e2 : wrap64 ((i : Int) + 1) = ((i + 1 : Nat) : Int) := by rw [w64 (by omega) (by omega)]; omega
    have hx0 : (rd_T40 l (i : Int)) = x := by rw [rd45_at l i hlt]; exact e.symm
    refine Ev.step (spec_SetOk.l0.eq_2 l (i : Int)) ?_
    rw [e2]
    clear e2 e ep ih
    rw [hx0]
    have hz : 0 < i → wrap64 ((i : Int) - 1) = (i : Int) - 1 := fun h => w64 (by omega) (by omega)
    refine Ev.yes (by omega) (Ev.yes (by omega) (Ev.bindc (spec_l01In_ev _ _ _) ?_))
    refine Ev.ite (fun h2 => ?_) (fun h2 => ?_)
    · rw [decide_eq_true_eq] at h2
      refine Ev.ite (fun h3 => ?_) (fun h3 => ?_)
      · rw [decide_eq_false (by omega)]; exact Ev.now _
      · refine Ev.ite (fun h4 => ?_) (fun h4 => ?_)
        · obtain ⟨h5, h6, h7⟩ := h1 (by omega)
          rw [hz (by omega), w64 (x := (rd_T40 l ((i : Int) - 1)).f1 + 1) (by omega) (by omega), ← h5]
          clear hz
          refine Ev.yes (by omega) (Ev.yes (by omega) ?_)
          refine Ev.ite (fun h8 => ?_) (fun h8 => ?_)
          · rw [decide_eq_false (by omega)]; exact Ev.now _
          · rw [decide_eq_true (show b < x.f0 ∧ 1 ≤ x.f0 ∧ x.f0 ≤ x.f1 ∧ x.f1 ≤ 9999 by omega), Bool.true_and]
            exact hn _ rfl (by omega)
        · clear hz
          have h9 := h0 (by omega)
          rw [decide_eq_true (show b < x.f0 ∧ 1 ≤ x.f0 ∧ x.f0 ≤ x.f1 ∧ x.f1 ≤ 9999 by omega), Bool.true_and]
          exact hn _ rfl (by omega)
    · rw [decide_eq_true_eq] at h2
      rw [decide_eq_false (by omega)]; exact Ev.now _

theorem spec_SetOk_ev (l : List S40) (hl : l.length ≤ 1048576) : Ev (fun k => spec_SetOk.f k l) (setOkB (l.map pr)) := by
  have := spec_SetOk_l0 l hl l.length 0 0 (by omega) (fun _ => rfl) (fun h => by omega)
  unfold setOkB
  rw [List.length_map]
  exact this

theorem impl_isUid_ev (a : Int) : impl_isUid.f a = some (decide (1 ≤ a ∧ a ≤ 9999)) := by unfold impl_isUid.f; rw [impl_within_ev]; rfl
theorem impl_SetOk_l0 (l : List S40) (hl : l.length ≤ 1048576) : ∀ (d i : Nat) (b : Int), i + d = l.length → (i = 0 → b = 0) → (0 < i → b = (rd_T40 l ((i : Int) - 1)).f1 + 1 ∧ 1 ≤ b ∧ b ≤ 10000) →
    Ev (fun k => impl_SetOk.l0 k l l (l.length : Int) (i : Int)) (okL b ((l.drop i).map pr) && decide ((l.length : Int) ≤ 40)) := by
  intro d
  induction d with
  | zero =>
    intro i b hi h0 h1
    refine Ev.step (impl_SetOk.l0.eq_2 l l (l.length : Int) (i : Int)) (Ev.no (by omega) (Ev.const ?_))
    rw [List.drop_eq_nil_of_le (by omega)]; rfl
  | succ d ih =>
    intro i b hi h0 h1
    have hlt : i < l.length := by omega
    have e := rd45_at l i hlt
    rw [List.drop_eq_getElem_cons hlt]
    simp only [List.map_cons, okL]
    have ep : pr l[i] = ((rd_T40 l (i : Int)).f0, (rd_T40 l (i : Int)).f1) := by rw [e]; rfl
    rw [ep]
    generalize rd_T40 l (i : Int) = x at ep e
    have hn : ∀ c : Int, c = x.f1 + 1 → 1 ≤ x.f1 ∧ x.f1 ≤ 9999 → Ev (fun k => impl_SetOk.l0 k l l (l.length : Int) ((i + 1 : Nat) : Int)) (okL c ((l.drop (i + 1)).map pr) && decide ((l.length : Int) ≤ 40)) := by
      intro c hc hx
      refine ih (i + 1) c (by omega) (fun h => by omega) (fun _ => ?_)
      have e3 : (((i + 1 : Nat) : Int) - 1) = (i : Int) := by omega
      rw [e3, rd45_at l i hlt, ← e]
      exact ⟨hc, by omega, by omega⟩
    have e2 : wrap64 ((i : Int) + 1) = ((i + 1 : Nat) : Int) := by rw [w64 (by omega) (by omega)]; omega
    have hx0 : (rd_T40 l (i : Int)) = x := by rw [rd45_at l i hlt]; exact e.symm
    refine Ev.step (impl_SetOk.l0.eq_2 l l (l.length : Int) (i : Int)) ?_
    rw [e2]
    clear e2 e ep ih
    rw [hx0]
    have hz : 0 < i → wrap64 ((i : Int) - 1) = (i : Int) - 1 := fun h => w64 (by omega) (by omega)
    refine Ev.yes (by omega) (Ev.yes (by omega) (Ev.yes (by omega) (Ev.bindc (impl_isUid_ev _) ?_)))
    refine Ev.ite (fun h2 => ?_) (fun h2 => ?_)
    · rw [decide_eq_true_eq] at h2
      refine Ev.bindc (impl_within_ev _ _ _) ?_
      refine Ev.ite (fun h3 => ?_) (fun h3 => ?_)
      · rw [decide_eq_true_eq] at h3
        refine Ev.ite (fun h4 => ?_) (fun h4 => ?_)
        · obtain ⟨h5, h6, h7⟩ := h1 (by omega)
          rw [hz (by omega), w64 (x := (rd_T40 l ((i : Int) - 1)).f1 + 1) (by omega) (by omega), ← h5]
          clear hz
          refine Ev.yes (by omega) (Ev.yes (by omega) ?_)
          refine Ev.ite (fun h8 => ?_) (fun h8 => ?_)
          · rw [decide_eq_false (by omega)]; exact Ev.now _
          · rw [decide_eq_true (show b < x.f0 ∧ 1 ≤ x.f0 ∧ x.f0 ≤ x.f1 ∧ x.f1 ≤ 9999 by omega), Bool.true_and]
            exact hn _ rfl (by omega)
        · clear hz
          have h9 := h0 (by omega)
          rw [decide_eq_true (show b < x.f0 ∧ 1 ≤ x.f0 ∧ x.f0 ≤ x.f1 ∧ x.f1 ≤ 9999 by omega), Bool.true_and]
          exact hn _ rfl (by omega)
      · rw [decide_eq_true_eq] at h3
        rw [decide_eq_false (by omega)]; exact Ev.now _
    · rw [decide_eq_true_eq] at h2
      rw [decide_eq_false (by omega)]; exact Ev.now _

theorem impl_SetOk_ev (l : List S40) (hl : l.length ≤ 1048576) : Ev (fun k => impl_SetOk.f k l) (setOkB (l.map pr)) := by
  have := impl_SetOk_l0 l hl l.length 0 0 (by omega) (fun _ => rfl) (fun h => by omega)
  unfold setOkB
  rw [List.length_map]
  exact this


theorem okL_append : ∀ (l : List (Int × Int)) (b : Int) (q q2 : Int × Int), okL b (l ++ [q]) = true → q.2 + 1 < q2.1 → 1 ≤ q2.1 → q2.1 ≤ q2.2 → q2.2 ≤ 9999 → okL b (l ++ [q] ++ [q2]) = true
  | [], b, q, q2, h, h1, h2, h3, h4 => by
    simp only [List.nil_append, List.cons_append, okL, Bool.and_eq_true, decide_eq_true_eq, and_true] at h ⊢
    omega
  | p :: l, b, q, q2, h, h1, h2, h3, h4 => by
    simp only [List.cons_append, okL, Bool.and_eq_true, decide_eq_true_eq] at h ⊢
    exact ⟨h.1, okL_append l _ q q2 h.2 h1 h2 h3 h4⟩
theorem okL_stretch : ∀ (l : List (Int × Int)) (b x y z : Int), okL b (l ++ [(x, y)]) = true → y ≤ z → z ≤ 9999 → okL b (l ++ [(x, z)]) = true
  | [], b, x, y, z, h, h1, h2 => by
    simp only [List.nil_append, okL, Bool.and_eq_true, decide_eq_true_eq, and_true] at h ⊢
    omega
  | p :: l, b, x, y, z, h, h1, h2 => by
    simp only [List.cons_append, okL, Bool.and_eq_true, decide_eq_true_eq] at h ⊢
    exact ⟨h.1, okL_stretch l _ x y z h.2 h1 h2⟩
theorem rd_last (ys : List S40) (x : S40) : rd_T40 (ys ++ [x]) (((ys ++ [x]).length : Int) - 1) = x := by
  rw [List.length_append, List.length_singleton]
  have e : ((ys.length + 1 : Nat) : Int) - 1 = (ys.length : Int) := by omega
  rw [e]
  unfold rd_T40
  rw [Int.toNat_natCast, List.getD_eq_getElem?_getD, List.getElem?_concat_length]; rfl
theorem set_last (ys : List S40) (x y : S40) : (ys ++ [x]).set (((ys ++ [x]).length : Int) - 1).toNat y = ys ++ [y] := by
  rw [List.length_append, List.length_singleton]
  have e : (((ys.length + 1 : Nat) : Int) - 1).toNat = ys.length := by omega
  rw [e, List.set_append_right _ _ (Nat.le_refl _), Nat.sub_self]; rfl
/-- one number more -/
def step (p : Int → Bool) (xs : List S40) (n : Int) : List S40 :=
  if p n = true then (if 0 < xs.length ∧ (rd_T40 xs ((xs.length : Int) - 1)).f1 = n - 1 then xs.set ((xs.length : Int) - 1).toNat ⟨(rd_T40 xs ((xs.length : Int) - 1)).f0, n⟩ else xs ++ [⟨n, n⟩]) else xs
def fin (p : Int → Bool) : Nat → List S40 → Int → List S40
  | 0, xs, _ => xs
  | d + 1, xs, n => fin p d (step p xs n) (n + 1)
theorem step_len (p : Int → Bool) (xs : List S40) (n : Int) : (step p xs n).length ≤ xs.length + 1 := by
  unfold step
  split
  · split
    · rw [List.length_set]; omega
    · rw [List.length_append]; simp
  · omega
theorem fin_len (p : Int → Bool) : ∀ d xs n, (fin p d xs n).length ≤ xs.length + d
  | 0, xs, n => by simp [fin]
  | d + 1, xs, n => by
    have h1 := fin_len p d (step p xs n) (n + 1)
    have h2 := step_len p xs n
    simp only [fin]
    omega
theorem impl_setOf_l0 (p : Int → Bool) : ∀ (d : Nat) (xs : List S40) (n : Int), n + d = 10000 → 1 ≤ n → xs.length ≤ n → Ev (fun k => impl_setOf.l0 k ⟨p, 0, #[]⟩ xs n) (fin p d xs n, decide ((fin p d xs n).length ≤ 40)) := by
  intro d
  induction d with
  | zero =>
    intro xs n hn h1 hl
    refine Ev.step (impl_setOf.l0.eq_2 _ xs n) (Ev.no (by omega) (Ev.const ?_))
    simp only [fin]
    congr 2
    exact decide_eq_decide.2 (by omega)
  | succ d ih =>
    intro xs n hn h1 hl
    have hs := step_len p xs n
    have hr := ih (step p xs n) (n + 1) (by omega) (by omega) (by omega)
    refine Ev.step (impl_setOf.l0.eq_2 _ xs n) (Ev.yes (by omega) (Ev.bindc (show PVcall.f ⟨p, 0, #[]⟩ n = some (p n) from rfl) ?_))
    have w1 : wrap64 ((xs.length : Int) - 1) = (xs.length : Int) - 1 := w64 (by omega) (by omega)
    have w2 : wrap64 (n - 1) = n - 1 := w64 (by omega) (by omega)
    have w3 : wrap64 (n + 1) = n + 1 := w64 (by omega) (by omega)
    rw [w1, w2, w3]
    clear w1 w2 w3
    change Ev _ (fin p d (step p xs n) (n + 1), decide ((fin p d (step p xs n) (n + 1)).length ≤ 40))
    generalize hz : step p xs n = z at hr ⊢
    unfold step at hz
    refine Ev.ite (fun hp => ?_) (fun hp => ?_)
    · rw [if_pos hp] at hz
      refine Ev.ite (fun h0 => ?_) (fun h0 => ?_)
      · refine Ev.yes (by omega) (Ev.yes (by omega) (Ev.ite (fun h2 => ?_) (fun h2 => ?_)))
        · rw [if_pos ⟨by omega, h2⟩] at hz
          rw [hz]; exact hr
        · rw [if_neg (fun h => h2 h.2)] at hz
          rw [hz]; exact Ev.yes (by omega) hr
      · rw [if_neg (fun h => h0 (by omega))] at hz
        rw [hz]; exact Ev.yes (by omega) hr
    · rw [if_neg hp] at hz
      rw [hz]; exact hr
theorem impl_setOf_ev (p : Int → Bool) : Ev (fun k => impl_setOf.f k ⟨p, 0, #[]⟩) (fin p 9999 [] 1, decide ((fin p 9999 [] 1).length ≤ 40)) := impl_setOf_l0 p 9999 [] 1 (by omega) (by omega) (by simp)
/-- what is told ahead of n -/
def Inv (p : Int → Bool) (xs : List S40) (n : Int) : Prop :=
  (xs = [] ∧ p (n - 1) = false) ∨ ∃ (ys : List S40) (a b : Int), xs = ys ++ [⟨a, b⟩] ∧ okL 0 ((ys.map pr) ++ [(a, b)]) = true ∧ b ≤ n - 1 ∧ p (n - 1) = decide (b = n - 1)
theorem Inv_step (p : Int → Bool) (xs : List S40) (n : Int) (h : Inv p xs n) (h1 : 1 ≤ n) (h2 : n ≤ 9999) : Inv p (step p xs n) (n + 1) := by
  have e : n + 1 - 1 = n := by omega
  unfold Inv
  rw [e]
  rcases h with ⟨rfl, h⟩ | ⟨ys, a, b, rfl, hok, hb, hp⟩
  · unfold step
    by_cases hn : p n = true
    · rw [if_pos hn, if_neg (by simp)]
      exact .inr ⟨[], n, n, rfl, by simp [okL]; omega, by omega, by simp [hn]⟩
    · rw [if_neg hn]
      exact .inl ⟨rfl, by simpa using hn⟩
  · unfold step
    by_cases hn : p n = true
    · rw [if_pos hn, rd_last, set_last]
      by_cases hc : b = n - 1
      · rw [if_pos ⟨by simp, hc⟩]
        exact .inr ⟨ys, a, n, rfl, okL_stretch _ 0 a b n hok (by omega) h2, by omega, by simp [hn]⟩
      · rw [if_neg (fun h => hc h.2)]
        refine .inr ⟨ys ++ [⟨a, b⟩], n, n, rfl, ?_, by omega, by simp [hn]⟩
        rw [List.map_append]
        exact okL_append _ 0 (a, b) (n, n) hok (by show b + 1 < n; omega) h1 (Int.le_refl _) h2
    · rw [if_neg hn]
      refine .inr ⟨ys, a, b, rfl, hok, by omega, ?_⟩
      have : ¬ b = n := by omega
      simp [this, hn]
theorem Inv_ok {p : Int → Bool} {xs : List S40} {n : Int} (h : Inv p xs n) : setOkB (xs.map pr) = decide (xs.length ≤ 40) := by
  unfold setOkB
  have : okL 0 (xs.map pr) = true := by
    rcases h with ⟨rfl, _⟩ | ⟨ys, a, b, rfl, hok, _, _⟩
    · rfl
    · rw [List.map_append]; exact hok
  rw [this, Bool.true_and, List.length_map]
  exact decide_eq_decide.2 (by omega)
theorem spec_l05Set_l0 (p : Int → Bool) (bits : List Bool) (hb : bits.length = 10001) (hp : ∀ i : Int, 0 ≤ i → i ≤ 9999 → rdOf false bits i = p i) :
    ∀ (d : Nat) (xs : List S40) (n : Int), n + d = 10000 → 1 ≤ n → xs.length ≤ n → Inv p xs n →
      Ev (fun k => spec_l05Set.l0 k bits xs n) (if (fin p d xs n).length ≤ 40 then (fin p d xs n, true) else ([], false)) := by
  intro d
  induction d with
  | zero =>
    intro xs n hn h1 hl hi
    refine Ev.step (spec_l05Set.l0.eq_2 bits xs n) (Ev.no (by omega) ?_)
    have hok := spec_SetOk_ev xs (by omega)
    rw [Inv_ok hi] at hok
    refine Ev.bind hok ?_
    change Ev _ (if xs.length ≤ 40 then (xs, true) else ([], false))
    by_cases h40 : xs.length ≤ 40
    · rw [if_pos h40]; exact Ev.yes (by simpa using h40) (Ev.now _)
    · rw [if_neg h40]; exact Ev.no (by simpa using h40) (Ev.now _)
  | succ d ih =>
    intro xs n hn h1 hl hi
    have hs := step_len p xs n
    have hr := ih (step p xs n) (n + 1) (by omega) (by omega) (by omega) (Inv_step p xs n hi h1 (by omega))
    refine Ev.step (spec_l05Set.l0.eq_2 bits xs n) (Ev.yes (by omega) (Ev.yes (by omega) (Ev.yes (by omega) ?_)))
    have w2 : wrap64 (n - 1) = n - 1 := w64 (by omega) (by omega)
    have w3 : wrap64 (n + 1) = n + 1 := w64 (by omega) (by omega)
    rw [w2, w3, hp n (by omega) (by omega), hp (n - 1) (by omega) (by omega)]
    clear w2 w3
    change Ev _ (if (fin p d (step p xs n) (n + 1)).length ≤ 40 then (fin p d (step p xs n) (n + 1), true) else ([], false))
    generalize hz : step p xs n = z at hr ⊢
    unfold step at hz
    refine Ev.ite (fun hpn => ?_) (fun hpn => ?_)
    · rw [if_pos hpn] at hz
      refine Ev.yes (by omega) (Ev.yes (by omega) ?_)
      refine Ev.ite (fun h => ?_) (fun h => ?_)
      · rcases hi with ⟨rfl, h3⟩ | ⟨ys, a, b, rfl, hok, hbn, h3⟩
        · rw [h3] at h; cases h
        · rw [h3] at h
          have hbe : b = n - 1 := by simpa using h
          have hlen : 0 < (ys ++ [(⟨a, b⟩ : S40)]).length := by simp
          have w1 : wrap64 (((ys ++ [(⟨a, b⟩ : S40)]).length : Int) - 1) = ((ys ++ [(⟨a, b⟩ : S40)]).length : Int) - 1 := w64 (by omega) (by omega)
          rw [w1]
          clear w1
          rw [rd_last, if_pos ⟨hlen, hbe⟩] at hz
          refine Ev.yes (by omega) (Ev.yes (by omega) ?_)
          rw [rd_last, hz]
          exact hr
      · have hz2 : xs ++ [(⟨n, n⟩ : S40)] = z := by
          rw [if_neg] at hz
          · exact hz
          · rintro ⟨h4, h5⟩
            rcases hi with ⟨rfl, h3⟩ | ⟨ys, a, b, rfl, hok, hbn, h3⟩
            · simp at h4
            · rw [rd_last] at h5
              rw [h3] at h
              exact h (by simpa using h5)
        refine Ev.yes (by omega) (Ev.bindc rfl ?_)
        have hlen : (xs ++ [(⟨n, 0⟩ : S40)]).length = xs.length + 1 := by simp
        have w1 : wrap64 (((xs ++ [(⟨n, 0⟩ : S40)]).length : Int) - 1) = ((xs ++ [(⟨n, 0⟩ : S40)]).length : Int) - 1 := w64 (by omega) (by omega)
        rw [w1]
        clear w1
        refine Ev.yes (by omega) (Ev.yes (by omega) ?_)
        rw [rd_last, set_last, hz2]
        exact hr
    · rw [if_neg hpn] at hz
      rw [hz]; exact hr
theorem spec_l05Set_ev (p : Int → Bool) (bits : List Bool) (hb : bits.length = 10001) (hp : ∀ i : Int, 0 ≤ i → i ≤ 9999 → rdOf false bits i = p i) (h0 : p 0 = false) :
    Ev (fun k => spec_l05Set.f k bits) (if (fin p 9999 [] 1).length ≤ 40 then (fin p 9999 [] 1, true) else ([], false)) :=
  spec_l05Set_l0 p bits hb hp 9999 [] 1 (by omega) (by omega) (by simp) (.inl ⟨rfl, h0⟩)

/-! a set's text read -/
theorem dv_lt : ∀ (l : List Nat) (n k : Nat), digitsB l = true → n < 10 ^ k → dv n l < 10 ^ (k + l.length)
  | [], n, k, _, h => h
  | c :: l, n, k, hd, h => by
    have hd' : decide (48 ≤ c ∧ c ≤ 57) = true ∧ digitsB l = true := by
      simp only [digitsB, List.all_cons, Bool.and_eq_true] at hd ⊢; exact hd
    have hc := of_decide_eq_true hd'.1
    rw [dv_cons, List.length_cons, show k + (l.length + 1) = (k + 1) + l.length by omega]
    exact dv_lt l _ (k + 1) hd'.2 (by rw [Nat.pow_succ]; omega)
theorem uid_range {last : Int} {l : List Nat} {a : Int} (hl : 1 ≤ last ∧ last ≤ 9999) (h : uid last l = some a) : 1 ≤ a ∧ a ≤ 9999 := by
  unfold uid at h
  split at h
  · rw [← Option.some.inj h]; exact hl
  · split at h
    · rename_i hc
      have h1 := dv_lt l 0 0 hc.2.1 (by decide)
      have h2 : 10 ^ (0 + l.length) ≤ 10 ^ 4 := Nat.pow_le_pow_right (by omega) (by omega)
      have h3 : (10 : Nat) ^ 4 = 10000 := by decide
      rw [← Option.some.inj h]
      omega
    · cases h
theorem part_range {last : Int} {l : List Nat} {p : Int × Int} (hl : 1 ≤ last ∧ last ≤ 9999) (h : partP last l = some p) : 1 ≤ p.1 ∧ p.1 ≤ p.2 ∧ p.2 ≤ 9999 := by
  unfold partP at h
  split at h
  · obtain ⟨a, ha, rfl⟩ := Option.map_eq_some_iff.1 h
    have := uid_range hl ha
    exact ⟨this.1, Int.le_refl _, this.2⟩
  · obtain ⟨a, ha, h⟩ := Option.bind_eq_some_iff.1 h
    obtain ⟨b, hb, rfl⟩ := Option.map_eq_some_iff.1 h
    have h1 := uid_range hl ha
    have h2 := uid_range hl hb
    split <;> (simp only; omega)
/-- what is told of a list of ranges -/
def setR (xs : List S40) : List S40 × Bool := if (fin (impl_ReadSet_1.holds xs) 9999 [] 1).length ≤ 40 then (fin (impl_ReadSet_1.holds xs) 9999 [] 1, true) else ([], false)
def setRes (last : Int) : List (List Nat) → List S40 → List S40 × Bool
  | [], xs => setR xs
  | w :: ws, xs => match partP last w with
    | none => ([], false)
    | some p => setRes last ws (xs ++ [⟨p.1, p.2⟩])
theorem impl_tail (k0 : Unit) (xs : List S40) (h : xs.length ≤ 1048576) : Ev (fun k => (impl_ReadSet_1.f k xs).bind fun bt127 => (if bt127.2 = true then (some (bt127.1, true)) else (some (([] : List S40), false)))) (setR xs) := by
  have h1 : Ev (fun k => impl_ReadSet_1.f k xs) (fin (impl_ReadSet_1.holds xs) 9999 [] 1, decide ((fin (impl_ReadSet_1.holds xs) 9999 [] 1).length ≤ 40)) := Ev.yes h (impl_setOf_ev _)
  unfold setR
  generalize fin (impl_ReadSet_1.holds xs) 9999 [] 1 = q at h1 ⊢
  refine Ev.bind h1 ?_
  by_cases hc : q.length ≤ 40
  · rw [if_pos hc]; exact Ev.yes (decide_eq_true hc) (Ev.now _)
  · rw [if_neg hc]; exact Ev.no (fun e => hc (of_decide_eq_true e)) (Ev.now _)
theorem mnmx (a b : Int) : (if a > b then (b, a) else (a, b)) = (mn a b, mx a b) := by
  unfold mn mx
  by_cases h : a > b
  · rw [if_pos h]; congr 1 <;> (split <;> omega)
  · rw [if_neg h]; congr 1 <;> (split <;> omega)
theorem impl_ReadSet_l0 (last : Int) (sp : List ByteArray) (hsp : sp.length ≤ 1048577) (hz : ∀ t ∈ sp, t.size ≤ 1048576) : ∀ (d j : Nat) (xs : List S40), j + d = sp.length → xs.length + d ≤ 1048577 → (xs.length + d ≤ 1048576 ∨ (0 < d ∧ ∃ h : j < sp.length, bs sp[j] = [])) →
    Ev (fun k => impl_ReadSet.l0 k last sp (sp.length : Int) (j : Int) xs) (setRes last ((sp.drop j).map bs) xs) := by
  intro d
  induction d with
  | zero =>
    intro j xs hj hx hx2
    rw [List.drop_of_length_le (by omega)]
    exact Ev.step (impl_ReadSet.l0.eq_2 last sp sp.length j xs) (Ev.no (by omega) (impl_tail () xs (by omega)))
  | succ d ih =>
    intro j xs hj hx hx2
    have hjl : j < sp.length := by omega
    have hrd : rdOf ByteArray.empty sp (j : Int) = sp[j] := by
      unfold rdOf
      rw [Int.toNat_natCast, List.getD_eq_getElem?_getD, List.getElem?_eq_getElem hjl]; rfl
    have hts := hz _ (List.getElem_mem hjl)
    obtain ⟨f, s, b, hcut, hcs, hf, hs⟩ := cut_eq sp[j] (by omega)
    obtain ⟨a, ea, ha⟩ := impl_readUid_ev f last (by omega)
    rw [List.drop_eq_getElem_cons hjl, List.map_cons, setRes]
    have empty_none : bs sp[j] = [] → partP last (bs sp[j]) = none := fun e => by
      rw [e]; unfold partP cutN uid; simp
    have nxt : ∀ x : S40, partP last (bs sp[j]) = some (x.f0, x.f1) → Ev (fun k => impl_ReadSet.l0 k last sp (sp.length : Int) ((j + 1 : Nat) : Int) (xs ++ [x])) (setRes last ((sp.drop (j + 1)).map bs) (xs ++ [x])) := fun x hx3 =>
      ih (j + 1) (xs ++ [x]) (by omega) (by simp; omega) (by
        rcases hx2 with h | ⟨_, h1, h2⟩
        · left; simp; omega
        · rw [empty_none h2] at hx3; cases hx3)
    refine Ev.step (impl_ReadSet.l0.eq_2 last sp sp.length j xs) (Ev.yes (by omega) (Ev.yes (by omega) (Ev.yes (by omega) ?_)))
    rw [hrd, uid_next j (by omega)]
    refine Ev.bindc hcut (Ev.bind ea ?_)
    rcases hcs with ⟨hc, rfl⟩ | ⟨hc, rfl⟩
    · have hpart : partP last (bs sp[j]) = (uid last (bs f)).map fun a => (a, a) := by unfold partP; rw [hc]
      refine Ev.no (show ¬ (false = true) by decide) ?_
      cases hu : uid last (bs f) with
      | none =>
        rw [hpart, hu]
        exact Ev.no (by rw [ha.2 hu]; decide) (Ev.now _)
      | some x =>
        obtain rfl := ha.1 x hu
        rw [hu] at hpart
        rw [hpart]
        have e : (mn x x, mx x x) = (x, x) := by rw [← mnmx, if_neg (by omega)]
        first
          | exact Ev.yes rfl (Ev.yes (by omega) (nxt ⟨x, x⟩ hpart))
          | (rw [(Prod.mk.inj e).1, (Prod.mk.inj e).2]; exact Ev.yes rfl (Ev.yes (by omega) (nxt ⟨x, x⟩ hpart)))
    · have hpart : partP last (bs sp[j]) = (uid last (bs f)).bind fun a => (uid last (bs s)).map fun b => if a > b then (b, a) else (a, b) := by unfold partP; rw [hc]
      obtain ⟨c, ec, hcU⟩ := impl_readUid_ev s last (by omega)
      refine Ev.yes rfl (Ev.bind ec ?_)
      cases hu : uid last (bs f) with
      | none =>
        rw [hpart, hu]
        exact Ev.no (by rw [ha.2 hu]; decide) (Ev.now _)
      | some x =>
        obtain rfl := ha.1 x hu
        refine Ev.yes rfl ?_
        cases hu2 : uid last (bs s) with
        | none =>
          rw [hpart, hu, hu2]
          exact Ev.no (by rw [hcU.2 hu2]; decide) (Ev.now _)
        | some y =>
          obtain rfl := hcU.1 y hu2
          rw [hu, hu2] at hpart
          have hpart' : partP last (bs sp[j]) = some (mn x y, mx x y) := by rw [hpart, ← mnmx]; rfl
          rw [hpart']
          exact Ev.yes rfl (Ev.yes (by omega) (nxt ⟨mn x y, mx x y⟩ hpart'))
theorem pieces_long (c : Nat) : ∀ l : List Nat, (pieces c l).length = l.length + 1 → ∃ t, pieces c l = [] :: t
  | [], _ => ⟨[], rfl⟩
  | b :: l, h => by
    obtain ⟨x, t, e1, e2⟩ := pieces_cons c b l
    by_cases hb : b = c
    · exact ⟨x :: t, by rw [e2, if_pos hb]⟩
    · have := pieces_len c l
      rw [e1] at this
      rw [e2, if_neg hb] at h
      simp only [List.length_cons] at h this
      omega
theorem pieces_less (c : Nat) : ∀ (l : List Nat) (p : List Nat), p ∈ pieces c l → p.length ≤ l.length
  | [], p, h => by
    have : p = [] := by simpa [pieces] using h
    subst this; exact Nat.le_refl _
  | b :: l, p, h => by
    obtain ⟨x, t, e1, e2⟩ := pieces_cons c b l
    have ih := pieces_less c l
    rw [e1] at ih
    rw [e2] at h
    split at h
    · rcases List.mem_cons.1 h with rfl | h
      · exact Nat.zero_le _
      · have := ih p h; simp; omega
    · rcases List.mem_cons.1 h with rfl | h
      · have := ih x List.mem_cons_self; simp; omega
      · have := ih p (List.mem_cons_of_mem _ h); simp; omega

def setRead (last : Int) (l : List Nat) : List S40 × Bool := if 1 ≤ last ∧ last ≤ 9999 then setRes last (pieces 44 l) [] else ([], false)
theorem impl_ReadSet_ev (t : ByteArray) (ht : t.size ≤ 1048576) (last : Int) : Ev (fun k => impl_ReadSet.f k t last) (setRead last (bs t)) := by
  have hu : impl_isUid.f last = some (decide (1 ≤ last ∧ last ≤ 9999)) := by unfold impl_isUid.f; rw [impl_within_ev]; rfl
  unfold impl_ReadSet.f setRead
  refine Ev.bindc hu ?_
  by_cases h : 1 ≤ last ∧ last ≤ 9999
  · rw [if_pos h]
    refine Ev.yes (decide_eq_true h) ?_
    have hsp := split_pieces 44 t.size t (Nat.le_refl _)
    have hl := pieces_len 44 (bs t)
    have hlen := bs_length t
    generalize hg : Lib.splitB ⟨#[44]⟩ 0 (Lib.countB t ⟨#[44]⟩) t = sp at hsp
    have hsp' : sp.map bs = pieces 44 (bs t) := hsp
    have hlp : sp.length = (pieces 44 (bs t)).length := by rw [← hsp', List.length_map]
    have hf : strings_Split.f t (⟨#[44]⟩ : ByteArray) = some sp := by
      unfold strings_Split.f
      rw [hg, if_pos ⟨by omega, Nat.le_refl _, by omega⟩]
    have hz : ∀ s ∈ sp, s.size ≤ 1048576 := fun s hs => by
      have := pieces_less 44 (bs t) (bs s) (hsp' ▸ List.mem_map_of_mem hs)
      rw [bs_length] at this
      omega
    refine Ev.bindc hf ?_
    have hside : ([] : List S40).length + sp.length ≤ 1048576 ∨ (0 < sp.length ∧ ∃ h : 0 < sp.length, bs sp[0] = []) := by
      by_cases hb : sp.length ≤ 1048576
      · left; simpa using hb
      · right
        obtain ⟨r, hr⟩ := pieces_long 44 (bs t) (by omega)
        rw [hr] at hsp'
        have h0 : 0 < sp.length := by omega
        refine ⟨h0, h0, ?_⟩
        have := congrArg (fun l => l[0]?) hsp'
        simp only [List.getElem?_map, List.getElem?_eq_getElem h0, Option.map_some, List.getElem?_cons_zero] at this
        exact Option.some.inj this
    have := impl_ReadSet_l0 last sp (by omega) hz sp.length 0 [] (by omega) (by simp; omega) hside
    rw [List.drop_zero, hsp'] at this
    exact this
  · rw [if_neg h]
    exact Ev.no (fun e => h (of_decide_eq_true e)) (Ev.now _)
theorem setRes_len (last : Int) : ∀ (ws : List (List Nat)) (xs : List S40), (setRes last ws xs).1.length ≤ 40
  | [], xs => by
    show (setR xs).1.length ≤ 40
    unfold setR
    generalize fin (impl_ReadSet_1.holds xs) 9999 [] 1 = q
    by_cases h : q.length ≤ 40
    · rw [if_pos h]; exact h
    · rw [if_neg h]; exact Nat.zero_le _
  | w :: ws, xs => by
    rw [setRes]
    split
    · exact Nat.zero_le _
    · exact setRes_len last ws _
theorem setRead_len (last : Int) (l : List Nat) : (setRead last l).1.length ≤ 40 := by
  unfold setRead
  split
  · exact setRes_len last _ _
  · exact Nat.zero_le _

/-! the reference's reading -/
def piecesC (cur l : List Nat) : List (List Nat) := match pieces 44 l with
  | [] => [cur]
  | h :: t => (cur ++ h) :: t
theorem piecesC_nil (cur : List Nat) : piecesC cur [] = [cur] := by unfold piecesC; simp [pieces]
theorem piecesC_hit (cur l : List Nat) : piecesC cur (44 :: l) = cur :: piecesC [] l := by
  obtain ⟨h, t, e1, e2⟩ := pieces_cons 44 44 l
  unfold piecesC
  rw [e2, if_pos rfl, e1]; simp
theorem piecesC_next (cur l : List Nat) (c : Nat) (hc : c ≠ 44) : piecesC cur (c :: l) = piecesC (cur ++ [c]) l := by
  obtain ⟨h, t, e1, e2⟩ := pieces_cons 44 c l
  unfold piecesC
  rw [e2, if_neg hc, e1]; simp
theorem piecesC_start (l : List Nat) : piecesC [] l = pieces 44 l := by
  unfold piecesC
  cases e : pieces 44 l with
  | nil => exact absurd e (pieces_ne 44 l)
  | cons h t => rfl
/-- the bits are the list's -/
def BitsOk (bits : List Bool) (xs : List S40) : Prop := bits.length = 10001 ∧ (∀ i : Int, 0 ≤ i → i ≤ 9999 → rdOf false bits i = impl_ReadSet_1.holds xs i) ∧ impl_ReadSet_1.holds xs 0 = false
theorem holds_snoc (xs : List S40) (a b n : Int) : impl_ReadSet_1.holds (xs ++ [⟨a, b⟩]) n = (impl_ReadSet_1.holds xs n || decide (a ≤ n ∧ n ≤ b)) := by
  unfold impl_ReadSet_1.holds hasL
  rw [List.map_append, List.any_append]
  simp [impl_ReadSet_1.pr]
theorem rdb_set' (xs : List Bool) (n : Int) (h0 : 0 ≤ n) (h1 : n < (xs.length : Int)) (i : Int) (hi : 0 ≤ i) : rdOf false (xs.set n.toNat true) i = (rdOf false xs i || decide (i = n)) := by
  unfold rdOf
  rw [List.getD_eq_getElem?_getD, List.getD_eq_getElem?_getD, List.getElem?_set]
  by_cases h : i = n
  · subst h
    rw [if_pos rfl, if_pos (by omega), decide_eq_true rfl, Bool.or_true]; rfl
  · rw [if_neg (show ¬ n.toNat = i.toNat by omega), decide_eq_false h, Bool.or_false]
theorem spec_ReadSet_l1 (t : ByteArray) (last : Int) (none_ : List S40) (x9 hi_ : Int) (hh : hi_ ≤ 9999) : ∀ (d : Nat) (bits : List Bool) (n : Int), n + d = hi_ + 1 → 0 ≤ n → bits.length = 10001 →
    ∃ bits' : List Bool, bits'.length = 10001 ∧ (∀ i : Int, 0 ≤ i → rdOf false bits' i = (rdOf false bits i || decide (n ≤ i ∧ i ≤ hi_))) ∧
      ∀ R, Ev (fun k => spec_ReadSet.l0 k t last none_ bits' (wrap64 (x9 + 1)) (wrap64 (x9 + 1))) R → Ev (fun k => spec_ReadSet.l1 k t last none_ bits x9 hi_ n) R := by
  intro d
  induction d with
  | zero =>
    intro bits n hn h0 hb
    refine ⟨bits, hb, fun i hi => ?_, fun R hR => Ev.step (spec_ReadSet.l1.eq_2 t last none_ bits x9 hi_ n) (Ev.no (by omega) hR)⟩
    rw [decide_eq_false (by omega), Bool.or_false]
  | succ d ih =>
    intro bits n hn h0 hb
    obtain ⟨bits', b1, b2, b3⟩ := ih (bits.set n.toNat true) (n + 1) (by omega) (by omega) (by rw [List.length_set]; exact hb)
    refine ⟨bits', b1, fun i hi => ?_, fun R hR => Ev.step (spec_ReadSet.l1.eq_2 t last none_ bits x9 hi_ n) (Ev.yes (by omega) (Ev.yes h0 (Ev.yes (by omega) ?_)))⟩
    · rw [b2 i hi, rdb_set' bits n h0 (by omega) i hi, Bool.or_assoc, ← Bool.decide_or]
      congr 1
      exact decide_eq_decide.2 (by omega)
    · rw [w64 (x := n + 1) (by omega) (by omega)]
      exact b3 R hR
theorem spec_ReadSet_l0 (t : ByteArray) (ht : t.size ≤ 140737488351232) (last : Int) (hl : 1 ≤ last ∧ last ≤ 9999) : ∀ (d i b : Nat) (xs : List S40) (bits : List Bool), i + d = t.size → b ≤ i → BitsOk bits xs →
    Ev (fun k => spec_ReadSet.l0 k t last [] bits (b : Int) (i : Int)) (setRes last (piecesC (((bs t).drop b).take (i - b)) ((bs t).drop i)) xs) := by
  have hlen : (bs t).length = t.size := bs_length t
  have word : ∀ (b i : Nat) (ws : List (List Nat)) (xs : List S40) (bits : List Bool), b ≤ i → i ≤ t.size → BitsOk bits xs →
      (∀ xs' bits', BitsOk bits' xs' → Ev (fun k => spec_ReadSet.l0 k t last [] bits' ((i + 1 : Nat) : Int) ((i + 1 : Nat) : Int)) (setRes last ws xs')) →
      Ev (fun k => spec_ReadSet.j1 k t last [] bits (b : Int) (i : Int) false) (setRes last ((((bs t).drop b).take (i - b)) :: ws) xs) := fun b i ws xs bits hb hi hB hR => by
    obtain ⟨r, er, hr⟩ := spec_l05Part_ev (t.extract b i) (by rw [size_extract _ _ _ hi]; omega) last
    rw [bs_extract] at hr
    refine Ev.step (spec_ReadSet.j1.eq_2 t last [] bits b i false) (Ev.no (by simp) (Ev.yes (by omega) (Ev.yes (by omega) (Ev.yes (by omega) (Ev.bind er ?_)))))
    rw [setRes]
    cases hp : partP last (((bs t).drop b).take (i - b)) with
    | none => exact Ev.no (by rw [hr.2 hp]; decide) (Ev.now _)
    | some p =>
      obtain rfl := hr.1 p hp
      have hpr := part_range hl hp
      refine Ev.yes rfl ?_
      obtain ⟨bits', b1, b2, b3⟩ := spec_ReadSet_l1 t last [] i p.2 hpr.2.2 (p.2 + 1 - p.1).toNat bits p.1 (by omega) (by omega) hB.1
      refine b3 _ ?_
      rw [uid_next i (by omega)]
      refine hR _ _ ⟨b1, fun j h0 h1 => ?_, ?_⟩
      · rw [b2 j h0, hB.2.1 j h0 h1, holds_snoc]
      · rw [holds_snoc, hB.2.2, decide_eq_false (by omega)]; rfl
  intro d
  induction d with
  | zero =>
    intro i b xs bits hi hb hB
    rw [List.drop_of_length_le (show (bs t).length ≤ i by omega), piecesC_nil]
    refine Ev.step (spec_ReadSet.l0.eq_2 t last [] bits b i) (Ev.yes (by omega) (Ev.no (by omega) ?_))
    refine word b i [] xs bits hb (by omega) hB (fun xs' bits' hB' => ?_)
    refine Ev.step (spec_ReadSet.l0.eq_2 t last [] bits' _ _) (Ev.no (by omega) ?_)
    have h1 := spec_l05Set_ev (impl_ReadSet_1.holds xs') bits' hB'.1 hB'.2.1 hB'.2.2
    show Ev _ (setR xs')
    unfold setR
    generalize fin (impl_ReadSet_1.holds xs') 9999 [] 1 = q at h1 ⊢
    exact Ev.bind h1 (Ev.now _)
  | succ d ih =>
    intro i b xs bits hi hb hB
    have hil : i < (bs t).length := by omega
    have hb2 := bt_eq hil
    have htake : ((bs t).drop b).take (i + 1 - b) = ((bs t).drop b).take (i - b) ++ [(bs t)[i]] := by
      rw [show i + 1 - b = (i - b) + 1 by omega, List.take_succ_eq_append_getElem (by rw [List.length_drop]; omega)]
      congr 2
      rw [List.getElem_drop]; congr 1; omega
    rw [List.drop_eq_getElem_cons hil]
    refine Ev.step (spec_ReadSet.l0.eq_2 t last [] bits b i) (Ev.yes (by omega) (Ev.yes (by omega) (Ev.yes (by omega) ?_)))
    rw [hb2]
    by_cases hc : (bs t)[i] = 44
    · have e : ((((bs t)[i] : Nat) : Int) != 44) = false := by rw [hc]; rfl
      rw [e, hc, piecesC_hit]
      refine word b i _ xs bits hb (by omega) hB (fun xs' bits' hB' => ?_)
      have := ih (i + 1) (i + 1) xs' bits' (by omega) (Nat.le_refl _) hB'
      rw [Nat.sub_self, List.take_zero] at this
      exact this
    · have e : ((((bs t)[i] : Nat) : Int) != 44) = true := bne_iff_ne.mpr (by omega)
      rw [e, piecesC_next _ _ _ hc]
      have := ih (i + 1) b xs bits (by omega) (by omega) hB
      rw [htake] at this
      refine Ev.step (spec_ReadSet.j1.eq_2 t last [] bits b i true) (Ev.yes rfl ?_)
      rw [uid_next i (by omega)]
      exact this
theorem rep_false (i : Int) : rdOf false (List.replicate 10001 false) i = false := by
  unfold rdOf
  rw [List.getD_eq_getElem?_getD, List.getElem?_replicate]
  split <;> rfl
theorem spec_ReadSet_ev (t : ByteArray) (ht : t.size ≤ 140737488351232) (last : Int) : Ev (fun k => spec_ReadSet.f k t last) (setRead last (bs t)) := by
  unfold spec_ReadSet.f setRead
  refine Ev.bindc rfl (Ev.bindc (spec_l01In_ev last 1 9999) ?_)
  by_cases h : 1 ≤ last ∧ last ≤ 9999
  · rw [if_pos h]
    refine Ev.yes (decide_eq_true h) (Ev.yes (by decide) ?_)
    have := spec_ReadSet_l0 t ht last h t.size 0 0 [] (List.replicate 10001 false) (by omega) (Nat.le_refl _) ⟨List.length_replicate, fun i _ _ => rep_false i, rfl⟩
    rw [List.drop_zero, Nat.sub_zero, List.take_zero, piecesC_start] at this
    exact this
  · rw [if_neg h]
    exact Ev.no (fun e => h (of_decide_eq_true e)) (Ev.now _)


theorem rdb_set (xs : List Bool) (n : Int) (v : Bool) (h0 : 0 ≤ n) (h1 : n < (xs.length : Int)) (i : Int) (hi : 0 ≤ i) : rdOf false (xs.set n.toNat v) i = if i = n then v else rdOf false xs i := by
  unfold rdOf
  rw [List.getD_eq_getElem?_getD, List.getD_eq_getElem?_getD, List.getElem?_set]
  by_cases h : i = n
  · subst h
    rw [if_pos rfl, if_pos rfl, if_pos (by omega)]; rfl
  · rw [if_neg (show ¬ n.toNat = i.toNat by omega), if_neg h]
theorem spec_l05Bits_l1 (l : List S40) (hl : l.length ≤ 1048576) (j : Nat) (hj : j < l.length) (h9 : (l[j]).f1 ≤ 9999) :
    ∀ (d : Nat) (bits : List Bool) (n : Int), (n + d = (l[j]).f1 + 1 ∨ (d = 0 ∧ (l[j]).f1 < n)) → 0 ≤ n → bits.length = 10001 →
      ∃ bits' : List Bool, bits'.length = 10001 ∧ (∀ i : Int, 0 ≤ i → rdOf false bits' i = (rdOf false bits i || decide (n ≤ i ∧ i ≤ (l[j]).f1))) ∧
        ∀ R, Ev (fun k => spec_l05Bits.l0 k l bits' ((j + 1 : Nat) : Int)) R → Ev (fun k => spec_l05Bits.l1 k l bits (j : Int) n) R := by
  intro d
  have er := rd45_at l j hj
  have w3 : wrap64 ((j : Int) + 1) = ((j + 1 : Nat) : Int) := by rw [w64 (by omega) (by omega)]; omega
  induction d with
  | zero =>
    intro bits n hn h0 hb
    refine ⟨bits, hb, fun i hi => ?_, fun R hR => ?_⟩
    · have : ¬ (n ≤ i ∧ i ≤ (l[j]).f1) := by omega
      rw [decide_eq_false this, Bool.or_false]
    · refine Ev.step (spec_l05Bits.l1.eq_2 l bits (j : Int) n) (Ev.yes (by omega) (Ev.yes (by omega) (Ev.no (by rw [er]; omega) ?_)))
      rw [w3]; exact hR
  | succ d ih =>
    intro bits n hn h0 hb
    have hn2 : n + (d + 1 : Nat) = (l[j]).f1 + 1 := by omega
    obtain ⟨bits', hb', hrd, hk⟩ := ih (bits.set n.toNat true) (n + 1) (by omega) (by omega) (by rw [List.length_set]; exact hb)
    refine ⟨bits', hb', fun i hi => ?_, fun R hR => ?_⟩
    · rw [hrd i hi, rdb_set bits n true h0 (by omega) i hi]
      by_cases hin : i = n
      · rw [if_pos hin, decide_eq_true (show n ≤ i ∧ i ≤ (l[j]).f1 by omega), Bool.or_true, Bool.true_or]
      · rw [if_neg hin]
        congr 1
        exact decide_eq_decide.2 (by omega)
    · refine Ev.step (spec_l05Bits.l1.eq_2 l bits (j : Int) n) (Ev.yes (by omega) (Ev.yes (by omega) (Ev.yes (by rw [er]; omega) (Ev.yes (by omega) (Ev.yes (by omega) ?_)))))
      have w4 : wrap64 (n + 1) = n + 1 := w64 (by omega) (by omega)
      rw [w4]
      exact hk R hR
theorem hasL_cons (q : Int × Int) (l : List (Int × Int)) (n : Int) : hasL (q :: l) n = (decide (q.1 ≤ n ∧ n ≤ q.2) || hasL l n) := rfl
theorem spec_l05Bits_l0 (l : List S40) (hl : l.length ≤ 1048576) (hok : ∀ q ∈ l.map pr, 1 ≤ q.1 ∧ q.1 ≤ q.2 ∧ q.2 ≤ 9999) :
    ∀ (d j : Nat) (bits : List Bool), j + d = l.length → bits.length = 10001 →
      ∃ bits' : List Bool, bits'.length = 10001 ∧ (∀ i : Int, 0 ≤ i → rdOf false bits' i = (rdOf false bits i || hasL ((l.drop j).map pr) i)) ∧ Ev (fun k => spec_l05Bits.l0 k l bits (j : Int)) bits' := by
  intro d
  induction d with
  | zero =>
    intro j bits hj hb
    refine ⟨bits, hb, fun i hi => ?_, Ev.step (spec_l05Bits.l0.eq_2 l bits (j : Int)) (Ev.no (by omega) (Ev.now _))⟩
    rw [List.drop_eq_nil_of_le (by omega)]
    simp [hasL]
  | succ d ih =>
    intro j bits hj hb
    have hlt : j < l.length := by omega
    have hq := hok (pr (l[j])) (List.mem_map_of_mem (List.getElem_mem hlt))
    have er := rd45_at l j hlt
    simp only [pr] at hq
    obtain ⟨b1, hb1, hr1, hk⟩ := spec_l05Bits_l1 l hl j hlt hq.2.2 ((l[j]).f1 + 1 - (l[j]).f0).toNat bits (l[j]).f0 (by omega) (by omega) hb
    obtain ⟨b2, hb2, hr2, h2⟩ := ih (j + 1) b1 (by omega) hb1
    refine ⟨b2, hb2, fun i hi => ?_, ?_⟩
    · rw [hr2 i hi, hr1 i hi, List.drop_eq_getElem_cons hlt, List.map_cons, hasL_cons, Bool.or_assoc]
      rfl
    · refine Ev.step (spec_l05Bits.l0.eq_2 l bits (j : Int)) (Ev.yes (by omega) (Ev.yes (by omega) ?_))
      rw [er]
      exact hk _ h2
theorem rdb_false (n : Nat) (i : Int) : rdOf false (List.replicate n false) i = false := by
  unfold rdOf
  rw [List.getD_eq_getElem?_getD, List.getElem?_replicate]
  split <;> rfl
theorem spec_l05Bits_ev (l : List S40) (hl : l.length ≤ 1048576) (hok : setOkB (l.map pr) = true) :
    ∃ bits : List Bool, bits.length = 10001 ∧ (∀ i : Int, 0 ≤ i → rdOf false bits i = hasL (l.map pr) i) ∧ Ev (fun k => spec_l05Bits.f k l) bits := by
  have h1 : okL 0 (l.map pr) = true := by
    unfold setOkB at hok
    rw [Bool.and_eq_true] at hok
    exact hok.1
  obtain ⟨b, hb, hr, h⟩ := spec_l05Bits_l0 l hl (fun q hq => okL_mem h1 q hq) l.length 0 (List.replicate 10001 false) (by omega) (by rw [List.length_replicate])
  refine ⟨b, hb, fun i hi => ?_, ?_⟩
  · rw [hr i hi, rdb_false, Bool.false_or]; rfl
  · unfold spec_l05Bits.f
    exact Ev.yes (by omega) h
theorem hasL_zero {l : List (Int × Int)} (hok : setOkB l = true) : hasL l 0 = false := by
  unfold setOkB at hok
  rw [Bool.and_eq_true] at hok
  unfold hasL
  rw [List.any_eq_false]
  intro q hq
  have := okL_mem hok.1 q hq
  simp only [decide_eq_true_eq]
  omega

theorem fin_congr {p q : Int → Bool} : ∀ (d : Nat) (xs : List S40) (n : Int), 0 ≤ n → (∀ i, 0 ≤ i → p i = q i) → fin p d xs n = fin q d xs n
  | 0, _, _, _, _ => rfl
  | d + 1, xs, n, h0, h => by
    simp only [fin]
    have e : step p xs n = step q xs n := by unfold step; rw [h n h0]
    rw [e]
    exact fin_congr d _ _ (by omega) h

def opB (both : Bool) (a b : Bool) : Bool := if both = true then a && b else a || b
def twoOut (p : Int → Bool) (a b : List S40) : List S40 × Bool :=
  if setOkB (a.map pr) = true ∧ setOkB (b.map pr) = true ∧ (fin p 9999 [] 1).length ≤ 40 then (fin p 9999 [] 1, true) else ([], false)

theorem spec_l05Two_l0 (both : Bool) (y : List Bool) (hy : y.length = 10001) (A : Int → Bool) (hp0 : opB both (A 0) (rdOf false y 0) = false) :
    ∀ (d : Nat) (n : Int) (x : List Bool), n + d = 10001 → 0 ≤ n → x.length = 10001 → (∀ i : Int, 0 ≤ i → rdOf false x i = if i < n then opB both (A i) (rdOf false y i) else A i) →
      Ev (fun k => spec_l05Two.l0 k both x y n) (if (fin (fun i => opB both (A i) (rdOf false y i)) 9999 [] 1).length ≤ 40 then (fin (fun i => opB both (A i) (rdOf false y i)) 9999 [] 1, true) else ([], false)) := by
  intro d
  induction d with
  | zero =>
    intro n x hn h0 hx hr
    have hs := spec_l05Set_ev (fun i => opB both (A i) (rdOf false y i)) x hx (fun i hi h9 => by rw [hr i hi, if_pos (by omega)]) hp0
    generalize (if (fin (fun i => opB both (A i) (rdOf false y i)) 9999 [] 1).length ≤ 40 then (fin (fun i => opB both (A i) (rdOf false y i)) 9999 [] 1, true) else ([], false)) = R at hs ⊢
    exact Ev.step (spec_l05Two.l0.eq_2 both x y n) (Ev.no (by omega) (Ev.bind hs (Ev.now _)))
  | succ d ih =>
    intro n x hn h0 hx hr
    have hrn := hr n h0
    rw [if_neg (by omega)] at hrn
    have w4 : wrap64 (n + 1) = n + 1 := w64 (by omega) (by omega)
    have next : ∀ v : Bool, v = opB both (A n) (rdOf false y n) → Ev (fun k => spec_l05Two.l0 k both (x.set n.toNat v) y (n + 1)) (if (fin (fun i => opB both (A i) (rdOf false y i)) 9999 [] 1).length ≤ 40 then (fin (fun i => opB both (A i) (rdOf false y i)) 9999 [] 1, true) else ([], false)) := by
      intro v hv
      refine ih (n + 1) (x.set n.toNat v) (by omega) (by omega) (by rw [List.length_set]; exact hx) (fun i hi => ?_)
      rw [rdb_set x n v h0 (by omega) i hi]
      by_cases h : i = n
      · rw [if_pos h, h, if_pos (by omega)]; exact hv
      · rw [if_neg h, hr i hi]
        by_cases h2 : i < n
        · rw [if_pos h2, if_pos (by omega)]
        · rw [if_neg h2, if_neg (by omega)]
    refine Ev.step (spec_l05Two.l0.eq_2 both x y n) (Ev.yes (by omega) ?_)
    rw [w4, hrn]
    clear w4
    refine Ev.ite (fun hb => Ev.yes h0 (Ev.ite (fun ha => Ev.yes (by omega) (next _ ?_)) (fun ha => next _ ?_))) (fun hb => Ev.yes h0 (Ev.ite (fun ha => next _ ?_) (fun ha => Ev.yes (by omega) (next _ ?_))))
    · unfold opB; rw [if_pos hb, ha, Bool.true_and]
    · unfold opB; rw [if_pos hb, Bool.eq_false_iff.mpr ha, Bool.false_and]
    · unfold opB; rw [if_neg hb, ha, Bool.true_or]
    · unfold opB; rw [if_neg hb, Bool.eq_false_iff.mpr ha, Bool.false_or]
theorem spec_l05Two_ev (a b : List S40) (both : Bool) (ha : a.length ≤ 1048576) (hb : b.length ≤ 1048576) :
    Ev (fun k => spec_l05Two.f k a b both) (twoOut (fun n => opB both (hasL (a.map pr) n) (hasL (b.map pr) n)) a b) := by
  unfold spec_l05Two.f twoOut
  refine Ev.bind (spec_SetOk_ev a ha) (Ev.ite (fun h1 => ?_) (fun h1 => ?_))
  · refine Ev.bind (spec_SetOk_ev b hb) ?_
    cases h2 : setOkB (b.map pr)
    · rw [if_neg (fun h => by simp at h)]
      exact Ev.step (spec_l05Two.j0.eq_2 a b both _) (Ev.yes rfl (Ev.now _))
    · obtain ⟨x, hx, hrx, e1⟩ := spec_l05Bits_ev a ha h1
      obtain ⟨y, hy, hry, e2⟩ := spec_l05Bits_ev b hb h2
      refine Ev.step (spec_l05Two.j0.eq_2 a b both _) (Ev.no (by simp) (Ev.bind e1 (Ev.bind e2 ?_)))
      have hl := spec_l05Two_l0 both y hy (fun i => hasL (a.map pr) i) (by
        rw [hry 0 (by omega), hasL_zero h1, hasL_zero h2]; cases both <;> rfl) 10001 0 x (by omega) (by omega) hx (fun i hi => by rw [if_neg (by omega)]; exact hrx i hi)
      rw [fin_congr (q := fun n => opB both (hasL (a.map pr) n) (hasL (b.map pr) n)) 9999 [] 1 (by omega) (fun i hi => by rw [hry i hi])] at hl
      by_cases h3 : (fin (fun n => opB both (hasL (a.map pr) n) (hasL (b.map pr) n)) 9999 [] 1).length ≤ 40
      · rw [if_pos h3] at hl
        rw [if_pos ⟨h1, rfl, h3⟩]; exact hl
      · rw [if_neg h3] at hl
        rw [if_neg (fun h => h3 h.2.2)]; exact hl
  · rw [if_neg (fun h => h1 h.1)]
    exact Ev.step (spec_l05Two.j0.eq_2 a b both _) (Ev.yes rfl (Ev.now _))

def putP (tb : Bool) (l : List (Int × Int)) (lo hi n : Int) : Bool := if lo ≤ n ∧ n ≤ hi then tb else hasL l n
def putOut (p : Int → Bool) (s : List S40) (lo hi : Int) : List S40 × Bool :=
  if setOkB (s.map pr) = true ∧ (1 ≤ lo ∧ lo ≤ hi ∧ hi ≤ 9999) ∧ (fin p 9999 [] 1).length ≤ 40 then (fin p 9999 [] 1, true) else (s, false)
theorem spec_l05Put_l0 (tb : Bool) (same : List S40) (lo hi : Int) (hlo : 1 ≤ lo) (hhi : hi ≤ 9999) (A : Int → Bool) (hA : A 0 = false) :
    ∀ (d : Nat) (n : Int) (x : List Bool), n + d = hi + 1 → lo ≤ n → x.length = 10001 → (∀ i : Int, 0 ≤ i → rdOf false x i = if lo ≤ i ∧ i < n then tb else A i) →
      Ev (fun k => spec_l05Put.l0 k hi tb same x n) (if (fin (fun i => if lo ≤ i ∧ i ≤ hi then tb else A i) 9999 [] 1).length ≤ 40 then (fin (fun i => if lo ≤ i ∧ i ≤ hi then tb else A i) 9999 [] 1, true) else (same, false)) := by
  intro d
  induction d with
  | zero =>
    intro n x hn h0 hx hr
    have hs := spec_l05Set_ev (fun i => if lo ≤ i ∧ i ≤ hi then tb else A i) x hx (fun i hi0 h9 => by
      rw [hr i hi0]
      by_cases h : lo ≤ i ∧ i ≤ hi
      · rw [if_pos h, if_pos (by omega)]
      · rw [if_neg h, if_neg (by omega)]) (by rw [if_neg (by omega)]; exact hA)
    refine Ev.step (spec_l05Put.l0.eq_2 hi tb same x n) (Ev.no (by omega) (Ev.bind hs ?_))
    generalize fin (fun i => if lo ≤ i ∧ i ≤ hi then tb else A i) 9999 [] 1 = F
    by_cases h40 : F.length ≤ 40
    · rw [if_pos h40, if_pos h40]; exact Ev.yes rfl (Ev.now _)
    · rw [if_neg h40, if_neg h40]; exact Ev.no (by simp) (Ev.now _)
  | succ d ih =>
    intro n x hn h0 hx hr
    have w4 : wrap64 (n + 1) = n + 1 := w64 (by omega) (by omega)
    refine Ev.step (spec_l05Put.l0.eq_2 hi tb same x n) (Ev.yes (by omega) (Ev.yes (by omega) (Ev.yes (by omega) ?_)))
    rw [w4]
    clear w4
    refine ih (n + 1) (x.set n.toNat tb) (by omega) (by omega) (by rw [List.length_set]; exact hx) (fun i hi0 => ?_)
    rw [rdb_set x n tb (by omega) (by omega) i hi0]
    by_cases h : i = n
    · rw [if_pos h, if_pos (by omega)]
    · rw [if_neg h, hr i hi0]
      by_cases h2 : lo ≤ i ∧ i < n
      · rw [if_pos h2, if_pos (by omega)]
      · rw [if_neg h2, if_neg (by omega)]
theorem spec_l05Put_ev (s : List S40) (lo hi : Int) (tb : Bool) (hs : s.length ≤ 1048576) :
    Ev (fun k => spec_l05Put.f k s lo hi tb) (putOut (putP tb (s.map pr) lo hi) s lo hi) := by
  unfold spec_l05Put.f
  refine Ev.bindc rfl (Ev.yes (by simp; omega) (Ev.bindc rfl ?_))
  rw [List.nil_append]
  refine Ev.bind (spec_SetOk_ev s hs) (Ev.ite (fun h1 => ?_) (fun h1 => ?_))
  · refine Ev.bindc (spec_l01In_ev lo 1 hi) (Ev.ite (fun h2 => ?_) (fun h2 => ?_))
    · have h2 : 1 ≤ lo ∧ lo ≤ hi := by simpa using h2
      by_cases h3 : hi ≤ 9999
      · refine Ev.step (spec_l05Put.j0.eq_2 _ _ _ _ _ _) (Ev.no (by simp; omega) ?_)
        obtain ⟨x, hx, hrx, e1⟩ := spec_l05Bits_ev s hs h1
        refine Ev.bind e1 ?_
        have hl := spec_l05Put_l0 tb s lo hi h2.1 h3 (fun i => hasL (s.map pr) i) (hasL_zero h1) (hi + 1 - lo).toNat lo x (by omega) (Int.le_refl _) hx (fun i hi0 => by rw [if_neg (by omega)]; exact hrx i hi0)
        have e : (fun i => if lo ≤ i ∧ i ≤ hi then tb else hasL (s.map pr) i) = putP tb (s.map pr) lo hi := rfl
        rw [e] at hl
        unfold putOut
        generalize fin (putP tb (s.map pr) lo hi) 9999 [] 1 = F at hl ⊢
        by_cases h4 : F.length ≤ 40
        · rw [if_pos h4] at hl
          rw [if_pos ⟨h1, ⟨h2.1, h2.2, h3⟩, h4⟩]; exact hl
        · rw [if_neg h4] at hl
          rw [if_neg (fun h => h4 h.2.2)]; exact hl
      · unfold putOut
        rw [if_neg (fun h => h3 h.2.1.2.2)]
        exact Ev.step (spec_l05Put.j0.eq_2 _ _ _ _ _ _) (Ev.yes (by simp; omega) (Ev.now _))
    · unfold putOut
      rw [if_neg (fun h => h2 (by simpa using And.intro h.2.1.1 h.2.1.2.1))]
      exact Ev.step (spec_l05Put.j0.eq_2 _ _ _ _ _ _) (Ev.yes rfl (Ev.now _))
  · unfold putOut
    rw [if_neg (fun h => h1 h.1)]
    exact Ev.step (spec_l05Put.j0.eq_2 _ _ _ _ _ _) (Ev.yes rfl (Ev.now _))

theorem spec_SetAdd_ev (s : List S40) (lo hi : Int) (hs : s.length ≤ 1048576) :
    Ev (fun k => spec_SetAdd.f k s lo hi) (putOut (putP true (s.map pr) lo hi) s lo hi) := by
  unfold spec_SetAdd.f
  have h := spec_l05Put_ev s lo hi true hs
  obtain ⟨R, hR⟩ : ∃ R, putOut (putP true (s.map pr) lo hi) s lo hi = R := ⟨_, rfl⟩
  rw [hR] at h ⊢
  clear hR
  obtain ⟨R1, R2⟩ := R
  refine Ev.bind h ?_
  exact ⟨0, fun _ _ => rfl⟩

theorem spec_SetDrop_ev (s : List S40) (lo hi : Int) (hs : s.length ≤ 1048576) :
    Ev (fun k => spec_SetDrop.f k s lo hi) (putOut (putP false (s.map pr) lo hi) s lo hi) := by
  unfold spec_SetDrop.f
  have h := spec_l05Put_ev s lo hi false hs
  obtain ⟨R, hR⟩ : ∃ R, putOut (putP false (s.map pr) lo hi) s lo hi = R := ⟨_, rfl⟩
  rw [hR] at h ⊢
  clear hR
  obtain ⟨R1, R2⟩ := R
  refine Ev.bind h ?_
  exact ⟨0, fun _ _ => rfl⟩

theorem impl_SetAdd_ev (s : List S40) (lo hi : Int) (hs : s.length ≤ 1048576) :
    Ev (fun k => impl_SetAdd.f k s lo hi) (putOut (putP true (s.map pr) lo hi) s lo hi) := by
  have h0 := impl_setOf_ev (impl_SetAdd.holds s lo hi)
  have e : fin (impl_SetAdd.holds s lo hi) 9999 [] 1 = fin (putP true (s.map pr) lo hi) 9999 [] 1 := fin_congr 9999 [] 1 (by omega) (fun i _ => by
    show (hasL (s.map pr) i || decide (lo ≤ i ∧ i ≤ hi)) = (if lo ≤ i ∧ i ≤ hi then true else hasL (s.map pr) i)
    by_cases h : lo ≤ i ∧ i ≤ hi
    · rw [if_pos h, decide_eq_true h]; simp
    · rw [if_neg h, decide_eq_false h]; simp)
  rw [e] at h0
  unfold impl_SetAdd.f putOut
  generalize fin (putP true (s.map pr) lo hi) 9999 [] 1 = F at h0 ⊢
  refine Ev.yes hs (Ev.bind (impl_SetOk_ev s hs) ?_)
  refine Ev.ite (fun h => Ev.bind h0 (Ev.ite (fun h2 => ?_) (fun h2 => ?_))) (fun h => ?_)
  · rw [if_pos ⟨h.1, ⟨h.2.1.1, h.2.2.1, h.2.2.2⟩, by simpa using h2⟩]; exact Ev.now _
  · rw [if_neg (fun h3 => h2 (by simpa using h3.2.2))]; exact Ev.now _
  · rw [if_neg (fun h3 => h ⟨h3.1, ⟨h3.2.1.1, Int.le_trans h3.2.1.2.1 h3.2.1.2.2⟩, h3.2.1.2.1, h3.2.1.2.2⟩)]; exact Ev.now _

theorem impl_SetDrop_ev (s : List S40) (lo hi : Int) (hs : s.length ≤ 1048576) :
    Ev (fun k => impl_SetDrop.f k s lo hi) (putOut (putP false (s.map pr) lo hi) s lo hi) := by
  have h0 := impl_setOf_ev (impl_SetDrop.holds s lo hi)
  have e : fin (impl_SetDrop.holds s lo hi) 9999 [] 1 = fin (putP false (s.map pr) lo hi) 9999 [] 1 := fin_congr 9999 [] 1 (by omega) (fun i _ => by
    show (hasL (s.map pr) i && !decide (lo ≤ i ∧ i ≤ hi)) = (if lo ≤ i ∧ i ≤ hi then false else hasL (s.map pr) i)
    by_cases h : lo ≤ i ∧ i ≤ hi
    · rw [if_pos h, decide_eq_true h]; simp
    · rw [if_neg h, decide_eq_false h]; simp)
  rw [e] at h0
  unfold impl_SetDrop.f putOut
  generalize fin (putP false (s.map pr) lo hi) 9999 [] 1 = F at h0 ⊢
  refine Ev.yes hs (Ev.bind (impl_SetOk_ev s hs) ?_)
  refine Ev.ite (fun h => Ev.bind h0 (Ev.ite (fun h2 => ?_) (fun h2 => ?_))) (fun h => ?_)
  · rw [if_pos ⟨h.1, ⟨h.2.1.1, h.2.2.1, h.2.2.2⟩, by simpa using h2⟩]; exact Ev.now _
  · rw [if_neg (fun h3 => h2 (by simpa using h3.2.2))]; exact Ev.now _
  · rw [if_neg (fun h3 => h ⟨h3.1, ⟨h3.2.1.1, Int.le_trans h3.2.1.2.1 h3.2.1.2.2⟩, h3.2.1.2.1, h3.2.1.2.2⟩)]; exact Ev.now _

theorem putOut_len (p : Int → Bool) (s : List S40) (lo hi : Int) (hs : s.length ≤ 1048576) : (putOut p s lo hi).1.length ≤ 1048576 := by
  unfold putOut
  generalize fin p 9999 [] 1 = F
  split
  · rename_i h
    have := h.2.2
    show F.length ≤ 1048576
    omega
  · exact hs

theorem impl_SetJoin_ev (a b : List S40) (ha : a.length ≤ 1048576) (hb : b.length ≤ 1048576) :
    Ev (fun k => impl_SetJoin.f k a b) (twoOut (fun n => opB false (hasL (a.map pr) n) (hasL (b.map pr) n)) a b) := by
  have e : (fun n => opB false (hasL (a.map pr) n) (hasL (b.map pr) n)) = impl_SetJoin.holds a b := rfl
  rw [e]
  unfold impl_SetJoin.f twoOut
  have h0 := impl_setOf_ev (impl_SetJoin.holds a b)
  generalize fin (impl_SetJoin.holds a b) 9999 [] 1 = F at h0 ⊢
  refine Ev.yes ⟨ha, hb⟩ (Ev.bind h0 ?_)
  refine Ev.ite (fun h => ?_) (fun h => ?_)
  · have h40 : F.length ≤ 40 := by simpa using h
    refine Ev.bind (impl_SetOk_ev a ha) (Ev.ite (fun h1 => Ev.bind (impl_SetOk_ev b hb) (Ev.ite (fun h2 => ?_) (fun h2 => ?_))) (fun h1 => ?_))
    · rw [if_pos ⟨h1, h2, h40⟩]; exact Ev.now _
    · rw [if_neg (fun h => h2 h.2.1)]; exact Ev.now _
    · rw [if_neg (fun h => h1 h.1)]; exact Ev.now _
  · rw [if_neg (fun h2 => h (by simpa using h2.2.2))]; exact Ev.now _

theorem spec_SetJoin_ev (a b : List S40) (ha : a.length ≤ 1048576) (hb : b.length ≤ 1048576) :
    Ev (fun k => spec_SetJoin.f k a b) (twoOut (fun n => opB false (hasL (a.map pr) n) (hasL (b.map pr) n)) a b) := by
  unfold spec_SetJoin.f
  have h := spec_l05Two_ev a b false ha hb
  obtain ⟨R, hR⟩ : ∃ R, twoOut (fun n => opB false (hasL (a.map pr) n) (hasL (b.map pr) n)) a b = R := ⟨_, rfl⟩
  rw [hR] at h ⊢
  clear hR
  obtain ⟨R1, R2⟩ := R
  refine Ev.bind h ?_
  exact ⟨0, fun _ _ => rfl⟩

theorem twoOut_len (p : Int → Bool) (a b : List S40) : (twoOut p a b).1.length ≤ 40 := by
  unfold twoOut
  generalize fin p 9999 [] 1 = F
  split
  · rename_i h; exact h.2.2
  · simp

theorem spec_SetSize_l0 (l : List S40) (hl : l.length ≤ 40) (hok : ∀ p ∈ l.map pr, 1 ≤ p.1 ∧ p.1 ≤ p.2 ∧ p.2 ≤ 9999) : ∀ (d i : Nat) (s : Int), i + d = l.length → 0 ≤ s → s ≤ 9999 * i → Ev (fun k => spec_SetSize.l0 k l s (i : Int)) (s + sizeL ((l.drop i).map pr)) := by
  intro d
  induction d with
  | zero =>
    intro i s hi _ _
    refine Ev.step (spec_SetSize.l0.eq_2 l s (i : Int)) (Ev.no (by omega) (Ev.const ?_))
    rw [List.drop_eq_nil_of_le (by omega)]; simp [sizeL]
  | succ d ih =>
    intro i s hi h0 h1
    have hlt : i < l.length := by omega
    have e := rd45_at l i hlt
    have hx := hok (pr l[i]) (List.mem_map_of_mem (List.getElem_mem hlt))
    rw [← e] at hx
    refine Ev.step (spec_SetSize.l0.eq_2 l s (i : Int)) (Ev.yes (by omega) (Ev.yes (by omega) ?_))
    rw [List.drop_eq_getElem_cons hlt, ← e]
    generalize rd_T40 l (i : Int) = x at hx ⊢
    have hx' : 1 ≤ x.f0 ∧ x.f0 ≤ x.f1 ∧ x.f1 ≤ 9999 := hx
    rw [w64 (x := s + x.f1) (by omega) (by omega), w64 (x := s + x.f1 - x.f0) (by omega) (by omega), w64 (x := s + x.f1 - x.f0 + 1) (by omega) (by omega), w64 (by omega) (by omega)]
    have e2 : sizeL ((x :: l.drop (i + 1)).map pr) = (x.f1 - x.f0 + 1) + sizeL ((l.drop (i + 1)).map pr) := by simp [sizeL, pr]
    rw [e2]
    have := ih (i + 1) (s + x.f1 - x.f0 + 1) (by omega) (by omega) (by omega)
    rw [show s + (x.f1 - x.f0 + 1 + sizeL ((l.drop (i + 1)).map pr)) = s + x.f1 - x.f0 + 1 + sizeL ((l.drop (i + 1)).map pr) by omega]
    exact this
theorem spec_SetSize_ev (l : List S40) (hl : l.length ≤ 1048576) : Ev (fun k => spec_SetSize.f k l) (if setOkB (l.map pr) = true then sizeL (l.map pr) else 0) := by
  unfold spec_SetSize.f
  refine Ev.bind (spec_SetOk_ev l hl) ?_
  refine Ev.ite (fun h => ?_) (fun h => ?_)
  · rw [if_pos h]
    have h' := h
    simp only [setOkB, Bool.and_eq_true, decide_eq_true_eq, List.length_map] at h'
    have := spec_SetSize_l0 l (by omega) (okL_mem h'.1) l.length 0 0 (by omega) (by omega) (by omega)
    rw [Int.zero_add] at this
    exact this
  · rw [if_neg h]; exact Ev.now _
theorem impl_SetSize_l0 (l : List S40) (hl : l.length ≤ 40) (hok : ∀ p ∈ l.map pr, 1 ≤ p.1 ∧ p.1 ≤ p.2 ∧ p.2 ≤ 9999) : ∀ (d i : Nat) (s : Int), i + d = l.length → 0 ≤ s → s ≤ 9999 * i → Ev (fun k => impl_SetSize.l0 k s l (l.length : Int) (i : Int)) (s + sizeL ((l.drop i).map pr)) := by
  intro d
  induction d with
  | zero =>
    intro i s hi _ _
    refine Ev.step (impl_SetSize.l0.eq_2 s l (l.length : Int) (i : Int)) (Ev.no (by omega) (Ev.const ?_))
    rw [List.drop_eq_nil_of_le (by omega)]; simp [sizeL]
  | succ d ih =>
    intro i s hi h0 h1
    have hlt : i < l.length := by omega
    have e := rd45_at l i hlt
    have hx := hok (pr l[i]) (List.mem_map_of_mem (List.getElem_mem hlt))
    rw [← e] at hx
    refine Ev.step (impl_SetSize.l0.eq_2 s l (l.length : Int) (i : Int)) (Ev.yes (by omega) (Ev.yes (by omega) (Ev.yes (by omega) ?_)))
    rw [List.drop_eq_getElem_cons hlt, ← e]
    generalize rd_T40 l (i : Int) = x at hx ⊢
    have hx' : 1 ≤ x.f0 ∧ x.f0 ≤ x.f1 ∧ x.f1 ≤ 9999 := hx
    rw [w64 (x := x.f1 - x.f0) (by omega) (by omega), w64 (x := x.f1 - x.f0 + 1) (by omega) (by omega), w64 (x := s + (x.f1 - x.f0 + 1)) (by omega) (by omega), w64 (by omega) (by omega)]
    have e2 : sizeL ((x :: l.drop (i + 1)).map pr) = (x.f1 - x.f0 + 1) + sizeL ((l.drop (i + 1)).map pr) := by simp [sizeL, pr]
    rw [e2]
    have := ih (i + 1) (s + (x.f1 - x.f0 + 1)) (by omega) (by omega) (by omega)
    rw [show s + (x.f1 - x.f0 + 1 + sizeL ((l.drop (i + 1)).map pr)) = s + (x.f1 - x.f0 + 1) + sizeL ((l.drop (i + 1)).map pr) by omega]
    exact this
theorem impl_SetSize_ev (l : List S40) (hl : l.length ≤ 1048576) : Ev (fun k => impl_SetSize.f k l) (if setOkB (l.map pr) = true then sizeL (l.map pr) else 0) := by
  unfold impl_SetSize.f
  refine Ev.bind (impl_SetOk_ev l hl) ?_
  refine Ev.ite (fun h => ?_) (fun h => ?_)
  · rw [if_pos h]
    have h' := h
    simp only [setOkB, Bool.and_eq_true, decide_eq_true_eq, List.length_map] at h'
    have := impl_SetSize_l0 l (by omega) (okL_mem h'.1) l.length 0 0 (by omega) (by omega) (by omega)
    rw [Int.zero_add] at this
    exact this
  · rw [if_neg h]; exact Ev.now _


/-! what a set that is told has, how many numbers, how many ranges -/
theorem hasL_append (l l' : List (Int × Int)) (m : Int) : hasL (l ++ l') m = (hasL l m || hasL l' m) := by unfold hasL; rw [List.any_append]
theorem hasL_one (a b m : Int) : hasL [(a, b)] m = decide (a ≤ m ∧ m ≤ b) := by simp [hasL]
theorem sizeL_append (l l' : List (Int × Int)) : sizeL (l ++ l') = sizeL l + sizeL l' := by simp [sizeL]
theorem sizeL_one (a b : Int) : sizeL [(a, b)] = b - a + 1 := by simp [sizeL]
theorem okL_last : ∀ (l : List (Int × Int)) (b : Int) (q : Int × Int), okL b (l ++ [q]) = true → 1 ≤ q.1 ∧ q.1 ≤ q.2 ∧ q.2 ≤ 9999
  | l, b, q, h => okL_mem h q (by simp)
def one (b : Bool) : Int := if b = true then 1 else 0
def cnt (p : Int → Bool) : Nat → Int → Int
  | 0, _ => 0
  | d + 1, n => one (p n) + cnt p d (n + 1)
def runs (p : Int → Bool) : Nat → Int → Int
  | 0, _ => 0
  | d + 1, n => one (p n && !p (n - 1)) + runs p d (n + 1)
theorem step_facts (p : Int → Bool) (xs : List S40) (n : Int) (h : Inv p xs n) (h1 : 1 ≤ n) :
    (∀ m, hasL ((step p xs n).map pr) m = (hasL (xs.map pr) m || (decide (m = n) && p n))) ∧ sizeL ((step p xs n).map pr) = sizeL (xs.map pr) + one (p n) ∧ ((step p xs n).length : Int) = (xs.length : Int) + one (p n && !p (n - 1)) := by
  by_cases hn : p n = true
  case neg =>
    have hf : p n = false := by simpa using hn
    have e : step p xs n = xs := by unfold step; rw [if_neg hn]
    rw [e, hf]
    exact ⟨fun m => by rw [Bool.and_false, Bool.or_false], by simp [one], by simp [one]⟩
  have key : ∀ ys : List S40, (∀ m, hasL ((ys ++ [(⟨n, n⟩ : S40)]).map pr) m = (hasL (ys.map pr) m || (decide (m = n) && true))) ∧ sizeL ((ys ++ [(⟨n, n⟩ : S40)]).map pr) = sizeL (ys.map pr) + 1 := by
    intro ys
    refine ⟨fun m => ?_, ?_⟩
    · rw [List.map_append, hasL_append, Bool.and_true]
      show (hasL (ys.map pr) m || hasL [(n, n)] m) = _
      rw [hasL_one]
      congr 1
      exact decide_eq_decide.2 (by omega)
    · rw [List.map_append, sizeL_append]
      show sizeL (ys.map pr) + sizeL [(n, n)] = _
      rw [sizeL_one]; omega
  rcases h with ⟨rfl, h⟩ | ⟨ys, a, b, rfl, hok, hb, hp⟩
  · have e : step p [] n = [] ++ [⟨n, n⟩] := by unfold step; rw [if_pos hn, if_neg (by simp)]
    rw [e, hn, h]
    exact ⟨(key []).1, (key []).2, by simp [one]⟩
  · by_cases hc : b = n - 1
    · have e : step p (ys ++ [⟨a, b⟩]) n = ys ++ [⟨a, n⟩] := by
        unfold step; rw [if_pos hn, rd_last, set_last, if_pos ⟨by simp, hc⟩]
      have hl := okL_last _ 0 (a, b) hok
      simp only at hl
      rw [e, hn, hp, decide_eq_true hc]
      refine ⟨fun m => ?_, ?_, by simp [one]⟩
      · rw [List.map_append, List.map_append, hasL_append, hasL_append, Bool.and_true]
        show (hasL (ys.map pr) m || hasL [(a, n)] m) = (hasL (ys.map pr) m || hasL [(a, b)] m || decide (m = n))
        rw [hasL_one, hasL_one, Bool.or_assoc, ← Bool.decide_or]
        congr 1
        exact decide_eq_decide.2 (by omega)
      · rw [List.map_append, List.map_append, sizeL_append, sizeL_append]
        show sizeL (ys.map pr) + sizeL [(a, n)] = sizeL (ys.map pr) + sizeL [(a, b)] + 1
        rw [sizeL_one, sizeL_one]; omega
    · have e : step p (ys ++ [⟨a, b⟩]) n = (ys ++ [⟨a, b⟩]) ++ [⟨n, n⟩] := by
        unfold step; rw [if_pos hn, rd_last, if_neg (fun h => hc h.2)]
      rw [e, hn, hp, decide_eq_false hc]
      exact ⟨(key _).1, (key _).2, by simp [one]; omega⟩
theorem fin_facts (p : Int → Bool) : ∀ (d : Nat) (xs : List S40) (n : Int), Inv p xs n → 1 ≤ n → n + d ≤ 10000 →
    (∀ m, hasL ((fin p d xs n).map pr) m = (hasL (xs.map pr) m || (decide (n ≤ m ∧ m < n + d) && p m))) ∧ sizeL ((fin p d xs n).map pr) = sizeL (xs.map pr) + cnt p d n ∧ ((fin p d xs n).length : Int) = (xs.length : Int) + runs p d n ∧ Inv p (fin p d xs n) (n + d)
  | 0, xs, n, hi, _, _ => by
    refine ⟨fun m => ?_, by simp [fin, cnt], by simp [fin, runs], ?_⟩
    · rw [decide_eq_false (by omega), Bool.false_and, Bool.or_false]; rfl
    · simpa [fin] using hi
  | d + 1, xs, n, hi, h1, h2 => by
    obtain ⟨a1, a2, a3⟩ := step_facts p xs n hi h1
    obtain ⟨b1, b2, b3, b4⟩ := fin_facts p d (step p xs n) (n + 1) (Inv_step p xs n hi h1 (by omega)) (by omega) (by omega)
    simp only [fin, cnt, runs]
    refine ⟨fun m => ?_, by omega, by omega, ?_⟩
    · rw [b1, a1, Bool.or_assoc]
      congr 1
      by_cases hm : m = n
      · subst hm
        rw [decide_eq_true (show m = m from rfl), decide_eq_false (by omega), decide_eq_true (by omega)]; simp
      · rw [decide_eq_false hm, Bool.false_and, Bool.false_or]
        congr 1
        exact decide_eq_decide.2 (by omega)
    · have e : n + 1 + (d : Int) = n + ((d + 1 : Nat) : Int) := by omega
      rw [e] at b4; exact b4
/-- the set of a predicate -/
theorem set_facts (p : Int → Bool) (h0 : p 0 = false) :
    (∀ m, hasL ((fin p 9999 [] 1).map pr) m = (decide (1 ≤ m ∧ m ≤ 9999) && p m)) ∧ sizeL ((fin p 9999 [] 1).map pr) = cnt p 9999 1 ∧ ((fin p 9999 [] 1).length : Int) = runs p 9999 1 ∧ setOkB ((fin p 9999 [] 1).map pr) = decide ((fin p 9999 [] 1).length ≤ 40) := by
  obtain ⟨h1, h2, h3, h4⟩ := fin_facts p 9999 [] 1 (.inl ⟨rfl, h0⟩) (by omega) (by omega)
  generalize fin p 9999 [] 1 = F at h1 h2 h3 h4 ⊢
  refine ⟨fun m => ?_, ?_, ?_, Inv_ok h4⟩
  · rw [h1, List.map_nil, show hasL [] m = false from rfl, Bool.false_or]
    rw [decide_eq_decide.2 (show (1 ≤ m ∧ m < 1 + ((9999 : Nat) : Int)) ↔ (1 ≤ m ∧ m ≤ 9999) by omega)]
  · rw [h2, List.map_nil, show sizeL [] = 0 from rfl, Int.zero_add]
  · rw [h3]; simp
theorem one_range (b : Bool) : 0 ≤ one b ∧ one b ≤ 1 := by cases b <;> simp [one]
theorem cnt_two (p q r s : Int → Bool) (h : ∀ n, one (p n) + one (q n) = one (r n) + one (s n)) : ∀ (d : Nat) (n : Int), cnt p d n + cnt q d n = cnt r d n + cnt s d n
  | 0, _ => rfl
  | d + 1, n => by
    have := h n
    have := cnt_two p q r s h d (n + 1)
    simp only [cnt]; omega
theorem cnt_none : ∀ (d : Nat) (n : Int), cnt (fun _ => false) d n = 0
  | 0, _ => rfl
  | d + 1, n => by simp only [cnt]; rw [cnt_none d (n + 1)]; rfl
theorem runs_none : ∀ (d : Nat) (n : Int), runs (fun _ => false) d n = 0
  | 0, _ => rfl
  | d + 1, n => by simp only [runs]; rw [runs_none d (n + 1)]; rfl
theorem runs_le (p q r : Int → Bool) (h : ∀ n, one (p n && !p (n - 1)) ≤ one (q n && !q (n - 1)) + one (r n && !r (n - 1))) : ∀ (d : Nat) (n : Int), runs p d n ≤ runs q d n + runs r d n
  | 0, _ => by simp [runs]
  | d + 1, n => by
    have := h n
    have := runs_le p q r h d (n + 1)
    simp only [runs]; omega
theorem cnt_ivl (a b : Int) : ∀ (d : Nat) (n : Int), cnt (fun m => decide (a ≤ m ∧ m ≤ b)) d n = if a ≤ b then (if (if a < n then n else a) ≤ (if n + d - 1 < b then n + d - 1 else b) then (if n + d - 1 < b then n + d - 1 else b) - (if a < n then n else a) + 1 else 0) else 0
  | 0, n => by
    simp only [cnt]
    repeat' (first | omega | split)
  | d + 1, n => by
    simp only [cnt]
    rw [cnt_ivl a b d (n + 1)]
    simp only [one, decide_eq_true_eq]
    by_cases h : a ≤ n ∧ n ≤ b
    · rw [if_pos h]; repeat' (first | omega | split)
    · rw [if_neg h]; repeat' (first | omega | split)
theorem cnt_range (a b : Int) (h1 : 1 ≤ a) (h2 : a ≤ b) (h3 : b ≤ 9999) : cnt (fun m => decide (a ≤ m ∧ m ≤ b)) 9999 1 = b - a + 1 := by
  rw [cnt_ivl, if_pos h2]
  repeat' (first | omega | split)
/-- the starts of one range -/
theorem runs_ivl (a b : Int) : ∀ (d : Nat) (n : Int), runs (fun m => decide (a ≤ m ∧ m ≤ b)) d n ≤ one (decide (n ≤ a))
  | 0, n => by have := one_range (decide (n ≤ a)); simp only [runs]; omega
  | d + 1, n => by
    have h := runs_ivl a b d (n + 1)
    simp only [runs]
    by_cases h1 : n = a
    · rw [decide_eq_false (show ¬ (n + 1 ≤ a) by omega)] at h
      have h3 := one_range (decide (a ≤ n ∧ n ≤ b) && !decide (a ≤ n - 1 ∧ n - 1 ≤ b))
      rw [decide_eq_true (show n ≤ a by omega)]
      have e : one true = 1 := rfl
      have e2 : one false = 0 := rfl
      omega
    · have e : (decide (a ≤ n ∧ n ≤ b) && !decide (a ≤ n - 1 ∧ n - 1 ≤ b)) = false := by
        by_cases h2 : a ≤ n ∧ n ≤ b
        · rw [decide_eq_true (show a ≤ n - 1 ∧ n - 1 ≤ b by omega)]; simp
        · rw [decide_eq_false h2]; rfl
      rw [e]
      by_cases h2 : n + 1 ≤ a
      · rw [decide_eq_true h2] at h
        rw [decide_eq_true (show n ≤ a by omega)]
        have e2 : one false = 0 := rfl
        omega
      · rw [decide_eq_false h2] at h
        have := one_range (decide (n ≤ a))
        have e2 : one false = 0 := rfl
        omega
theorem runs_or (p q : Int → Bool) (d : Nat) (n : Int) : runs (fun m => p m || q m) d n ≤ runs p d n + runs q d n := by
  refine runs_le _ p q (fun m => ?_) d n
  cases p m <;> cases q m <;> cases p (m - 1) <;> cases q (m - 1) <;> simp [one]
theorem runs_and (p q : Int → Bool) (d : Nat) (n : Int) : runs (fun m => p m && q m) d n ≤ runs p d n + runs q d n := by
  refine runs_le _ p q (fun m => ?_) d n
  cases p m <;> cases q m <;> cases p (m - 1) <;> cases q (m - 1) <;> simp [one]
theorem okL_low : ∀ {l : List (Int × Int)} {b : Int}, okL b l = true → ∀ x ∈ l, b < x.1
  | [], _, _, x, hx => by cases hx
  | q :: l, b, h, x, hx => by
    obtain ⟨h1, h2⟩ := okL_cons h
    rcases List.mem_cons.1 hx with rfl | hx
    · exact h1.1
    · have := okL_low h2 x hx; omega
/-- a right set has so many numbers, so many starts -/
theorem right_cnt : ∀ (l : List (Int × Int)) (b : Int), okL b l = true → cnt (hasL l) 9999 1 = sizeL l
  | [], b, _ => by
    have e : hasL [] = fun _ => false := rfl
    rw [e, cnt_none]; rfl
  | q :: l, b, h => by
    obtain ⟨h1, h2⟩ := okL_cons h
    have h3 := right_cnt l _ h2
    have h4 := cnt_two (hasL (q :: l)) (fun _ => false) (fun m => decide (q.1 ≤ m ∧ m ≤ q.2)) (hasL l) (fun m => by
      rw [hasL_cons]
      by_cases hm : q.1 ≤ m ∧ m ≤ q.2
      · have hn : hasL l m = false := by
          unfold hasL
          rw [List.any_eq_false]
          intro x hx
          have := okL_low h2 x hx
          simp only [decide_eq_true_eq]; omega
        rw [decide_eq_true hm, hn]; simp [one]
      · rw [decide_eq_false hm]; cases hasL l m <;> simp [one]) 9999 1
    rw [cnt_none, cnt_range q.1 q.2 h1.2.1 h1.2.2.1 h1.2.2.2, h3] at h4
    simp only [sizeL, List.map_cons, List.sum_cons] at h4 ⊢
    omega
theorem right_runs : ∀ (l : List (Int × Int)), runs (hasL l) 9999 1 ≤ (l.length : Int)
  | [] => by
    have e : hasL [] = fun _ => false := rfl
    rw [e, runs_none]; simp
  | q :: l => by
    have h1 := right_runs l
    have h2 := runs_or (fun m => decide (q.1 ≤ m ∧ m ≤ q.2)) (hasL l) 9999 1
    have h3 := runs_ivl q.1 q.2 9999 1
    have h4 := one_range (decide ((1 : Int) ≤ q.1))
    have e : (fun m => (fun m => decide (q.1 ≤ m ∧ m ≤ q.2)) m || hasL l m) = hasL (q :: l) := by funext m; rw [hasL_cons]
    rw [e] at h2
    rw [List.length_cons]
    omega

/-! the reader of draws: whatever it tells, it is in its range -/
theorem spec_l01Byte_ev (b : List Int) (i h : Int) (hb : b.length ≤ 140737488351232) (hi : 0 ≤ i) : ∃ r i' h', spec_l01Byte.f b i h = some (r, i', h') ∧ (0 ≤ r ∧ r ≤ 255) ∧ 0 ≤ i' := by
  unfold spec_l01Byte.f
  by_cases hc : i < (b.length : Int)
  · rw [if_pos hc, if_pos hi, w64 (x := i + 1) (by omega) (by omega)]
    exact ⟨_, _, _, rfl, and_255 _, by omega⟩
  · rw [if_neg hc]
    exact ⟨_, _, _, rfl, and_255 _, hi⟩
theorem spec_l01Below_ev (b : List Int) (i h n : Int) (hb : b.length ≤ 140737488351232) (hi : 0 ≤ i) (hn : n ≤ 4294967296) : ∃ r i' h', spec_l01Below.f b i h n = some (r, i', h') ∧ (0 ≤ r ∧ (r < n ∨ n ≤ 0 ∧ r = 0)) ∧ 0 ≤ i' := by
  unfold spec_l01Below.f
  by_cases h0 : n ≤ 0
  · rw [if_pos h0]; exact ⟨_, _, _, rfl, ⟨by omega, Or.inr ⟨h0, rfl⟩⟩, hi⟩
  rw [if_neg h0]
  by_cases h1 : n ≤ 256
  · rw [if_pos h1]
    obtain ⟨r, i1, g1, e1, r1, j1⟩ := spec_l01Byte_ev b i h hb hi
    rw [e1]
    simp only [Option.bind_some]
    rw [if_neg (by omega)]
    have := tmod_range r n r1.1 (by omega)
    exact ⟨_, _, _, rfl, ⟨this.1, Or.inl this.2⟩, j1⟩
  · rw [if_neg h1]
    obtain ⟨x1, i1, g1, e1, r1, j1⟩ := spec_l01Byte_ev b i h hb hi
    obtain ⟨x2, i2, g2, e2, r2, j2⟩ := spec_l01Byte_ev b i1 g1 hb j1
    obtain ⟨x3, i3, g3, e3, r3, j3⟩ := spec_l01Byte_ev b i2 g2 hb j2
    obtain ⟨x4, i4, g4, e4, r4, j4⟩ := spec_l01Byte_ev b i3 g3 hb j3
    rw [e1]; simp only [Option.bind_some]
    rw [e2]; simp only [Option.bind_some]
    rw [e3]; simp only [Option.bind_some]
    rw [e4]; simp only [Option.bind_some]
    rw [if_neg (by omega)]
    have ew : 0 ≤ wrap64 ((wrap64 ((wrap64 ((wrap64 (x1 * 16777216)) + (wrap64 (x2 * 65536)))) + (wrap64 (x3 * 256)))) + x4) := by
      rw [w64 (x := x1 * 16777216) (by omega) (by omega), w64 (x := x2 * 65536) (by omega) (by omega), w64 (x := x3 * 256) (by omega) (by omega), w64 (x := x1 * 16777216 + x2 * 65536) (by omega) (by omega), w64 (x := x1 * 16777216 + x2 * 65536 + x3 * 256) (by omega) (by omega), w64 (by omega) (by omega)]
      omega
    have := tmod_range _ n ew (by omega)
    exact ⟨_, _, _, rfl, ⟨this.1, Or.inl this.2⟩, j4⟩
theorem spec_l01New_l0 (l : List Int) (hl : l.length ≤ 140737488351232) : ∀ (d : Nat) (i h : Int), 0 ≤ i → (l.length : Int) - i ≤ d → ∃ h', Ev (fun k => spec_l01New.l0 k l h i) (l, 0, h') := by
  intro d
  induction d with
  | zero =>
    intro i h h0 hd
    exact ⟨h, Ev.step (spec_l01New.l0.eq_2 l h i) (Ev.no (by omega) (Ev.now _))⟩
  | succ d ih =>
    intro i h h0 hd
    by_cases h1 : i < (l.length : Int)
    · by_cases h2 : i < 4000
      · obtain ⟨h', e⟩ := ih (i + 1) (Go.bits .and .i64 (wrap64 ((wrap64 ((wrap64 (h * 131)) + (wrap64 (rd l i)))) + 7)) 1073741823) (by omega) (by omega)
        refine ⟨h', Ev.step (spec_l01New.l0.eq_2 l h i) (Ev.yes h1 (Ev.yes h2 (Ev.yes h0 ?_)))⟩
        rw [w64 (x := i + 1) (by omega) (by omega)]
        exact e
      · exact ⟨h, Ev.step (spec_l01New.l0.eq_2 l h i) (Ev.yes h1 (Ev.no h2 (Ev.now _)))⟩
    · exact ⟨h, Ev.step (spec_l01New.l0.eq_2 l h i) (Ev.no h1 (Ev.now _))⟩
theorem spec_l01New_ev (l : List Int) (hl : l.length ≤ 140737488351232) : ∃ h, Ev (fun k => spec_l01New.f k l) (l, 0, h) := by
  obtain ⟨h, e⟩ := spec_l01New_l0 l hl l.length 0 (wrap64 (35201 + (l.length : Int))) (by omega) (by omega)
  exact ⟨h, e⟩

theorem spec_l01Once_ev (b : List Int) (i h n : Int) (hb : b.length ≤ 140737488351232) (hi : 0 ≤ i) (hn : n ≤ 4294967296) : ∃ r i' h', spec_l01Once.f b i h n = some (r, i', h') ∧ 0 ≤ i' := by
  obtain ⟨r, i1, h1, e1, -, j1⟩ := spec_l01Below_ev b i h n hb hi hn
  unfold spec_l01Once.f
  rw [e1]
  exact ⟨_, _, _, rfl, j1⟩

theorem runs_nivl (a b : Int) : ∀ (d : Nat) (n : Int), a ≤ n → runs (fun m => !decide (a ≤ m ∧ m ≤ b)) d n ≤ one (decide (n ≤ b + 1))
  | 0, n, _ => by have := one_range (decide (n ≤ b + 1)); simp only [runs]; omega
  | d + 1, n, h0 => by
    have h := runs_nivl a b d (n + 1) (by omega)
    simp only [runs]
    have e1 : one true = 1 := rfl
    have e2 : one false = 0 := rfl
    by_cases h1 : n = b + 1
    · rw [decide_eq_false (show ¬ (n + 1 ≤ b + 1) by omega)] at h
      have h3 := one_range ((!decide (a ≤ n ∧ n ≤ b)) && !(!decide (a ≤ n - 1 ∧ n - 1 ≤ b)))
      rw [decide_eq_true (show n ≤ b + 1 by omega)]
      omega
    · have e : ((!decide (a ≤ n ∧ n ≤ b)) && !(!decide (a ≤ n - 1 ∧ n - 1 ≤ b))) = false := by
        by_cases h2 : n ≤ b
        · rw [decide_eq_true (show a ≤ n ∧ n ≤ b by omega)]; simp
        · rw [decide_eq_false (show ¬ (a ≤ n - 1 ∧ n - 1 ≤ b) by omega)]; simp
      rw [e]
      by_cases h2 : n + 1 ≤ b + 1
      · rw [decide_eq_true h2] at h
        rw [decide_eq_true (show n ≤ b + 1 by omega)]
        omega
      · rw [decide_eq_false h2] at h
        have := one_range (decide (n ≤ b + 1))
        omega
theorem runs_nivl1 (a b : Int) (ha : 1 ≤ a) : ∀ (d : Nat) (n : Int), n ≤ a → runs (fun m => !decide (a ≤ m ∧ m ≤ b)) d n ≤ 1 + one (!decide (n - 1 < a))
  | 0, n, _ => by have := one_range (!decide (n - 1 < a)); simp only [runs]; omega
  | d + 1, n, h0 => by
    have e1 : one true = 1 := rfl
    have e2 : one false = 0 := rfl
    simp only [runs]
    rw [decide_eq_true (show n - 1 < a by omega)]
    have e : ((!decide (a ≤ n ∧ n ≤ b)) && !(!decide (a ≤ n - 1 ∧ n - 1 ≤ b))) = false := by
      rw [decide_eq_false (show ¬ (a ≤ n - 1 ∧ n - 1 ≤ b) by omega)]; simp
    rw [e]
    by_cases h2 : n + 1 ≤ a
    · have h := runs_nivl1 a b ha d (n + 1) h2
      rw [decide_eq_true (show n + 1 - 1 < a by omega)] at h
      simp only [Bool.not_true] at h ⊢
      omega
    · have h := runs_nivl a b d (n + 1) (by omega)
      have := one_range (decide (n + 1 ≤ b + 1))
      simp only [Bool.not_true]
      omega
theorem right_len {l : List (Int × Int)} (h : setOkB l = true) : okL 0 l = true ∧ (l.length : Int) ≤ 40 := by
  simpa [setOkB] using h
theorem putP_zero (tb : Bool) (l : List (Int × Int)) (lo hi : Int) (h : setOkB l = true) (h1 : 1 ≤ lo) : putP tb l lo hi 0 = false := by
  unfold putP; rw [if_neg (by omega)]; exact hasL_zero h
theorem putP_runs (tb : Bool) (l : List (Int × Int)) (lo hi : Int) (h1 : 1 ≤ lo) : runs (putP tb l lo hi) 9999 1 ≤ (l.length : Int) + 1 := by
  have h2 := right_runs l
  cases tb
  · have e : putP false l lo hi = fun m => !decide (lo ≤ m ∧ m ≤ hi) && hasL l m := by
      funext m; unfold putP
      show (if lo ≤ m ∧ m ≤ hi then _ else hasL l m) = _
      by_cases h : lo ≤ m ∧ m ≤ hi
      · rw [if_pos h, decide_eq_true h]; simp
      · rw [if_neg h, decide_eq_false h]; simp
    have h3 := runs_and (fun m => !decide (lo ≤ m ∧ m ≤ hi)) (hasL l) 9999 1
    have h4 := runs_nivl1 lo hi h1 9999 1 h1
    rw [decide_eq_true (show (1 : Int) - 1 < lo by omega)] at h4
    have e2 : one (!true) = 0 := rfl
    rw [e]; omega
  · have e : putP true l lo hi = fun m => decide (lo ≤ m ∧ m ≤ hi) || hasL l m := by
      funext m; unfold putP
      show (if lo ≤ m ∧ m ≤ hi then _ else hasL l m) = _
      by_cases h : lo ≤ m ∧ m ≤ hi
      · rw [if_pos h, decide_eq_true h]; simp
      · rw [if_neg h, decide_eq_false h]; simp
    have h3 := runs_or (fun m => decide (lo ≤ m ∧ m ≤ hi)) (hasL l) 9999 1
    have h4 := runs_ivl lo hi 9999 1
    have h5 := one_range (decide ((1 : Int) ≤ lo))
    rw [e]; omega
theorem putOut_right (tb : Bool) (s : List S40) (lo hi : Int) (h : setOkB (s.map pr) = true) :
    setOkB ((putOut (putP tb (s.map pr) lo hi) s lo hi).1.map pr) = true ∧ ((putOut (putP tb (s.map pr) lo hi) s lo hi).1.length : Int) ≤ (s.length : Int) + 1 := by
  by_cases hlo : 1 ≤ lo
  · obtain ⟨-, -, f3, f4⟩ := set_facts (putP tb (s.map pr) lo hi) (putP_zero tb _ lo hi h hlo)
    have h5 := putP_runs tb (s.map pr) lo hi hlo
    rw [List.length_map] at h5
    unfold putOut
    generalize fin (putP tb (s.map pr) lo hi) 9999 [] 1 = F at f3 f4 ⊢
    split
    · rename_i h1
      exact ⟨by show setOkB (F.map pr) = true; rw [f4]; exact decide_eq_true h1.2.2, by show (F.length : Int) ≤ _; omega⟩
    · exact ⟨h, by show (s.length : Int) ≤ _; omega⟩
  · unfold putOut
    rw [if_neg (fun h1 => hlo h1.2.1.1)]
    exact ⟨h, by show (s.length : Int) ≤ _; omega⟩
theorem draw_end (b : List Int) (hb : b.length ≤ 140737488351232) (s : List S40) (bi h : Int) (h0 : 0 ≤ bi) (hok : setOkB (s.map pr) = true) (hl : s.length ≤ 4) :
    ∃ s' bi' h', Ev (fun k => (spec_l01Once.f b bi h 10).bind fun bt => (if bt.1 = true then ((spec_SetAdd.f k s 9998 9999).bind fun bu => (some (bu.1, bt.2.1, bt.2.2))) else (some (s, bt.2.1, bt.2.2)))) (s', bi', h') ∧ setOkB (s'.map pr) = true ∧ s'.length ≤ 5 ∧ 0 ≤ bi' := by
  obtain ⟨r, i1, h1, e1, j1⟩ := spec_l01Once_ev b bi h 10 hb h0 (by omega)
  cases r
  · exact ⟨s, i1, h1, Ev.bindc e1 (Ev.no (by simp) (Ev.now _)), hok, by omega, j1⟩
  · have h2 := spec_SetAdd_ev s 9998 9999 (by omega)
    have h3 := putOut_right true s 9998 9999 hok
    generalize putOut (putP true (s.map pr) 9998 9999) s 9998 9999 = R at h2 h3
    obtain ⟨R1, R2⟩ := R
    exact ⟨R1, i1, h1, Ev.bindc e1 (Ev.yes rfl (Ev.bind h2 (Ev.now _))), h3.1, by have := h3.2; simp only at this; omega, j1⟩
theorem spec_l05Draw_l0 (b : List Int) (hb : b.length ≤ 140737488351232) : ∀ (d : Nat) (i : Int) (s : List S40) (bi h : Int), i + d = 4 → 0 ≤ i → 0 ≤ bi → setOkB (s.map pr) = true → (s.length : Int) ≤ i →
    ∃ s' bi' h', Ev (fun k => spec_l05Draw.l0 k s i b bi h) (s', bi', h') ∧ setOkB (s'.map pr) = true ∧ s'.length ≤ 5 ∧ 0 ≤ bi' := by
  intro d
  induction d with
  | zero =>
    intro i s bi h hi h0 hbi hok hl
    obtain ⟨r, i1, h1, e1, r1, j1⟩ := spec_l01Below_ev b bi h 5 hb hbi (by omega)
    obtain ⟨s', bi', h', e, q⟩ := draw_end b hb s i1 h1 j1 hok (by omega)
    exact ⟨s', bi', h', Ev.step (spec_l05Draw.l0.eq_2 s i b bi h) (Ev.bindc e1 (Ev.no (by show ¬ i < r; omega) e)), q⟩
  | succ d ih =>
    intro i s bi h hi h0 hbi hok hl
    obtain ⟨r, i1, h1, e1, r1, j1⟩ := spec_l01Below_ev b bi h 5 hb hbi (by omega)
    by_cases hc : i < r
    · obtain ⟨r2, i2, h2, e2, q2, j2⟩ := spec_l01Below_ev b i1 h1 14 hb j1 (by omega)
      obtain ⟨r3, i3, h3, e3, q3, j3⟩ := spec_l01Below_ev b i2 h2 4 hb j2 (by omega)
      have hs := spec_SetAdd_ev s (1 + r2) (1 + r2 + r3) (by omega)
      have hr := putOut_right true s (1 + r2) (1 + r2 + r3) hok
      generalize putOut (putP true (s.map pr) (1 + r2) (1 + r2 + r3)) s (1 + r2) (1 + r2 + r3) = R at hs hr
      obtain ⟨R1, R2⟩ := R
      obtain ⟨s', bi', h', e, q⟩ := ih (i + 1) R1 i3 h3 (by omega) (by omega) j3 hr.1 (by have := hr.2; simp only at this; omega)
      refine ⟨s', bi', h', Ev.step (spec_l05Draw.l0.eq_2 s i b bi h) (Ev.bindc e1 (Ev.yes hc (Ev.bindc e2 (Ev.bindc e3 ?_)))), q⟩
      simp only
      rw [w64 (x := 1 + r2) (by omega) (by omega), w64 (x := 1 + r2 + r3) (by omega) (by omega), w64 (x := i + 1) (by omega) (by omega)]
      exact Ev.bind hs e
    · obtain ⟨s', bi', h', e, q⟩ := draw_end b hb s i1 h1 j1 hok (by omega)
      exact ⟨s', bi', h', Ev.step (spec_l05Draw.l0.eq_2 s i b bi h) (Ev.bindc e1 (Ev.no hc e)), q⟩
theorem spec_l05Draw_ev (b : List Int) (hb : b.length ≤ 140737488351232) (bi h : Int) (hbi : 0 ≤ bi) :
    ∃ s' bi' h', Ev (fun k => spec_l05Draw.f k b bi h) (s', bi', h') ∧ setOkB (s'.map pr) = true ∧ s'.length ≤ 5 ∧ 0 ≤ bi' :=
  spec_l05Draw_l0 b hb 4 0 [] bi h (by omega) (by omega) hbi rfl (by simp)

theorem laws_sameSet_l0 (l : List S40) (hl : l.length ≤ 1048576) : ∀ (d i : Nat), i + d = l.length → Ev (fun k => laws_sameSet.l0 k l l (i : Int)) true := by
  intro d
  induction d with
  | zero =>
    intro i hi
    exact Ev.step (laws_sameSet.l0.eq_2 l l (i : Int)) (Ev.no (by omega) (Ev.now _))
  | succ d ih =>
    intro i hi
    refine Ev.step (laws_sameSet.l0.eq_2 l l (i : Int)) (Ev.yes (by omega) (Ev.yes (by omega) (Ev.yes (by omega) (Ev.no (by simp) ?_))))
    rw [w64 (by omega) (by omega)]
    exact ih (i + 1) (by omega)
theorem laws_sameSet_ev (l : List S40) (hl : l.length ≤ 1048576) : Ev (fun k => laws_sameSet.f k l l) true := by
  unfold laws_sameSet.f
  exact Ev.yes rfl (laws_sameSet_l0 l hl l.length 0 (by omega))

/-! decimal figures -/
theorem figure_ev (d : Int) (h0 : 0 ≤ d) (h1 : d < 10) : spec_l01Figure.f d = some (48 + d) := by
  unfold spec_l01Figure.f
  rw [if_pos h1, w64 (x := 48 + d) (by omega) (by omega)]
  congr 1; omega
theorem bs_fig (d : Nat) (h : d < 10) : bs (strOfNums [48 + (d : Int)]) = [48 + d] := by
  rw [bs_nums [48 + (d : Int)] (by simp; omega)]
  simp; omega
theorem spec_Decimal_l0 (neg : Bool) : ∀ (m u : Nat) (x : Int) (acc : ByteArray), u ≤ m → ((neg = true ∧ x = -(u : Int)) ∨ (neg = false ∧ x = (u : Int))) → u ≤ 9223372036854775808 → (u = 0 → acc.size ≤ 4611686018427387905) → (0 < u → acc.size + u / 2 ≤ 4611686018427387904) →
    ∃ r, Ev (fun k => spec_Decimal.l0 k x neg acc) r ∧ bs r = (if neg = true then [45] else []) ++ (digs u ++ bs acc) := by
  intro m
  induction m with
  | zero =>
    intro u x acc hu hx hb h0 _
    have hu0 : u = 0 := by omega
    subst hu0
    have hx0 : x = 0 := by omega
    subst hx0
    cases neg
    · exact ⟨acc, Ev.step (spec_Decimal.l0.eq_2 0 false acc) (Ev.yes rfl (Ev.no (by simp) (Ev.now _))), by rw [digs]; simp⟩
    · refine ⟨(⟨#[45]⟩ : ByteArray) ++ acc, Ev.step (spec_Decimal.l0.eq_2 0 true acc) (Ev.yes rfl (Ev.yes rfl (Ev.yes (by have := h0 rfl; omega) (Ev.now _)))), ?_⟩
      rw [bs_append, digs]; rfl
  | succ m ih =>
    intro u x acc hu hx hb h0 h1
    by_cases hz : u = 0
    · exact ih u x acc (by omega) hx hb h0 h1
    have hpos : 0 < u := by omega
    have h2 := h1 hpos
    clear h0 h1
    have hd : u % 10 < 10 := Nat.mod_lt _ (by omega)
    have tm : (neg = true ∧ Int.tmod x 10 = -((u % 10 : Nat) : Int)) ∨ (neg = false ∧ Int.tmod x 10 = ((u % 10 : Nat) : Int)) := by
      rcases hx with ⟨h, rfl⟩ | ⟨h, rfl⟩
      · exact .inl ⟨h, by rw [Int.neg_tmod, tm10]⟩
      · exact .inr ⟨h, tm10 u⟩
    have td : (neg = true ∧ Int.tdiv x 10 = -((u / 10 : Nat) : Int)) ∨ (neg = false ∧ Int.tdiv x 10 = ((u / 10 : Nat) : Int)) := by
      rcases hx with ⟨h, rfl⟩ | ⟨h, rfl⟩
      · exact .inl ⟨h, by rw [Int.neg_tdiv, td10]⟩
      · exact .inr ⟨h, td10 u⟩
    have hx0 : x ≠ 0 := by omega
    have hsz : (strOfNums [48 + ((u % 10 : Nat) : Int)]).size = 1 := by rw [size_nums]; rfl
    obtain ⟨r, hr, er⟩ := ih (u / 10) (Int.tdiv x 10) (strOfNums [48 + ((u % 10 : Nat) : Int)] ++ acc) (by omega) (by rcases td with h | h <;> simp [h]) (by omega)
      (fun h => by rw [size_append, hsz]; omega) (fun h => by rw [size_append, hsz]; omega)
    have er2 : bs r = (if neg = true then [45] else []) ++ (digs u ++ bs acc) := by
      rw [er, bs_append, bs_fig _ hd, digs.eq_def u, dif_neg hz, List.append_assoc]
    refine ⟨r, Ev.step (spec_Decimal.l0.eq_2 x neg acc) (Ev.no hx0 ?_), er2⟩
    have hq : -9223372036854775808 ≤ Int.tdiv x 10 ∧ Int.tdiv x 10 ≤ 9223372036854775807 := by omega
    rw [w64 (x := Int.tdiv x 10) hq.1 hq.2]
    have fin : Ev (fun k => ((some (([48 + ((u % 10 : Nat) : Int)] : List Int) : List Int)).bind fun y => (if (strOfNums y).size + acc.size ≤ 9223372036854775807 then (spec_Decimal.l0 k (Int.tdiv x 10) neg ((strOfNums y) ++ acc)) else (none)))) r :=
      Ev.bindc rfl (Ev.yes (by rw [hsz]; omega) hr)
    refine Ev.ite (fun h => ?_) (fun h => ?_)
    · have e1 : -(Int.tmod x 10) = ((u % 10 : Nat) : Int) := by omega
      rw [e1, w64 (by omega) (by omega)]
      exact Ev.bindc (figure_ev _ (by omega) (by omega)) fin
    · have e1 : Int.tmod x 10 = ((u % 10 : Nat) : Int) := by omega
      rw [e1]
      exact Ev.bindc (figure_ev _ (by omega) (by omega)) fin
/-- the numeral of an int -/
theorem spec_Decimal_ev (a : Int) (h1 : -9223372036854775808 ≤ a) (h2 : a ≤ 9223372036854775807) : Ev (fun k => spec_Decimal.f k a) ⟨(Lib.itoa a).toArray⟩ := by
  unfold spec_Decimal.f
  by_cases h0 : a = 0
  · subst h0
    exact Ev.yes rfl (Ev.const (by congr 1; apply bs_inj; rw [bs_itoa]; rfl))
  · refine Ev.no h0 ?_
    obtain ⟨r, hr, er⟩ := spec_Decimal_l0 (decide (a < 0)) a.natAbs a.natAbs a (⟨#[]⟩ : ByteArray) (Nat.le_refl _) (by
      by_cases h : a < 0
      · exact .inl ⟨decide_eq_true h, by omega⟩
      · exact .inr ⟨decide_eq_false h, by omega⟩) (by omega) (fun _ => by show 0 ≤ _; omega) (fun _ => by show 0 + _ ≤ _; omega)
    have : r = ⟨(Lib.itoa a).toArray⟩ := by
      apply bs_inj
      rw [er, bs_itoa]
      by_cases h : a < 0
      · rw [if_pos (decide_eq_true h)]; unfold numeral figs; rw [if_pos h, if_neg (by omega)]; simp [bs_empty]
      · rw [if_neg (by simp [h])]; unfold numeral figs; rw [if_neg h, if_neg (by omega), show a.toNat = a.natAbs by omega]; simp [bs_empty]
    rw [← this]; exact hr

/-! sets told as text -/
def joinN : List (List Nat) → List Nat
  | [] => []
  | x :: r => x ++ (r.map (44 :: ·)).flatten
theorem joinN_snoc (l : List (List Nat)) (x : List Nat) (h : l ≠ []) : joinN (l ++ [x]) = joinN l ++ 44 :: x := by
  cases l with
  | nil => exact absurd rfl h
  | cons y r => simp [joinN, List.append_assoc]
theorem joinN_len : ∀ (l : List (List Nat)) (m : Nat), (∀ x ∈ l, x.length ≤ m) → (joinN l).length ≤ l.length * (m + 1)
  | [], m, _ => by simp [joinN]
  | x :: r, m, h => by
    have hx := h x List.mem_cons_self
    have : ∀ r : List (List Nat), (∀ x ∈ r, x.length ≤ m) → ((r.map (44 :: ·)).flatten).length ≤ r.length * (m + 1) := by
      intro r
      induction r with
      | nil => intro _; simp
      | cons y r ih =>
        intro hr
        have hy := hr y List.mem_cons_self
        have := ih fun z hz => hr z (List.mem_cons_of_mem _ hz)
        simp only [List.map_cons, List.flatten_cons, List.length_append, List.length_cons, Nat.succ_mul] at this ⊢
        omega
    have := this r fun z hz => h z (List.mem_cons_of_mem _ hz)
    simp only [joinN, List.length_append, List.length_cons, Nat.succ_mul]
    omega
theorem lib_join (ls : List ByteArray) : (Lib.join (ls.map (·.data.toList)) [44]).map UInt8.toNat = joinN (ls.map bs) := by
  cases ls with
  | nil => rfl
  | cons x r =>
    rw [List.map_cons, Lib.join_cons, List.map_append, List.map_cons, joinN]
    congr 1
    unfold Lib.joinTail
    rw [List.map_flatten, List.map_map, List.map_map, List.map_map]
    congr 1
def partB (r : S40) : List Nat := figs r.f0.toNat ++ (if r.f1 > r.f0 then 58 :: figs r.f1.toNat else [])
theorem partB_len (r : S40) (h : 1 ≤ r.f0 ∧ r.f0 ≤ r.f1 ∧ r.f1 ≤ 9999) : (partB r).length ≤ 9 := by
  have h1 := figs_len 4 r.f0.toNat (by omega) (by omega)
  have h2 := figs_len 4 r.f1.toNat (by omega) (by omega)
  unfold partB
  split <;> simp only [List.length_append, List.length_cons, List.length_nil] <;> omega
def itT (v : Int) : ByteArray := ⟨(Lib.itoa v).toArray⟩
theorem bs_itT (v : Int) (h : 0 ≤ v) : bs (itT v) = figs v.toNat := by
  unfold itT; rw [bs_itoa, numeral, if_neg (by omega)]
theorem itT_size (v : Int) (h : 0 ≤ v) (h1 : v ≤ 9999) : (itT v).size ≤ 4 := by
  rw [← bs_length, bs_itT v h]; exact figs_len 4 _ (by omega) (by omega)

theorem spec_SetText_l0 (l : List S40) (h40 : l.length ≤ 40) (hok : ∀ r ∈ l, 1 ≤ r.f0 ∧ r.f0 ≤ r.f1 ∧ r.f1 ≤ 9999) : ∀ (d i : Nat) (out : ByteArray), i + d = l.length → bs out = joinN ((l.take i).map partB) →
    ∃ t : ByteArray, Ev (fun k => spec_SetText.l0 k l out (i : Int)) t ∧ bs t = joinN (l.map partB) := by
  intro d
  induction d with
  | zero =>
    intro i out hi hp
    rw [List.take_of_length_le (by omega)] at hp
    exact ⟨out, Ev.step (spec_SetText.l0.eq_2 l out i) (Ev.no (by omega) (Ev.now _)), hp⟩
  | succ d ih =>
    intro i out hi hp
    have hil : i < l.length := by omega
    have hr := hok _ (List.getElem_mem hil)
    have hw : wrap64 ((i : Int) + 1) = ((i + 1 : Nat) : Int) := by rw [w64 (by omega) (by omega)]; rfl
    have z0 := itT_size (l[i]).f0 (by omega) (by omega)
    have z1 := itT_size (l[i]).f1 (by omega) (by omega)
    have zc : (⟨#[58]⟩ : ByteArray).size = 1 := rfl
    have zk : (⟨#[44]⟩ : ByteArray).size = 1 := rfl
    have hz : out.size ≤ 400 := by
      have hl := joinN_len ((l.take i).map partB) 9 (fun x hx => by
        obtain ⟨r, hr, rfl⟩ := List.mem_map.1 hx
        exact partB_len r (hok r (List.mem_of_mem_take hr)))
      rw [← hp, bs_length, List.length_map, List.length_take] at hl
      omega
    have hne : 0 < i → (l.take i).map partB ≠ [] := fun h e => by
      have := congrArg List.length e
      rw [List.length_map, List.length_take, List.length_nil] at this
      clear hw
      omega
    have nxt : ∀ o t : ByteArray, bs t = partB l[i] → ((i = 0 ∧ o = out) ∨ (0 < i ∧ o = out ++ (⟨#[44]⟩ : ByteArray))) → ∃ r : ByteArray, Ev (fun k => spec_SetText.l0 k l (o ++ t) ((i + 1 : Nat) : Int)) r ∧ bs r = joinN (l.map partB) := fun o t ht ho =>
      ih (i + 1) (o ++ t) (by omega) (by
        rw [List.take_succ_eq_append_getElem hil, List.map_append, List.map_cons, List.map_nil, bs_append, ht]
        rcases ho with ⟨h0, rfl⟩ | ⟨h0, rfl⟩
        · subst h0
          rw [hp]
          simp [joinN]
        · rw [joinN_snoc _ _ (hne h0), bs_append, hp, List.append_assoc]; rfl)
    have d0 := spec_Decimal_ev (l[i]).f0 (by omega) (by omega)
    have d1 := spec_Decimal_ev (l[i]).f1 (by omega) (by omega)
    have j1 : ∀ o : ByteArray, o.size ≤ 401 → ((i = 0 ∧ o = out) ∨ (0 < i ∧ o = out ++ (⟨#[44]⟩ : ByteArray))) → ∃ r : ByteArray, Ev (fun k => spec_SetText.j1 k l o (i : Int)) r ∧ bs r = joinN (l.map partB) := fun o hoz ho => by
      have go : ∀ R, Ev (fun k => (if o.size + (itT (l[i]).f0).size ≤ 9223372036854775807 then (if (l[i]).f1 > (l[i]).f0 then (if (o ++ itT (l[i]).f0).size + 1 ≤ 9223372036854775807 then ((spec_Decimal.f k (l[i]).f1).bind fun t143 => (if ((o ++ itT (l[i]).f0) ++ (⟨#[58]⟩ : ByteArray)).size + t143.size ≤ 9223372036854775807 then (spec_SetText.l0 k l (((o ++ itT (l[i]).f0) ++ (⟨#[58]⟩ : ByteArray)) ++ t143) ((i + 1 : Nat) : Int)) else (none))) else (none)) else (spec_SetText.l0 k l (o ++ itT (l[i]).f0) ((i + 1 : Nat) : Int))) else (none))) R → Ev (fun k => spec_SetText.j1 k l o (i : Int)) R := fun R h => by
        refine Ev.step (spec_SetText.j1.eq_2 l o i) (Ev.yes (by omega) (Ev.yes (by omega) ?_))
        rw [rd45_at l i hil, hw]
        exact Ev.bind d0 h
      by_cases hgt : (l[i]).f1 > (l[i]).f0
      · obtain ⟨r, er, hb⟩ := nxt o (itT (l[i]).f0 ++ ((⟨#[58]⟩ : ByteArray) ++ itT (l[i]).f1)) (by
          rw [bs_append, bs_append, bs_itT _ (by omega), bs_itT _ (by omega), partB, if_pos hgt]; rfl) ho
        have e : o ++ (itT (l[i]).f0 ++ ((⟨#[58]⟩ : ByteArray) ++ itT (l[i]).f1)) = ((o ++ itT (l[i]).f0) ++ (⟨#[58]⟩ : ByteArray)) ++ itT (l[i]).f1 := bs_inj (by simp only [bs_append, List.append_assoc])
        rw [e] at er
        exact ⟨r, go r (Ev.yes (by omega) (Ev.yes hgt (Ev.yes (by rw [size_append]; omega) (Ev.bind d1 (Ev.yes (by show _ + (itT (l[i]).f1).size ≤ _; rw [size_append, size_append]; omega) er))))), hb⟩
      · obtain ⟨r, er, hb⟩ := nxt o (itT (l[i]).f0) (by rw [bs_itT _ (by omega), partB, if_neg hgt, List.append_nil]) ho
        exact ⟨r, go r (Ev.yes (by omega) (Ev.no hgt er)), hb⟩
    by_cases h0 : 0 < i
    · obtain ⟨r, er, hb⟩ := j1 (out ++ (⟨#[44]⟩ : ByteArray)) (by rw [size_append]; omega) (.inr ⟨h0, rfl⟩)
      exact ⟨r, Ev.step (spec_SetText.l0.eq_2 l out i) (Ev.yes (by omega) (Ev.yes (by omega) (Ev.yes (by omega) er))), hb⟩
    · obtain ⟨r, er, hb⟩ := j1 out (by omega) (.inl ⟨by omega, rfl⟩)
      exact ⟨r, Ev.step (spec_SetText.l0.eq_2 l out i) (Ev.yes (by omega) (Ev.no (by omega) er)), hb⟩
/-- what SetText tells -/
def textB (l : List S40) : List Nat := if setOkB (l.map pr) = true then joinN (l.map partB) else []
theorem setOk_facts {l : List S40} (h : setOkB (l.map pr) = true) : l.length ≤ 40 ∧ ∀ r ∈ l, 1 ≤ r.f0 ∧ r.f0 ≤ r.f1 ∧ r.f1 ≤ 9999 := by
  unfold setOkB at h
  simp only [Bool.and_eq_true, decide_eq_true_eq, List.length_map] at h
  have := h
  constructor
  · first | omega | exact h.2 | exact h.1
  · intro r hr
    first | exact okL_mem h.1 (pr r) (List.mem_map_of_mem hr) | exact okL_mem h.2 (pr r) (List.mem_map_of_mem hr)
theorem spec_SetText_ev (l : List S40) (hl : l.length ≤ 1048576) : ∃ t : ByteArray, Ev (fun k => spec_SetText.f k l) t ∧ bs t = textB l := by
  unfold spec_SetText.f textB
  by_cases h : setOkB (l.map pr) = true
  · obtain ⟨h40, hok⟩ := setOk_facts h
    obtain ⟨t, e, hb⟩ := spec_SetText_l0 l h40 hok l.length 0 (⟨#[]⟩ : ByteArray) (by omega) rfl
    exact ⟨t, Ev.bind (spec_SetOk_ev l hl) (Ev.yes h e), by rw [if_pos h]; exact hb⟩
  · exact ⟨⟨#[]⟩, Ev.bind (spec_SetOk_ev l hl) (Ev.no h (Ev.now _)), by rw [if_neg h]; rfl⟩

theorem spec_l01PickInt_ev (b : List Int) (i h : Int) (xs : List Int) (hb : b.length ≤ 140737488351232) (hi : 0 ≤ i) (h0 : 0 < xs.length) (h1 : xs.length ≤ 4294967296) : ∃ r i' h', spec_l01PickInt.f b i h xs = some (r, i', h') ∧ 0 ≤ i' := by
  obtain ⟨r, i1, g1, e1, r1, j1⟩ := spec_l01Below_ev b i h xs.length hb hi (by omega)
  unfold spec_l01PickInt.f
  rw [e1]
  simp only [Option.bind_some]
  rw [if_pos (by omega), if_pos (by omega)]
  exact ⟨_, _, _, rfl, j1⟩
theorem spec_l01Pick_ev (b : List Int) (i h : Int) (xs : List ByteArray) (hb : b.length ≤ 140737488351232) (hi : 0 ≤ i) (h0 : 0 < xs.length) (h1 : xs.length ≤ 4294967296) : ∃ r i' h', spec_l01Pick.f b i h xs = some (r, i', h') ∧ r ∈ xs ∧ 0 ≤ i' := by
  obtain ⟨r, i1, g1, e1, r1, j1⟩ := spec_l01Below_ev b i h xs.length hb hi (by omega)
  unfold spec_l01Pick.f
  rw [e1]
  simp only [Option.bind_some]
  rw [if_pos (by omega), if_pos (by omega)]
  refine ⟨_, _, _, rfl, ?_, j1⟩
  have hlt : r.toNat < xs.length := by omega
  unfold rdOf
  rw [List.getD_eq_getElem?_getD, List.getElem?_eq_getElem hlt, Option.getD_some]
  exact List.getElem_mem _
theorem spec_l05Any_l0 (b : List Int) (hb : b.length ≤ 140737488351232) : ∀ (d : Nat) (x : List S40) (n bi h : Int), x.length + d = 42 → 0 ≤ bi →
    ∃ (s' : List S40) (bi' h' : Int), Ev (fun k => spec_l05Any.l0 k x n b bi h) (s', bi', h') ∧ s'.length ≤ 42 ∧ 0 ≤ bi' := by
  intro d
  induction d with
  | zero =>
    intro x n bi h hx h0
    obtain ⟨r, i1, h1, e1, r1, j1⟩ := spec_l01Below_ev b bi h 2 hb h0 (by omega)
    refine ⟨x, i1, h1, Ev.step (spec_l05Any.l0.eq_2 x n b bi h) (Ev.bindc e1 ?_), by omega, j1⟩
    simp only
    rw [w64 (x := 40 + r) (by omega) (by omega)]
    exact Ev.no (by omega) (Ev.now _)
  | succ d ih =>
    intro x n bi h hx h0
    obtain ⟨r, i1, h1, e1, r1, j1⟩ := spec_l01Below_ev b bi h 2 hb h0 (by omega)
    by_cases hc : (x.length : Int) < 40 + r
    · obtain ⟨s', bi', h', e, q⟩ := ih (x ++ [(⟨wrap64 (100 + (wrap64 (3 * n))), wrap64 (101 + (wrap64 (3 * n)))⟩ : S40)]) (wrap64 (n + 1)) i1 h1 (by rw [List.length_append, List.length_singleton]; omega) j1
      refine ⟨s', bi', h', Ev.step (spec_l05Any.l0.eq_2 x n b bi h) (Ev.bindc e1 ?_), q⟩
      have w4 : wrap64 (40 + r) = 40 + r := w64 (by omega) (by omega)
      refine Ev.yes (by show (x.length : Int) < wrap64 (40 + r); rw [w4]; exact hc) (Ev.yes (by clear w4; omega) e)
    · refine ⟨x, i1, h1, Ev.step (spec_l05Any.l0.eq_2 x n b bi h) (Ev.bindc e1 ?_), by omega, j1⟩
      have w4 : wrap64 (40 + r) = 40 + r := w64 (by omega) (by omega)
      exact Ev.no (by show ¬ (x.length : Int) < wrap64 (40 + r); rw [w4]; exact hc) (Ev.now _)
theorem spec_l05Any_ev (b : List Int) (hb : b.length ≤ 140737488351232) (bi h : Int) (h0 : 0 ≤ bi) :
    ∃ (s' : List S40) (bi' h' : Int), Ev (fun k => spec_l05Any.f k b bi h) (s', bi', h') ∧ s'.length ≤ 42 ∧ 0 ≤ bi' := by
  obtain ⟨s, i1, h1, e1, -, ls, j1⟩ := spec_l05Draw_ev b hb bi h h0
  obtain ⟨r, i2, h2, e2, r2, j2⟩ := spec_l01Below_ev b i1 h1 10 hb j1 (by omega)
  have hz : ([] : List S40).length + s.length < 8796093022208 := by simp; omega
  have go : ∀ (R : List S40 × Int × Int), Ev (fun k => if r = 0 then ((spec_l01PickInt.f b i2 h2 (([0, 5, 9998] : List Int))).bind fun bt213 => ((spec_l01PickInt.f b bt213.2.1 bt213.2.2 (([4, 9999, 10000] : List Int))).bind fun bt219 => (if s.length < 8796093022208 then (some ((s ++ [(⟨bt213.1, bt219.1⟩ : S40)]), bt219.2.1, bt219.2.2)) else (none)))) else (if r = 1 then ((some (([(⟨1, 1⟩ : S40)] : List (S40)) : List (S40))).bind fun y225 => (if y225.length + s.length < 8796093022208 then (some ((y225 ++ s), i2, h2)) else (none))) else (if r = 2 then (spec_l05Any.l0 k s 0 b i2 h2) else (some (s, i2, h2))))) R → Ev (fun k => spec_l05Any.f k b bi h) R := fun R hR => by
    unfold spec_l05Any.f
    exact Ev.bindc rfl (Ev.bind e1 (Ev.yes hz (Ev.bindc (show (some (([] : List S40) ++ s : List S40)) = some s by rw [List.nil_append]) (Ev.bindc e2 hR))))
  by_cases c0 : r = 0
  · obtain ⟨x, i3, h3, e3, j3⟩ := spec_l01PickInt_ev b i2 h2 [0, 5, 9998] hb j2 (by decide) (by decide)
    obtain ⟨y, i4, h4, e4, j4⟩ := spec_l01PickInt_ev b i3 h3 [4, 9999, 10000] hb j3 (by decide) (by decide)
    exact ⟨_, _, _, go _ (Ev.yes c0 (Ev.bindc e3 (Ev.bindc e4 (Ev.yes (by omega) (Ev.now _))))), by rw [List.length_append, List.length_singleton]; omega, j4⟩
  · by_cases c1 : r = 1
    · exact ⟨_, _, _, go _ (Ev.no c0 (Ev.yes c1 (Ev.bindc rfl (Ev.yes (by rw [List.length_singleton]; omega) (Ev.now _))))), by rw [List.length_append, List.length_singleton]; omega, j2⟩
    · by_cases c2 : r = 2
      · obtain ⟨s', i3, h3, e3, l3, j3⟩ := spec_l05Any_l0 b hb (42 - s.length) s 0 i2 h2 (by omega) j2
        exact ⟨s', i3, h3, go _ (Ev.no c0 (Ev.no c1 (Ev.yes c2 e3))), l3, j3⟩
      · exact ⟨s, i2, h2, go _ (Ev.no c0 (Ev.no c1 (Ev.no c2 (Ev.now _)))), by omega, j2⟩
theorem spec_DrawSetAdd_ev (l : List Int) (hl : l.length ≤ 140737488351232) : ∃ (s : List S40) (lo hi : Int), Ev (fun k => spec_DrawSetAdd.f k l) (s, lo, hi) ∧ s.length ≤ 42 := by
  obtain ⟨h, e⟩ := spec_l01New_ev l hl
  obtain ⟨x, i1, h1, e1, j1⟩ := spec_l01PickInt_ev l 0 h [0, 1, 3, 8, 9998, 10000, 12] hl (by omega) (by decide) (by decide)
  obtain ⟨y, i2, h2, e2, j2⟩ := spec_l01PickInt_ev l i1 h1 [0, 1, 4, -1] hl j1 (by decide) (by decide)
  obtain ⟨r, i3, h3, e3, j3⟩ := spec_l01Once_ev l i2 h2 10 hl j2 (by omega)
  cases r
  · obtain ⟨s, i4, h4, e4, l4, j4⟩ := spec_l05Any_ev l hl i3 h3 j3
    exact ⟨s, _, _, Ev.bind e (Ev.bindc e1 (Ev.bindc e2 (Ev.bindc e3 (Ev.no (by simp) (Ev.bind e4 (Ev.now _)))))), l4⟩
  · obtain ⟨z, i5, h5, e5, j5⟩ := spec_l01PickInt_ev l i3 h3 [9223372036854775807, 10000, -9223372036854775808] hl j3 (by decide) (by decide)
    obtain ⟨s, i4, h4, e4, l4, j4⟩ := spec_l05Any_ev l hl i5 h5 j5
    exact ⟨s, _, _, Ev.bind e (Ev.bindc e1 (Ev.bindc e2 (Ev.bindc e3 (Ev.yes rfl (Ev.bindc e5 (Ev.bind e4 (Ev.now _))))))), l4⟩
theorem spec_DrawSetJoin_ev (l : List Int) (hl : l.length ≤ 140737488351232) : ∃ (a b : List S40), Ev (fun k => spec_DrawSetJoin.f k l) (a, b) ∧ a.length ≤ 42 ∧ b.length ≤ 42 := by
  obtain ⟨h, e⟩ := spec_l01New_ev l hl
  obtain ⟨a, i1, h1, e1, l1, j1⟩ := spec_l05Any_ev l hl 0 h (by omega)
  obtain ⟨b, i2, h2, e2, l2, j2⟩ := spec_l05Any_ev l hl i1 h1 j1
  exact ⟨a, b, Ev.bind e (Ev.bind e1 (Ev.bind e2 (Ev.now _))), l1, l2⟩
def MORE : List ByteArray := [(⟨#[]⟩ : ByteArray), (⟨#[42]⟩ : ByteArray), (⟨#[53, 58, 42]⟩ : ByteArray), (⟨#[42, 58, 51]⟩ : ByteArray), (⟨#[55, 44, 49, 44, 50]⟩ : ByteArray), (⟨#[51, 58, 49]⟩ : ByteArray), (⟨#[48]⟩ : ByteArray), (⟨#[49, 58]⟩ : ByteArray), (⟨#[44]⟩ : ByteArray), (⟨#[49, 48, 48, 48, 48]⟩ : ByteArray), (⟨#[49, 44, 44, 50]⟩ : ByteArray), (⟨#[52, 58, 120]⟩ : ByteArray), (⟨#[48, 48, 49, 50]⟩ : ByteArray), (⟨#[48, 48, 48, 49, 50]⟩ : ByteArray), (⟨#[50, 58, 50, 44, 51]⟩ : ByteArray)]
theorem spec_DrawReadSet_ev (l : List Int) (hl : l.length ≤ 140737488351232) : ∃ (t : ByteArray) (last : Int), Ev (fun k => spec_DrawReadSet.f k l) (t, last) ∧ t.size ≤ 1048576 := by
  obtain ⟨h, e⟩ := spec_l01New_ev l hl
  obtain ⟨x, i1, h1, e1, j1⟩ := spec_l01PickInt_ev l 0 h [1, 5, 9999, 0, 10000] hl (by omega) (by decide) (by decide)
  obtain ⟨y, i2, h2, e2, y2, j2⟩ := spec_l01Pick_ev l i1 h1 MORE hl j1 (by decide) (by decide)
  obtain ⟨r, i3, h3, e3, r3, j3⟩ := spec_l01Below_ev l i2 h2 3 hl j2 (by omega)
  obtain ⟨s, i4, h4, e4, l4, j4⟩ := spec_l05Any_ev l hl i3 h3 j3
  obtain ⟨t, et, bt⟩ := spec_SetText_ev s (by omega)
  have zy : ∀ q ∈ MORE, q.size ≤ 5 := by decide
  have zy := zy y y2
  have zt : t.size ≤ 400 := by
    rw [← bs_length, bt]
    unfold textB
    split
    · rename_i hs
      have hj := joinN_len (s.map partB) 9 (fun x hx => by
        obtain ⟨r, hr, rfl⟩ := List.mem_map.1 hx
        exact partB_len r ((setOk_facts hs).2 r hr))
      have := (setOk_facts hs).1
      rw [List.length_map] at hj
      omega
    · simp
  have zk : (⟨#[44]⟩ : ByteArray).size = 1 := rfl
  by_cases c0 : r = 0
  · exact ⟨_, _, Ev.bind e (Ev.bindc e1 (Ev.bindc e2 (Ev.bindc e3 (Ev.bind e4 (Ev.bind et (Ev.yes c0 (Ev.now _))))))), by show y.size ≤ 1048576; omega⟩
  · by_cases c1 : r = 1
    · exact ⟨_, _, Ev.bind e (Ev.bindc e1 (Ev.bindc e2 (Ev.bindc e3 (Ev.bind e4 (Ev.bind et (Ev.no c0 (Ev.yes c1 (Ev.yes (by omega) (Ev.yes (by show (t ++ (⟨#[44]⟩ : ByteArray)).size + y.size ≤ _; rw [size_append]; omega) (Ev.now _)))))))))), by show ((t ++ (⟨#[44]⟩ : ByteArray)) ++ y).size ≤ 1048576; rw [size_append, size_append]; omega⟩
    · exact ⟨_, _, Ev.bind e (Ev.bindc e1 (Ev.bindc e2 (Ev.bindc e3 (Ev.bind e4 (Ev.bind et (Ev.no c0 (Ev.no c1 (Ev.now _)))))))), by omega⟩
theorem FnSetsTold : laws_FnSetsTold.Pure := by
  intro l hm hl hw
  apply Ev.rounds
  unfold laws_FnSetsTold.f
  refine Ev.bindc (show laws_big.f l = some (decide ((l.length : Int) > 1048576)) from rfl) (Ev.ite (fun _ => Ev.now _) (fun hbig => ?_))
  obtain ⟨s, lo, hi, ed, ls⟩ := spec_DrawSetAdd_ev l (by omega)
  obtain ⟨x, y, ej, lx, ly⟩ := spec_DrawSetJoin_ev l (by omega)
  obtain ⟨t, last, er, zt⟩ := spec_DrawReadSet_ev l (by omega)
  have a1 := impl_SetAdd_ev s lo hi (by omega)
  have a2 := spec_SetAdd_ev s lo hi (by omega)
  have a3 := putOut_len (putP true (s.map pr) lo hi) s lo hi (by omega)
  generalize putOut (putP true (s.map pr) lo hi) s lo hi = A at a1 a2 a3
  have b1 := impl_SetDrop_ev s lo hi (by omega)
  have b2 := spec_SetDrop_ev s lo hi (by omega)
  have b3 := putOut_len (putP false (s.map pr) lo hi) s lo hi (by omega)
  generalize putOut (putP false (s.map pr) lo hi) s lo hi = B at b1 b2 b3
  have c1 := impl_SetJoin_ev x y (by omega) (by omega)
  have c2 := spec_SetJoin_ev x y (by omega) (by omega)
  have c3 := twoOut_len (fun n => opB false (hasL (x.map pr) n) (hasL (y.map pr) n)) x y
  generalize twoOut (fun n => opB false (hasL (x.map pr) n) (hasL (y.map pr) n)) x y = C at c1 c2 c3
  have d1 := impl_ReadSet_ev t zt last
  have d2 := spec_ReadSet_ev t (by omega) last
  have d3 := setRead_len last (bs t)
  generalize setRead last (bs t) = D at d1 d2 d3
  have e1 := impl_SetOk_ev s (by omega)
  have e2 := spec_SetOk_ev s (by omega)
  have f1 := impl_SetSize_ev s (by omega)
  have f2 := spec_SetSize_ev s (by omega)
  generalize (if setOkB (s.map pr) = true then sizeL (s.map pr) else 0) = F at f1 f2
  generalize setOkB (s.map pr) = E at e1 e2
  refine Ev.bind ed (Ev.bind a1 (Ev.bind a2 (Ev.bind b1 (Ev.bind b2 (Ev.bind ej (Ev.bind c1 (Ev.bind c2 (Ev.bind er (Ev.bind d1 (Ev.bind d2 ?_))))))))))
  refine Ev.yes (beq_self_eq_true _) (Ev.bind (laws_sameSet_ev A.1 a3) (Ev.yes rfl (Ev.yes (beq_self_eq_true _) (Ev.bind (laws_sameSet_ev B.1 b3) (Ev.yes rfl (Ev.yes (beq_self_eq_true _) (Ev.bind (laws_sameSet_ev C.1 (by omega)) (Ev.yes rfl (Ev.yes (beq_self_eq_true _) (Ev.bind (laws_sameSet_ev D.1 (by omega)) (Ev.yes rfl (Ev.bind e1 (Ev.bind e2 (Ev.yes (beq_self_eq_true _) (Ev.bind f1 (Ev.bind f2 (Ev.const ?_)))))))))))))))))
  rw [beq_self_eq_true]
end Go.Proofs.YthngecooaddddaaDoor.Pure
