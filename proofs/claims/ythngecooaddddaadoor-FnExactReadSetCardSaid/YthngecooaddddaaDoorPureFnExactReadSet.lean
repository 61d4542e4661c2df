/- ReadSet returns what the reference returns, for every text and every int; its ranges are its own. No condition. -/
import Derived.Test.YthngecooaddddaaDoorSet
import Derived.Test.YthngecooaddddaaDoorSplit
import Derived.Test.YthngecooaddddaaDoorQFnExactReadSetx6
namespace Go.Proofs.YthngecooaddddaaDoor.Pure
open Go.RowKit Go.Proofs.YthngecooaddddaaDoor.PFnExactReadSet Go.Proofs.YthngecooaddddaaDoorW.PrintWords Go.Proofs.YthngecooaddddaaDoorW.PrintLast Go.Proofs.YthngecooaddddaaDoorW.PrintMore Go.Proofs.YthngecooaddddaaDoor.Gen
set_option linter.unusedVariables false

theorem spec_l01In_ev (a b c : Int) : spec_l01In.f a b c = some (decide (b ≤ a ∧ a ≤ c)) := by
  unfold spec_l01In.f
  by_cases h : a ≥ b
  · rw [if_pos h]; congr 1; simp; omega
  · rw [if_neg h]; congr 1; simp; omega

theorem impl_within_ev (a b c : Int) : impl_within.f a b c = some (decide (b ≤ a ∧ a ≤ c)) := by
  unfold impl_within.f
  by_cases h : a ≥ b
  · rw [if_pos h]; congr 1; simp; omega
  · rw [if_neg h]; congr 1; simp; omega

/-! a number of a set's text -/
def digitsB (l : List Nat) : Bool := l.all fun c => decide (48 ≤ c ∧ c ≤ 57)
def dv (n : Nat) (l : List Nat) : Nat := l.foldl (fun n c => 10 * n + (c - 48)) n
theorem dv_cons (n c : Nat) (l : List Nat) : dv n (c :: l) = dv (10 * n + (c - 48)) l := by unfold dv; rw [List.foldl_cons]
def uid (last : Int) (l : List Nat) : Option Int := if l = [42] then some last else if (1 ≤ l.length ∧ l.length ≤ 4) ∧ digitsB l = true ∧ 1 ≤ dv 0 l then some (dv 0 l) else none
/-- what both tell of it: where it is none, whatever number, and false -/
def UidSaid (last : Int) (l : List Nat) (r : Int × Bool) : Prop := (∀ a, uid last l = some a → r = (a, true)) ∧ (uid last l = none → r.2 = false)
theorem bs_star : bs (⟨#[42]⟩ : ByteArray) = [42] := rfl
theorem star_iff (t : ByteArray) : t.toList = ([42] : List UInt8) ↔ bs t = [42] := by
  rw [ByteArray.toList_eq, ← bs_star]
  exact ⟨fun e => by unfold bs; rw [e], fun e => by rw [bs_inj e]⟩
theorem uid_num (n c : Nat) (hn : n < 1000000000) (hd : 48 ≤ c ∧ c ≤ 57) : wrap64 ((wrap64 ((wrap64 (10 * (n : Int))) + (wrap64 (c : Int)))) - 48) = ((10 * n + (c - 48) : Nat) : Int) := by
  rw [w64 (x := 10 * (n : Int)) (by omega) (by omega), w64 (x := (c : Int)) (by omega) (by omega), w64 (x := 10 * (n : Int) + c) (by omega) (by omega), w64 (by omega) (by omega)]
  omega
theorem uid_mod (n c : Nat) (hn : n < 1000000000) (hd : 48 ≤ c ∧ c ≤ 57) : Int.tmod (wrap64 ((wrap64 (10 * (n : Int))) + (((c : Int) - 48) % 256))) 1000000000 = (((10 * n + (c - 48)) % 1000000000 : Nat) : Int) := by
  rw [w64 (x := 10 * (n : Int)) (by omega) (by omega), w64 (by omega) (by omega), show 10 * (n : Int) + ((c : Int) - 48) % 256 = ((10 * n + (c - 48) : Nat) : Int) by omega]
  rfl
theorem uid_next (i : Nat) (h : i < 140737488351233) : wrap64 ((i : Int) + 1) = ((i + 1 : Nat) : Int) := by rw [w64 (by omega) (by omega)]; rfl
theorem uid_within (c : Nat) (hc : c < 256) : impl_within.f (wrap64 (c : Int)) 48 57 = some (decide (48 ≤ c ∧ c ≤ 57)) := by
  rw [w64 (by omega) (by omega), impl_within_ev]
  congr 1; exact decide_eq_decide.2 (by omega)
theorem spec_l05Num_l0 (t : ByteArray) (h4 : t.size ≤ 4) : ∀ (d i n : Nat), i + d = t.size → n < 10 ^ i →
    Ev (fun k => spec_l05Num.l0 k t (n : Int) (i : Int)) (if digitsB ((bs t).drop i) = true then ((dv n ((bs t).drop i) : Nat), decide ((dv n ((bs t).drop i) : Int) ≥ 1)) else (0, false)) := by
  have hlen := bs_length t
  intro d
  induction d with
  | zero =>
    intro i n hi hn
    rw [List.drop_of_length_le (by omega)]
    exact Ev.step (spec_l05Num.l0.eq_2 t n i) (Ev.no (by omega) (Ev.now _))
  | succ d ih =>
    intro i n hi hn
    have hil : i < (bs t).length := by omega
    have hc := bs_lt t _ (List.getElem_mem hil)
    have hp : 10 ^ i ≤ 10 ^ 4 := Nat.pow_le_pow_right (by omega) (by omega)
    have h10 : (10 : Nat) ^ 4 = 10000 := by decide
    refine Ev.step (spec_l05Num.l0.eq_2 t n i) (Ev.yes (by omega) (Ev.yes (by omega) ?_))
    rw [List.drop_eq_getElem_cons hil, bt_eq hil]
    generalize (bs t)[i] = c at hc
    have hdig : digitsB (c :: (bs t).drop (i + 1)) = (decide (48 ≤ c ∧ c ≤ 57) && digitsB ((bs t).drop (i + 1))) := rfl
    refine Ev.ite (fun h => ?_) (fun h => Ev.ite (fun h2 => ?_) (fun h2 => ?_))
    · rw [hdig, decide_eq_false (by omega), Bool.false_and, if_neg (by decide)]; exact Ev.now _
    · rw [hdig, decide_eq_false (by omega), Bool.false_and, if_neg (by decide)]; exact Ev.now _
    · rw [hdig, decide_eq_true (by omega), Bool.true_and, dv_cons]
      rw [uid_num n c (by omega) (by omega), uid_next i (by omega)]
      exact ih (i + 1) _ (by omega) (by rw [Nat.pow_succ]; omega)
theorem spec_l05Num_ev (t : ByteArray) (last : Int) : ∃ r, Ev (fun k => spec_l05Num.f k t last) r ∧ UidSaid last (bs t) r := by
  have hlen := bs_length t
  unfold spec_l05Num.f
  by_cases h : bs t = [42]
  · refine ⟨(last, true), Ev.yes ((star_iff t).2 h) (Ev.now _), fun a ha => ?_, fun hn => ?_⟩
    · unfold uid at ha; rw [if_pos h] at ha; rw [Option.some.inj ha]
    · unfold uid at hn; rw [if_pos h] at hn; cases hn
  · have h' : ¬ t.toList = ([42] : List UInt8) := fun e => h ((star_iff t).1 e)
    by_cases hs : 1 ≤ t.size ∧ t.size ≤ 4
    · have := spec_l05Num_l0 t hs.2 t.size 0 0 (by omega) (by omega)
      rw [List.drop_zero] at this
      refine ⟨_, Ev.no h' (Ev.bindc (spec_l01In_ev t.size 1 4) (Ev.yes (by rw [decide_eq_true (by omega)]) this)), fun a ha => ?_, fun hn => ?_⟩
      · unfold uid at ha
        rw [if_neg h] at ha
        split at ha
        · rename_i hc
          rw [if_pos hc.2.1, decide_eq_true (by omega), Option.some.inj ha]
        · cases ha
      · unfold uid at hn
        rw [if_neg h] at hn
        split at hn
        · cases hn
        · rename_i hc
          by_cases hd : digitsB (bs t) = true
          · rw [if_pos hd]
            exact decide_eq_false (fun e => hc ⟨by omega, hd, by omega⟩)
          · rw [if_neg hd]
    · refine ⟨(0, false), Ev.no h' (Ev.bindc (spec_l01In_ev t.size 1 4) (Ev.no (by rw [decide_eq_false (by omega)]; decide) (Ev.now _))), fun a ha => ?_, fun _ => rfl⟩
      unfold uid at ha
      rw [if_neg h, if_neg (fun e => hs (by omega))] at ha
      cases ha
theorem impl_readUid_l0 (t : ByteArray) (hs : t.size ≤ 140737488351232) : ∀ (d i n : Nat), i + d = t.size → n < 1000000000 →
    ∃ r : Int × Bool, Ev (fun k => impl_readUid.l0 k t (n : Int) (t.size : Int) (i : Int)) r ∧ (digitsB ((bs t).drop i) = false → r.2 = false) ∧ (¬ (1 ≤ t.size ∧ t.size ≤ 4) → r.2 = false) ∧
      (digitsB ((bs t).drop i) = true → 1 ≤ t.size → t.size ≤ 4 → n < 10 ^ i → r = (((dv n ((bs t).drop i) : Nat) : Int), decide ((dv n ((bs t).drop i) : Int) > 0))) := by
  have hlen := bs_length t
  intro d
  induction d with
  | zero =>
    intro i n hi hn
    rw [List.drop_of_length_le (by omega)]
    by_cases hz : 1 ≤ t.size ∧ t.size ≤ 4
    · exact ⟨((n : Int), decide ((n : Int) > 0)), Ev.step (impl_readUid.l0.eq_2 t n t.size i) (Ev.no (by omega) (Ev.bindc (impl_within_ev t.size 1 4) (Ev.yes (by rw [decide_eq_true (by omega)]) (Ev.now _)))), (fun h => absurd h (by decide)), fun h => absurd hz h, fun _ _ _ _ => rfl⟩
    · exact ⟨((n : Int), false), Ev.step (impl_readUid.l0.eq_2 t n t.size i) (Ev.no (by omega) (Ev.bindc (impl_within_ev t.size 1 4) (Ev.no (by rw [decide_eq_false (by omega)]; decide) (Ev.now _)))), fun _ => rfl, fun _ => rfl, fun _ h1 h2 _ => absurd ⟨h1, h2⟩ hz⟩
  | succ d ih =>
    intro i n hi hn
    have hil : i < (bs t).length := by omega
    have hc := bs_lt t _ (List.getElem_mem hil)
    have hbt := bt_eq hil
    rw [List.drop_eq_getElem_cons hil]
    revert hc hbt
    generalize (bs t)[i] = c
    intro hc hbt
    have hdig : digitsB (c :: (bs t).drop (i + 1)) = (decide (48 ≤ c ∧ c ≤ 57) && digitsB ((bs t).drop (i + 1))) := rfl
    have hwi := uid_within c hc
    rw [← hbt] at hwi
    by_cases hd : 48 ≤ c ∧ c ≤ 57
    · rw [decide_eq_true hd] at hwi
      obtain ⟨r, er, f1, f2, f3⟩ := ih (i + 1) ((10 * n + (c - 48)) % 1000000000) (by omega) (Nat.mod_lt _ (by omega))
      refine ⟨r, Ev.step (impl_readUid.l0.eq_2 t n t.size i) (Ev.yes (by omega) (Ev.yes (by omega) (Ev.yes (by omega) (Ev.bindc hwi (Ev.yes rfl ?_))))), fun h => f1 ?_, f2, fun h h1 h4 hlt => ?_⟩
      · rw [hbt, uid_mod n c hn hd, uid_next i (by omega)]; exact er
      · rw [hdig, decide_eq_true hd, Bool.true_and] at h; exact h
      · rw [hdig, decide_eq_true hd, Bool.true_and] at h
        clear hwi hbt
        have hp : 10 ^ (i + 1) ≤ 10 ^ 4 := Nat.pow_le_pow_right (by omega) (by omega)
        have h10 : (10 : Nat) ^ 4 = 10000 := by decide
        have hs2 : 10 ^ (i + 1) = 10 ^ i * 10 := Nat.pow_succ ..
        have hm : (10 * n + (c - 48)) % 1000000000 = 10 * n + (c - 48) := Nat.mod_eq_of_lt (by omega)
        have := f3 h h1 h4 (by rw [hm]; omega)
        rw [hm] at this
        exact this
    · rw [decide_eq_false hd] at hwi
      refine ⟨(0, false), Ev.step (impl_readUid.l0.eq_2 t n t.size i) (Ev.yes (by omega) (Ev.yes (by omega) (Ev.yes (by omega) (Ev.bindc hwi (Ev.no (by decide) (Ev.now _)))))), fun _ => rfl, fun _ => rfl, fun h => ?_⟩
      rw [hdig, decide_eq_false hd, Bool.false_and] at h
      cases h
theorem impl_readUid_ev (t : ByteArray) (last : Int) (hs : t.size ≤ 140737488351232) : ∃ r, Ev (fun k => impl_readUid.f k t last) r ∧ UidSaid last (bs t) r := by
  have hlen := bs_length t
  unfold impl_readUid.f
  by_cases h : bs t = [42]
  · refine ⟨(last, true), Ev.yes ((star_iff t).2 h) (Ev.now _), fun a ha => ?_, fun hn => ?_⟩
    · unfold uid at ha; rw [if_pos h] at ha; rw [Option.some.inj ha]
    · unfold uid at hn; rw [if_pos h] at hn; cases hn
  · have h' : ¬ t.toList = ([42] : List UInt8) := fun e => h ((star_iff t).1 e)
    obtain ⟨r, er, f1, f2, f3⟩ := impl_readUid_l0 t hs t.size 0 0 (by omega) (by omega)
    rw [List.drop_zero] at f1 f3
    refine ⟨r, Ev.no h' er, fun a ha => ?_, fun hn => ?_⟩
    · unfold uid at ha
      rw [if_neg h] at ha
      split at ha
      · rename_i hc
        rw [f3 hc.2.1 (by omega) (by omega) (by omega), decide_eq_true (by omega), Option.some.inj ha]
      · cases ha
    · unfold uid at hn
      rw [if_neg h] at hn
      split at hn
      · cases hn
      · rename_i hc
        by_cases hz : 1 ≤ t.size ∧ t.size ≤ 4
        · cases hd : digitsB (bs t) with
          | false => exact f1 hd
          | true =>
            rw [f3 hd hz.1 hz.2 (by omega)]
            exact decide_eq_false (fun e => hc ⟨by omega, hd, by omega⟩)
        · exact f2 hz

/-! a part of a set's text -/
def cutN (c : Nat) : List Nat → List Nat × Option (List Nat)
  | [] => ([], none)
  | b :: l => if b = c then ([], some l) else (b :: (cutN c l).1, (cutN c l).2)
theorem cutN_none (c : Nat) : ∀ l : List Nat, c ∉ l → cutN c l = (l, none)
  | [], _ => rfl
  | b :: l, h => by
    simp only [List.mem_cons, not_or] at h
    rw [cutN, if_neg (fun e => h.1 e.symm), cutN_none c l h.2]
theorem cutN_hit (c : Nat) (r : List Nat) : ∀ a : List Nat, c ∉ a → cutN c (a ++ c :: r) = (a, some r)
  | [], _ => by simp [cutN]
  | b :: a, h => by
    simp only [List.mem_cons, not_or] at h
    rw [List.cons_append, cutN, if_neg (fun e => h.1 e.symm), cutN_hit c r a h.2]
theorem cut_eq (t : ByteArray) (ht : t.size < 4294967281) : ∃ (f s : ByteArray) (b : Bool), strings_Cut.f t (⟨#[58]⟩ : ByteArray) = some (f, s, b) ∧ ((cutN 58 (bs t) = (bs f, none) ∧ b = false) ∨ (cutN 58 (bs t) = (bs f, some (bs s)) ∧ b = true)) ∧ f.size ≤ t.size ∧ s.size ≤ t.size := by
  refine ⟨_, _, _, if_pos ht, ?_⟩
  have hsz : t.size = t.data.toList.length := rfl
  have hsep : (⟨#[58]⟩ : ByteArray).data.toList = [58] := rfl
  rw [hsep]
  rcases indexByte_cases 58 t.data.toList with ⟨h1, h2⟩ | ⟨a, r, h1, h2, h3⟩
  · have hi : Lib.index t.data.toList [58] = -1 := by rw [Lib.index_one]; exact h1
    have hc : Lib.cut t.data.toList [58] = (t.data.toList, [], false) := by unfold Lib.cut; rw [hi, if_neg (by decide)]
    rw [hc]
    refine ⟨.inl ⟨?_, rfl⟩, Nat.le_refl _, Nat.zero_le _⟩
    exact cutN_none 58 (bs t) (not_mem_nat h2)
  · have hi : Lib.index t.data.toList [58] = (a.length : Int) := by rw [Lib.index_one]; exact h3
    have hc : Lib.cut t.data.toList [58] = (a, r, true) := by
      unfold Lib.cut
      rw [hi, if_pos (by omega), Int.toNat_natCast, h1, List.take_left' rfl]
      have : a ++ (58 : UInt8) :: r = (a ++ [58]) ++ r := by simp
      rw [this, List.drop_left' (by simp)]
    rw [hc]
    have hl : t.size = a.length + 1 + r.length := by rw [hsz, h1, List.length_append, List.length_cons]; omega
    refine ⟨.inr ⟨?_, rfl⟩, by show a.length ≤ t.size; omega, by show r.length ≤ t.size; omega⟩
    have : bs t = a.map UInt8.toNat ++ 58 :: r.map UInt8.toNat := by unfold bs; rw [h1]; simp
    rw [this]
    exact cutN_hit 58 (r.map UInt8.toNat) (a.map UInt8.toNat) (not_mem_nat h2)
def partP (last : Int) (l : List Nat) : Option (Int × Int) := match (cutN 58 l).2 with
  | none => (uid last (cutN 58 l).1).map fun a => (a, a)
  | some s => (uid last (cutN 58 l).1).bind fun a => (uid last s).map fun b => if a > b then (b, a) else (a, b)
def PartSaid (last : Int) (l : List Nat) (r : Int × Int × Bool) : Prop := (∀ p : Int × Int, partP last l = some p → r = (p.1, p.2, true)) ∧ (partP last l = none → r.2.2 = false)
theorem part_two (last : Int) (l f s : List Nat) (hc : cutN 58 l = (f, some s)) (a b : Int × Bool) (ha : UidSaid last f a) (hb : UidSaid last s b) :
    PartSaid last l (if a.1 > b.1 then (if a.2 = true then (b.1, a.1, b.2) else (b.1, a.1, false)) else (if a.2 = true then (a.1, b.1, b.2) else (a.1, b.1, false))) := by
  unfold PartSaid partP
  rw [hc]
  simp only
  cases hf : uid last f with
  | none =>
    have := ha.2 hf
    refine ⟨fun p hp => by simp at hp, fun _ => ?_⟩
    rw [this]
    split <;> rfl
  | some x =>
    obtain rfl := ha.1 x hf
    cases hs : uid last s with
    | none =>
      have := hb.2 hs
      refine ⟨fun p hp => by simp at hp, fun _ => ?_⟩
      split <;> exact this
    | some y =>
      obtain rfl := hb.1 y hs
      refine ⟨fun p hp => ?_, fun hn => by simp at hn⟩
      have hp' : (if x > y then (y, x) else (x, y)) = p := Option.some.inj hp
      subst hp'
      by_cases hxy : x > y
      · simp [hxy]
      · simp [hxy]
theorem part_one (last : Int) (l : List Nat) (hc : cutN 58 l = (l, none)) (a : Int × Bool) (ha : UidSaid last l a) : PartSaid last l (a.1, a.1, a.2) := by
  unfold PartSaid partP
  rw [hc]
  simp only
  cases hf : uid last l with
  | none => exact ⟨fun p hp => by simp at hp, fun _ => ha.2 hf⟩
  | some x =>
    obtain rfl := ha.1 x hf
    refine ⟨fun p hp => ?_, fun hn => by simp at hn⟩
    have : (x, x) = p := Option.some.inj hp
    subst this; rfl
theorem spec_l05Part_l0 (t : ByteArray) (ht : t.size ≤ 140737488351232) (last : Int) : ∀ (d i : Nat), i + d = t.size → 58 ∉ (bs t).take i → ∃ r, Ev (fun k => spec_l05Part.l0 k t last (i : Int)) r ∧ PartSaid last (bs t) r := by
  have hlen := bs_length t
  intro d
  induction d with
  | zero =>
    intro i hi hn
    rw [List.take_of_length_le (by omega)] at hn
    obtain ⟨a, ea, ha⟩ := spec_l05Num_ev t last
    exact ⟨(a.1, a.1, a.2), Ev.step (spec_l05Part.l0.eq_2 t last i) (Ev.no (by omega) (Ev.bind ea (Ev.now _))), part_one last (bs t) (cutN_none 58 _ hn) a ha⟩
  | succ d ih =>
    intro i hi hn
    have hil : i < (bs t).length := by omega
    have hbt := bt_eq hil
    by_cases hc : (bs t)[i] = 58
    · have hsplit : bs t = (bs t).take i ++ 58 :: (bs t).drop (i + 1) := by
        conv => lhs; rw [← List.take_append_drop i (bs t), List.drop_eq_getElem_cons hil, hc]
      have hcut : cutN 58 (bs t) = ((bs t).take i, some ((bs t).drop (i + 1))) := by
        conv => lhs; rw [hsplit]
        exact cutN_hit 58 _ _ hn
      obtain ⟨a, ea, ha⟩ := spec_l05Num_ev (t.extract 0 i) last
      obtain ⟨b, eb, hb⟩ := spec_l05Num_ev (t.extract (i + 1) t.size) last
      rw [bs_extract, List.drop_zero, Nat.sub_zero] at ha
      rw [bs_extract, List.take_of_length_le (by rw [List.length_drop]; omega)] at hb
      refine ⟨_, Ev.step (spec_l05Part.l0.eq_2 t last i) (Ev.yes (by omega) (Ev.yes (by omega) (Ev.yes (by rw [hbt, hc]; rfl) (Ev.yes (by omega) (Ev.bind ea ?_))))), part_two last (bs t) _ _ hcut a b ha hb⟩
      rw [uid_next i (by omega)]
      refine Ev.yes (by omega) (Ev.yes (by omega) (Ev.bind eb ?_))
      refine Ev.ite (fun h => ?_) (fun h => ?_)
      · rw [if_pos h]
        refine Ev.ite (fun h2 => ?_) (fun h2 => ?_)
        · rw [if_pos h2]; exact Ev.now _
        · rw [if_neg h2]; exact Ev.now _
      · rw [if_neg h]
        refine Ev.ite (fun h2 => ?_) (fun h2 => ?_)
        · rw [if_pos h2]; exact Ev.now _
        · rw [if_neg h2]; exact Ev.now _
    · obtain ⟨r, er, hr⟩ := ih (i + 1) (by omega) (by
        rw [List.take_succ_eq_append_getElem hil, List.mem_append]
        simp only [List.mem_singleton, not_or]
        exact ⟨hn, fun e => hc e.symm⟩)
      refine ⟨r, Ev.step (spec_l05Part.l0.eq_2 t last i) (Ev.yes (by omega) (Ev.yes (by omega) (Ev.no (by rw [hbt]; omega) ?_))), hr⟩
      rw [uid_next i (by omega)]
      exact er
theorem spec_l05Part_ev (t : ByteArray) (ht : t.size ≤ 140737488351232) (last : Int) : ∃ r, Ev (fun k => spec_l05Part.f k t last) r ∧ PartSaid last (bs t) r :=
  spec_l05Part_l0 t ht last t.size 0 (by omega) (by simp)

def pr (x : S40) : Int × Int := (x.f0, x.f1)
theorem rd45_at (l : List S40) (i : Nat) (h : i < l.length) : rd_T40 l (i : Int) = l[i] := by
  unfold rd_T40
  rw [Int.toNat_natCast, List.getD_eq_getElem?_getD, List.getElem?_eq_getElem h]; rfl
theorem laws_eqRangeS_l0 (l : List S40) (hl : l.length ≤ 1048576) : ∀ (d i : Nat), i + d = l.length → Ev (fun k => laws_eqRangeS.l0 k l l (i : Int)) true := by
  intro d
  induction d with
  | zero =>
    intro i hi
    exact Ev.step (laws_eqRangeS.l0.eq_2 l l (i : Int)) (Ev.no (by omega) (Ev.now _))
  | succ d ih =>
    intro i hi
    have e : laws_eqRange.f ((rd_T40 l (i : Int)).f0) ((rd_T40 l (i : Int)).f1) ((rd_T40 l (i : Int)).f0) ((rd_T40 l (i : Int)).f1) = some true := by
      unfold laws_eqRange.f; rw [if_pos rfl, if_pos rfl]
    refine Ev.step (laws_eqRangeS.l0.eq_2 l l (i : Int)) (Ev.yes (by omega) (Ev.yes (by omega) (Ev.yes (by omega) (Ev.bindc e (Ev.yes rfl ?_)))))
    rw [w64 (by omega) (by omega)]
    exact ih (i + 1) (by omega)
theorem laws_eqRangeS_ev (l : List S40) (hl : l.length ≤ 1048576) : Ev (fun k => laws_eqRangeS.f k l l) true := by
  unfold laws_eqRangeS.f
  exact Ev.yes rfl (laws_eqRangeS_l0 l hl l.length 0 (by omega))

theorem spec_SetOk_l0 (l : List S40) (hl : l.length ≤ 1048576) : ∀ (d i : Nat) (b : Int), i + d = l.length → (i = 0 → b = 0) → (0 < i → b = (rd_T40 l ((i : Int) - 1)).f1 + 1 ∧ 1 ≤ b ∧ b ≤ 10000) →
    Ev (fun k => spec_SetOk.l0 k l (i : Int)) (okL b ((l.drop i).map pr) && decide ((l.length : Int) ≤ 40)) := by
  intro d
  induction d with
  | zero =>
    intro i b hi h0 h1
    refine Ev.step (spec_SetOk.l0.eq_2 l (i : Int)) (Ev.no (by omega) (Ev.const ?_))
    rw [List.drop_eq_nil_of_le (by omega)]; rfl
  | succ d ih =>
    intro i b hi h0 h1
    have hlt : i < l.length := by omega
    have e := rd45_at l i hlt
    rw [List.drop_eq_getElem_cons hlt]
    simp only [List.map_cons, okL]
    have ep : pr l[i] = ((rd_T40 l (i : Int)).f0, (rd_T40 l (i : Int)).f1) := by rw [e]; rfl
    rw [ep]
    generalize rd_T40 l (i : Int) = x at ep e
    have hn : ∀ c : Int, c = x.f1 + 1 → 1 ≤ x.f1 ∧ x.f1 ≤ 9999 → Ev (fun k => spec_SetOk.l0 k l ((i + 1 : Nat) : Int)) (okL c ((l.drop (i + 1)).map pr) && decide ((l.length : Int) ≤ 40)) := by
      intro c hc hx
      refine ih (i + 1) c (by omega) (fun h => by omega) (fun _ => ?_)
      have e3 : (((i + 1 : Nat) : Int) - 1) = (i : Int) := by omega
      rw [e3, rd45_at l i hlt, ← e]
      exact ⟨hc, by omega, by omega⟩
    have e2 : wrap64 ((i : Int) + 1) = ((i + 1 : Nat) : Int) := by rw [w64 (by omega) (by omega)]; omega
    have hx0 : (rd_T40 l (i : Int)) = x := by rw [rd45_at l i hlt]; exact e.symm
    refine Ev.step (spec_SetOk.l0.eq_2 l (i : Int)) ?_
    rw [e2]
    clear e2 e ep ih
    rw [hx0]
    have hz : 0 < i → wrap64 ((i : Int) - 1) = (i : Int) - 1 := fun h => w64 (by omega) (by omega)
    refine Ev.yes (by omega) (Ev.yes (by omega) (Ev.bindc (spec_l01In_ev _ _ _) ?_))
    refine Ev.ite (fun h2 => ?_) (fun h2 => ?_)
    · rw [decide_eq_true_eq] at h2
      refine Ev.ite (fun h3 => ?_) (fun h3 => ?_)
      · rw [decide_eq_false (by omega)]; exact Ev.now _
      · refine Ev.ite (fun h4 => ?_) (fun h4 => ?_)
        · obtain ⟨h5, h6, h7⟩ := h1 (by omega)
          rw [hz (by omega), w64 (x := (rd_T40 l ((i : Int) - 1)).f1 + 1) (by omega) (by omega), ← h5]
          clear hz
          refine Ev.yes (by omega) (Ev.yes (by omega) ?_)
          refine Ev.ite (fun h8 => ?_) (fun h8 => ?_)
          · rw [decide_eq_false (by omega)]; exact Ev.now _
          · rw [decide_eq_true (show b < x.f0 ∧ 1 ≤ x.f0 ∧ x.f0 ≤ x.f1 ∧ x.f1 ≤ 9999 by omega), Bool.true_and]
            exact hn _ rfl (by omega)
        · clear hz
          have h9 := h0 (by omega)
          rw [decide_eq_true (show b < x.f0 ∧ 1 ≤ x.f0 ∧ x.f0 ≤ x.f1 ∧ x.f1 ≤ 9999 by omega), Bool.true_and]
          exact hn _ rfl (by omega)
    · rw [decide_eq_true_eq] at h2
      rw [decide_eq_false (by omega)]; exact Ev.now _

theorem spec_SetOk_ev (l : List S40) (hl : l.length ≤ 1048576) : Ev (fun k => spec_SetOk.f k l) (setOkB (l.map pr)) := by
  have := spec_SetOk_l0 l hl l.length 0 0 (by omega) (fun _ => rfl) (fun h => by omega)
  unfold setOkB
  rw [List.length_map]
  exact this

theorem okL_append : ∀ (l : List (Int × Int)) (b : Int) (q q2 : Int × Int), okL b (l ++ [q]) = true → q.2 + 1 < q2.1 → 1 ≤ q2.1 → q2.1 ≤ q2.2 → q2.2 ≤ 9999 → okL b (l ++ [q] ++ [q2]) = true
  | [], b, q, q2, h, h1, h2, h3, h4 => by
    simp only [List.nil_append, List.cons_append, okL, Bool.and_eq_true, decide_eq_true_eq, and_true] at h ⊢
    omega
  | p :: l, b, q, q2, h, h1, h2, h3, h4 => by
    simp only [List.cons_append, okL, Bool.and_eq_true, decide_eq_true_eq] at h ⊢
    exact ⟨h.1, okL_append l _ q q2 h.2 h1 h2 h3 h4⟩
theorem okL_stretch : ∀ (l : List (Int × Int)) (b x y z : Int), okL b (l ++ [(x, y)]) = true → y ≤ z → z ≤ 9999 → okL b (l ++ [(x, z)]) = true
  | [], b, x, y, z, h, h1, h2 => by
    simp only [List.nil_append, okL, Bool.and_eq_true, decide_eq_true_eq, and_true] at h ⊢
    omega
  | p :: l, b, x, y, z, h, h1, h2 => by
    simp only [List.cons_append, okL, Bool.and_eq_true, decide_eq_true_eq] at h ⊢
    exact ⟨h.1, okL_stretch l _ x y z h.2 h1 h2⟩
theorem rd_last (ys : List S40) (x : S40) : rd_T40 (ys ++ [x]) (((ys ++ [x]).length : Int) - 1) = x := by
  rw [List.length_append, List.length_singleton]
  have e : ((ys.length + 1 : Nat) : Int) - 1 = (ys.length : Int) := by omega
  rw [e]
  unfold rd_T40
  rw [Int.toNat_natCast, List.getD_eq_getElem?_getD, List.getElem?_concat_length]; rfl
theorem set_last (ys : List S40) (x y : S40) : (ys ++ [x]).set (((ys ++ [x]).length : Int) - 1).toNat y = ys ++ [y] := by
  rw [List.length_append, List.length_singleton]
  have e : (((ys.length + 1 : Nat) : Int) - 1).toNat = ys.length := by omega
  rw [e, List.set_append_right _ _ (Nat.le_refl _), Nat.sub_self]; rfl
/-- one number more -/
def step (p : Int → Bool) (xs : List S40) (n : Int) : List S40 :=
  if p n = true then (if 0 < xs.length ∧ (rd_T40 xs ((xs.length : Int) - 1)).f1 = n - 1 then xs.set ((xs.length : Int) - 1).toNat ⟨(rd_T40 xs ((xs.length : Int) - 1)).f0, n⟩ else xs ++ [⟨n, n⟩]) else xs
def fin (p : Int → Bool) : Nat → List S40 → Int → List S40
  | 0, xs, _ => xs
  | d + 1, xs, n => fin p d (step p xs n) (n + 1)
theorem step_len (p : Int → Bool) (xs : List S40) (n : Int) : (step p xs n).length ≤ xs.length + 1 := by
  unfold step
  split
  · split
    · rw [List.length_set]; omega
    · rw [List.length_append]; simp
  · omega
theorem fin_len (p : Int → Bool) : ∀ d xs n, (fin p d xs n).length ≤ xs.length + d
  | 0, xs, n => by simp [fin]
  | d + 1, xs, n => by
    have h1 := fin_len p d (step p xs n) (n + 1)
    have h2 := step_len p xs n
    simp only [fin]
    omega
theorem impl_setOf_l0 (p : Int → Bool) : ∀ (d : Nat) (xs : List S40) (n : Int), n + d = 10000 → 1 ≤ n → xs.length ≤ n → Ev (fun k => impl_setOf.l0 k ⟨p, 0, #[]⟩ xs n) (fin p d xs n, decide ((fin p d xs n).length ≤ 40)) := by
  intro d
  induction d with
  | zero =>
    intro xs n hn h1 hl
    refine Ev.step (impl_setOf.l0.eq_2 _ xs n) (Ev.no (by omega) (Ev.const ?_))
    simp only [fin]
    congr 2
    exact decide_eq_decide.2 (by omega)
  | succ d ih =>
    intro xs n hn h1 hl
    have hs := step_len p xs n
    have hr := ih (step p xs n) (n + 1) (by omega) (by omega) (by omega)
    refine Ev.step (impl_setOf.l0.eq_2 _ xs n) (Ev.yes (by omega) (Ev.bindc (show PVcall.f ⟨p, 0, #[]⟩ n = some (p n) from rfl) ?_))
    have w1 : wrap64 ((xs.length : Int) - 1) = (xs.length : Int) - 1 := w64 (by omega) (by omega)
    have w2 : wrap64 (n - 1) = n - 1 := w64 (by omega) (by omega)
    have w3 : wrap64 (n + 1) = n + 1 := w64 (by omega) (by omega)
    rw [w1, w2, w3]
    clear w1 w2 w3
    change Ev _ (fin p d (step p xs n) (n + 1), decide ((fin p d (step p xs n) (n + 1)).length ≤ 40))
    generalize hz : step p xs n = z at hr ⊢
    unfold step at hz
    refine Ev.ite (fun hp => ?_) (fun hp => ?_)
    · rw [if_pos hp] at hz
      refine Ev.ite (fun h0 => ?_) (fun h0 => ?_)
      · refine Ev.yes (by omega) (Ev.yes (by omega) (Ev.ite (fun h2 => ?_) (fun h2 => ?_)))
        · rw [if_pos ⟨by omega, h2⟩] at hz
          rw [hz]; exact hr
        · rw [if_neg (fun h => h2 h.2)] at hz
          rw [hz]; exact Ev.yes (by omega) hr
      · rw [if_neg (fun h => h0 (by omega))] at hz
        rw [hz]; exact Ev.yes (by omega) hr
    · rw [if_neg hp] at hz
      rw [hz]; exact hr
theorem impl_setOf_ev (p : Int → Bool) : Ev (fun k => impl_setOf.f k ⟨p, 0, #[]⟩) (fin p 9999 [] 1, decide ((fin p 9999 [] 1).length ≤ 40)) := impl_setOf_l0 p 9999 [] 1 (by omega) (by omega) (by simp)
/-- what is told ahead of n -/
def Inv (p : Int → Bool) (xs : List S40) (n : Int) : Prop :=
  (xs = [] ∧ p (n - 1) = false) ∨ ∃ (ys : List S40) (a b : Int), xs = ys ++ [⟨a, b⟩] ∧ okL 0 ((ys.map pr) ++ [(a, b)]) = true ∧ b ≤ n - 1 ∧ p (n - 1) = decide (b = n - 1)
theorem Inv_step (p : Int → Bool) (xs : List S40) (n : Int) (h : Inv p xs n) (h1 : 1 ≤ n) (h2 : n ≤ 9999) : Inv p (step p xs n) (n + 1) := by
  have e : n + 1 - 1 = n := by omega
  unfold Inv
  rw [e]
  rcases h with ⟨rfl, h⟩ | ⟨ys, a, b, rfl, hok, hb, hp⟩
  · unfold step
    by_cases hn : p n = true
    · rw [if_pos hn, if_neg (by simp)]
      exact .inr ⟨[], n, n, rfl, by simp [okL]; omega, by omega, by simp [hn]⟩
    · rw [if_neg hn]
      exact .inl ⟨rfl, by simpa using hn⟩
  · unfold step
    by_cases hn : p n = true
    · rw [if_pos hn, rd_last, set_last]
      by_cases hc : b = n - 1
      · rw [if_pos ⟨by simp, hc⟩]
        exact .inr ⟨ys, a, n, rfl, okL_stretch _ 0 a b n hok (by omega) h2, by omega, by simp [hn]⟩
      · rw [if_neg (fun h => hc h.2)]
        refine .inr ⟨ys ++ [⟨a, b⟩], n, n, rfl, ?_, by omega, by simp [hn]⟩
        rw [List.map_append]
        exact okL_append _ 0 (a, b) (n, n) hok (by show b + 1 < n; omega) h1 (Int.le_refl _) h2
    · rw [if_neg hn]
      refine .inr ⟨ys, a, b, rfl, hok, by omega, ?_⟩
      have : ¬ b = n := by omega
      simp [this, hn]
theorem Inv_ok {p : Int → Bool} {xs : List S40} {n : Int} (h : Inv p xs n) : setOkB (xs.map pr) = decide (xs.length ≤ 40) := by
  unfold setOkB
  have : okL 0 (xs.map pr) = true := by
    rcases h with ⟨rfl, _⟩ | ⟨ys, a, b, rfl, hok, _, _⟩
    · rfl
    · rw [List.map_append]; exact hok
  rw [this, Bool.true_and, List.length_map]
  exact decide_eq_decide.2 (by omega)
theorem spec_l05Set_l0 (p : Int → Bool) (bits : List Bool) (hb : bits.length = 10001) (hp : ∀ i : Int, 0 ≤ i → i ≤ 9999 → rdOf false bits i = p i) :
    ∀ (d : Nat) (xs : List S40) (n : Int), n + d = 10000 → 1 ≤ n → xs.length ≤ n → Inv p xs n →
      Ev (fun k => spec_l05Set.l0 k bits xs n) (if (fin p d xs n).length ≤ 40 then (fin p d xs n, true) else ([], false)) := by
  intro d
  induction d with
  | zero =>
    intro xs n hn h1 hl hi
    refine Ev.step (spec_l05Set.l0.eq_2 bits xs n) (Ev.no (by omega) ?_)
    have hok := spec_SetOk_ev xs (by omega)
    rw [Inv_ok hi] at hok
    refine Ev.bind hok ?_
    change Ev _ (if xs.length ≤ 40 then (xs, true) else ([], false))
    by_cases h40 : xs.length ≤ 40
    · rw [if_pos h40]; exact Ev.yes (by simpa using h40) (Ev.now _)
    · rw [if_neg h40]; exact Ev.no (by simpa using h40) (Ev.now _)
  | succ d ih =>
    intro xs n hn h1 hl hi
    have hs := step_len p xs n
    have hr := ih (step p xs n) (n + 1) (by omega) (by omega) (by omega) (Inv_step p xs n hi h1 (by omega))
    refine Ev.step (spec_l05Set.l0.eq_2 bits xs n) (Ev.yes (by omega) (Ev.yes (by omega) (Ev.yes (by omega) ?_)))
    have w2 : wrap64 (n - 1) = n - 1 := w64 (by omega) (by omega)
    have w3 : wrap64 (n + 1) = n + 1 := w64 (by omega) (by omega)
    rw [w2, w3, hp n (by omega) (by omega), hp (n - 1) (by omega) (by omega)]
    clear w2 w3
    change Ev _ (if (fin p d (step p xs n) (n + 1)).length ≤ 40 then (fin p d (step p xs n) (n + 1), true) else ([], false))
    generalize hz : step p xs n = z at hr ⊢
    unfold step at hz
    refine Ev.ite (fun hpn => ?_) (fun hpn => ?_)
    · rw [if_pos hpn] at hz
      refine Ev.yes (by omega) (Ev.yes (by omega) ?_)
      refine Ev.ite (fun h => ?_) (fun h => ?_)
      · rcases hi with ⟨rfl, h3⟩ | ⟨ys, a, b, rfl, hok, hbn, h3⟩
        · rw [h3] at h; cases h
        · rw [h3] at h
          have hbe : b = n - 1 := by simpa using h
          have hlen : 0 < (ys ++ [(⟨a, b⟩ : S40)]).length := by simp
          have w1 : wrap64 (((ys ++ [(⟨a, b⟩ : S40)]).length : Int) - 1) = ((ys ++ [(⟨a, b⟩ : S40)]).length : Int) - 1 := w64 (by omega) (by omega)
          rw [w1]
          clear w1
          rw [rd_last, if_pos ⟨hlen, hbe⟩] at hz
          refine Ev.yes (by omega) (Ev.yes (by omega) ?_)
          rw [rd_last, hz]
          exact hr
      · have hz2 : xs ++ [(⟨n, n⟩ : S40)] = z := by
          rw [if_neg] at hz
          · exact hz
          · rintro ⟨h4, h5⟩
            rcases hi with ⟨rfl, h3⟩ | ⟨ys, a, b, rfl, hok, hbn, h3⟩
            · simp at h4
            · rw [rd_last] at h5
              rw [h3] at h
              exact h (by simpa using h5)
        refine Ev.yes (by omega) (Ev.bindc rfl ?_)
        have hlen : (xs ++ [(⟨n, 0⟩ : S40)]).length = xs.length + 1 := by simp
        have w1 : wrap64 (((xs ++ [(⟨n, 0⟩ : S40)]).length : Int) - 1) = ((xs ++ [(⟨n, 0⟩ : S40)]).length : Int) - 1 := w64 (by omega) (by omega)
        rw [w1]
        clear w1
        refine Ev.yes (by omega) (Ev.yes (by omega) ?_)
        rw [rd_last, set_last, hz2]
        exact hr
    · rw [if_neg hpn] at hz
      rw [hz]; exact hr
theorem spec_l05Set_ev (p : Int → Bool) (bits : List Bool) (hb : bits.length = 10001) (hp : ∀ i : Int, 0 ≤ i → i ≤ 9999 → rdOf false bits i = p i) (h0 : p 0 = false) :
    Ev (fun k => spec_l05Set.f k bits) (if (fin p 9999 [] 1).length ≤ 40 then (fin p 9999 [] 1, true) else ([], false)) :=
  spec_l05Set_l0 p bits hb hp 9999 [] 1 (by omega) (by omega) (by simp) (.inl ⟨rfl, h0⟩)

/-! a set's text read -/
theorem dv_lt : ∀ (l : List Nat) (n k : Nat), digitsB l = true → n < 10 ^ k → dv n l < 10 ^ (k + l.length)
  | [], n, k, _, h => h
  | c :: l, n, k, hd, h => by
    have hd' : decide (48 ≤ c ∧ c ≤ 57) = true ∧ digitsB l = true := by
      simp only [digitsB, List.all_cons, Bool.and_eq_true] at hd ⊢; exact hd
    have hc := of_decide_eq_true hd'.1
    rw [dv_cons, List.length_cons, show k + (l.length + 1) = (k + 1) + l.length by omega]
    exact dv_lt l _ (k + 1) hd'.2 (by rw [Nat.pow_succ]; omega)
theorem uid_range {last : Int} {l : List Nat} {a : Int} (hl : 1 ≤ last ∧ last ≤ 9999) (h : uid last l = some a) : 1 ≤ a ∧ a ≤ 9999 := by
  unfold uid at h
  split at h
  · rw [← Option.some.inj h]; exact hl
  · split at h
    · rename_i hc
      have h1 := dv_lt l 0 0 hc.2.1 (by decide)
      have h2 : 10 ^ (0 + l.length) ≤ 10 ^ 4 := Nat.pow_le_pow_right (by omega) (by omega)
      have h3 : (10 : Nat) ^ 4 = 10000 := by decide
      rw [← Option.some.inj h]
      omega
    · cases h
theorem part_range {last : Int} {l : List Nat} {p : Int × Int} (hl : 1 ≤ last ∧ last ≤ 9999) (h : partP last l = some p) : 1 ≤ p.1 ∧ p.1 ≤ p.2 ∧ p.2 ≤ 9999 := by
  unfold partP at h
  split at h
  · obtain ⟨a, ha, rfl⟩ := Option.map_eq_some_iff.1 h
    have := uid_range hl ha
    exact ⟨this.1, Int.le_refl _, this.2⟩
  · obtain ⟨a, ha, h⟩ := Option.bind_eq_some_iff.1 h
    obtain ⟨b, hb, rfl⟩ := Option.map_eq_some_iff.1 h
    have h1 := uid_range hl ha
    have h2 := uid_range hl hb
    split <;> (simp only; omega)
/-- what is told of a list of ranges -/
def setR (xs : List S40) : List S40 × Bool := if (fin (impl_ReadSet_1.holds xs) 9999 [] 1).length ≤ 40 then (fin (impl_ReadSet_1.holds xs) 9999 [] 1, true) else ([], false)
def setRes (last : Int) : List (List Nat) → List S40 → List S40 × Bool
  | [], xs => setR xs
  | w :: ws, xs => match partP last w with
    | none => ([], false)
    | some p => setRes last ws (xs ++ [⟨p.1, p.2⟩])
theorem impl_tail (k0 : Unit) (xs : List S40) (h : xs.length ≤ 1048576) : Ev (fun k => (impl_ReadSet_1.f k xs).bind fun bt127 => (if bt127.2 = true then (some (bt127.1, true)) else (some (([] : List S40), false)))) (setR xs) := by
  have h1 : Ev (fun k => impl_ReadSet_1.f k xs) (fin (impl_ReadSet_1.holds xs) 9999 [] 1, decide ((fin (impl_ReadSet_1.holds xs) 9999 [] 1).length ≤ 40)) := Ev.yes h (impl_setOf_ev _)
  unfold setR
  generalize fin (impl_ReadSet_1.holds xs) 9999 [] 1 = q at h1 ⊢
  refine Ev.bind h1 ?_
  by_cases hc : q.length ≤ 40
  · rw [if_pos hc]; exact Ev.yes (decide_eq_true hc) (Ev.now _)
  · rw [if_neg hc]; exact Ev.no (fun e => hc (of_decide_eq_true e)) (Ev.now _)
theorem mnmx (a b : Int) : (if a > b then (b, a) else (a, b)) = (mn a b, mx a b) := by
  unfold mn mx
  by_cases h : a > b
  · rw [if_pos h]; congr 1 <;> (split <;> omega)
  · rw [if_neg h]; congr 1 <;> (split <;> omega)
theorem impl_ReadSet_l0 (last : Int) (sp : List ByteArray) (hsp : sp.length ≤ 1048577) (hz : ∀ t ∈ sp, t.size ≤ 1048576) : ∀ (d j : Nat) (xs : List S40), j + d = sp.length → xs.length + d ≤ 1048577 → (xs.length + d ≤ 1048576 ∨ (0 < d ∧ ∃ h : j < sp.length, bs sp[j] = [])) →
    Ev (fun k => impl_ReadSet.l0 k last sp (sp.length : Int) (j : Int) xs) (setRes last ((sp.drop j).map bs) xs) := by
  intro d
  induction d with
  | zero =>
    intro j xs hj hx hx2
    rw [List.drop_of_length_le (by omega)]
    exact Ev.step (impl_ReadSet.l0.eq_2 last sp sp.length j xs) (Ev.no (by omega) (impl_tail () xs (by omega)))
  | succ d ih =>
    intro j xs hj hx hx2
    have hjl : j < sp.length := by omega
    have hrd : rdOf ByteArray.empty sp (j : Int) = sp[j] := by
      unfold rdOf
      rw [Int.toNat_natCast, List.getD_eq_getElem?_getD, List.getElem?_eq_getElem hjl]; rfl
    have hts := hz _ (List.getElem_mem hjl)
    obtain ⟨f, s, b, hcut, hcs, hf, hs⟩ := cut_eq sp[j] (by omega)
    obtain ⟨a, ea, ha⟩ := impl_readUid_ev f last (by omega)
    rw [List.drop_eq_getElem_cons hjl, List.map_cons, setRes]
    have empty_none : bs sp[j] = [] → partP last (bs sp[j]) = none := fun e => by
      rw [e]; unfold partP cutN uid; simp
    have nxt : ∀ x : S40, partP last (bs sp[j]) = some (x.f0, x.f1) → Ev (fun k => impl_ReadSet.l0 k last sp (sp.length : Int) ((j + 1 : Nat) : Int) (xs ++ [x])) (setRes last ((sp.drop (j + 1)).map bs) (xs ++ [x])) := fun x hx3 =>
      ih (j + 1) (xs ++ [x]) (by omega) (by simp; omega) (by
        rcases hx2 with h | ⟨_, h1, h2⟩
        · left; simp; omega
        · rw [empty_none h2] at hx3; cases hx3)
    refine Ev.step (impl_ReadSet.l0.eq_2 last sp sp.length j xs) (Ev.yes (by omega) (Ev.yes (by omega) (Ev.yes (by omega) ?_)))
    rw [hrd, uid_next j (by omega)]
    refine Ev.bindc hcut (Ev.bind ea ?_)
    rcases hcs with ⟨hc, rfl⟩ | ⟨hc, rfl⟩
    · have hpart : partP last (bs sp[j]) = (uid last (bs f)).map fun a => (a, a) := by unfold partP; rw [hc]
      refine Ev.no (show ¬ (false = true) by decide) ?_
      cases hu : uid last (bs f) with
      | none =>
        rw [hpart, hu]
        exact Ev.no (by rw [ha.2 hu]; decide) (Ev.now _)
      | some x =>
        obtain rfl := ha.1 x hu
        rw [hu] at hpart
        rw [hpart]
        have e : (mn x x, mx x x) = (x, x) := by rw [← mnmx, if_neg (by omega)]
        first
          | exact Ev.yes rfl (Ev.yes (by omega) (nxt ⟨x, x⟩ hpart))
          | (rw [(Prod.mk.inj e).1, (Prod.mk.inj e).2]; exact Ev.yes rfl (Ev.yes (by omega) (nxt ⟨x, x⟩ hpart)))
    · have hpart : partP last (bs sp[j]) = (uid last (bs f)).bind fun a => (uid last (bs s)).map fun b => if a > b then (b, a) else (a, b) := by unfold partP; rw [hc]
      obtain ⟨c, ec, hcU⟩ := impl_readUid_ev s last (by omega)
      refine Ev.yes rfl (Ev.bind ec ?_)
      cases hu : uid last (bs f) with
      | none =>
        rw [hpart, hu]
        exact Ev.no (by rw [ha.2 hu]; decide) (Ev.now _)
      | some x =>
        obtain rfl := ha.1 x hu
        refine Ev.yes rfl ?_
        cases hu2 : uid last (bs s) with
        | none =>
          rw [hpart, hu, hu2]
          exact Ev.no (by rw [hcU.2 hu2]; decide) (Ev.now _)
        | some y =>
          obtain rfl := hcU.1 y hu2
          rw [hu, hu2] at hpart
          have hpart' : partP last (bs sp[j]) = some (mn x y, mx x y) := by rw [hpart, ← mnmx]; rfl
          rw [hpart']
          exact Ev.yes rfl (Ev.yes (by omega) (nxt ⟨mn x y, mx x y⟩ hpart'))
theorem pieces_long (c : Nat) : ∀ l : List Nat, (pieces c l).length = l.length + 1 → ∃ t, pieces c l = [] :: t
  | [], _ => ⟨[], rfl⟩
  | b :: l, h => by
    obtain ⟨x, t, e1, e2⟩ := pieces_cons c b l
    by_cases hb : b = c
    · exact ⟨x :: t, by rw [e2, if_pos hb]⟩
    · have := pieces_len c l
      rw [e1] at this
      rw [e2, if_neg hb] at h
      simp only [List.length_cons] at h this
      omega
theorem pieces_less (c : Nat) : ∀ (l : List Nat) (p : List Nat), p ∈ pieces c l → p.length ≤ l.length
  | [], p, h => by
    have : p = [] := by simpa [pieces] using h
    subst this; exact Nat.le_refl _
  | b :: l, p, h => by
    obtain ⟨x, t, e1, e2⟩ := pieces_cons c b l
    have ih := pieces_less c l
    rw [e1] at ih
    rw [e2] at h
    split at h
    · rcases List.mem_cons.1 h with rfl | h
      · exact Nat.zero_le _
      · have := ih p h; simp; omega
    · rcases List.mem_cons.1 h with rfl | h
      · have := ih x List.mem_cons_self; simp; omega
      · have := ih p (List.mem_cons_of_mem _ h); simp; omega

/-! the reference's reading -/
def piecesC (cur l : List Nat) : List (List Nat) := match pieces 44 l with
  | [] => [cur]
  | h :: t => (cur ++ h) :: t
theorem piecesC_nil (cur : List Nat) : piecesC cur [] = [cur] := by unfold piecesC; simp [pieces]
theorem piecesC_hit (cur l : List Nat) : piecesC cur (44 :: l) = cur :: piecesC [] l := by
  obtain ⟨h, t, e1, e2⟩ := pieces_cons 44 44 l
  unfold piecesC
  rw [e2, if_pos rfl, e1]; simp
theorem piecesC_next (cur l : List Nat) (c : Nat) (hc : c ≠ 44) : piecesC cur (c :: l) = piecesC (cur ++ [c]) l := by
  obtain ⟨h, t, e1, e2⟩ := pieces_cons 44 c l
  unfold piecesC
  rw [e2, if_neg hc, e1]; simp
theorem piecesC_start (l : List Nat) : piecesC [] l = pieces 44 l := by
  unfold piecesC
  cases e : pieces 44 l with
  | nil => exact absurd e (pieces_ne 44 l)
  | cons h t => rfl
/-- the bits are the list's -/
def BitsOk (bits : List Bool) (xs : List S40) : Prop := bits.length = 10001 ∧ (∀ i : Int, 0 ≤ i → i ≤ 9999 → rdOf false bits i = impl_ReadSet_1.holds xs i) ∧ impl_ReadSet_1.holds xs 0 = false
theorem holds_snoc (xs : List S40) (a b n : Int) : impl_ReadSet_1.holds (xs ++ [⟨a, b⟩]) n = (impl_ReadSet_1.holds xs n || decide (a ≤ n ∧ n ≤ b)) := by
  unfold impl_ReadSet_1.holds hasL
  rw [List.map_append, List.any_append]
  simp [impl_ReadSet_1.pr]
theorem rdb_set' (xs : List Bool) (n : Int) (h0 : 0 ≤ n) (h1 : n < (xs.length : Int)) (i : Int) (hi : 0 ≤ i) : rdOf false (xs.set n.toNat true) i = (rdOf false xs i || decide (i = n)) := by
  unfold rdOf
  rw [List.getD_eq_getElem?_getD, List.getD_eq_getElem?_getD, List.getElem?_set]
  by_cases h : i = n
  · subst h
    rw [if_pos rfl, if_pos (by omega), decide_eq_true rfl, Bool.or_true]; rfl
  · rw [if_neg (show ¬ n.toNat = i.toNat by omega), decide_eq_false h, Bool.or_false]
theorem spec_ReadSet_l1 (t : ByteArray) (last : Int) (none_ : List S40) (x9 hi_ : Int) (hh : hi_ ≤ 9999) : ∀ (d : Nat) (bits : List Bool) (n : Int), n + d = hi_ + 1 → 0 ≤ n → bits.length = 10001 →
    ∃ bits' : List Bool, bits'.length = 10001 ∧ (∀ i : Int, 0 ≤ i → rdOf false bits' i = (rdOf false bits i || decide (n ≤ i ∧ i ≤ hi_))) ∧
      ∀ R, Ev (fun k => spec_ReadSet.l0 k t last none_ bits' (wrap64 (x9 + 1)) (wrap64 (x9 + 1))) R → Ev (fun k => spec_ReadSet.l1 k t last none_ bits x9 hi_ n) R := by
  intro d
  induction d with
  | zero =>
    intro bits n hn h0 hb
    refine ⟨bits, hb, fun i hi => ?_, fun R hR => Ev.step (spec_ReadSet.l1.eq_2 t last none_ bits x9 hi_ n) (Ev.no (by omega) hR)⟩
    rw [decide_eq_false (by omega), Bool.or_false]
  | succ d ih =>
    intro bits n hn h0 hb
    obtain ⟨bits', b1, b2, b3⟩ := ih (bits.set n.toNat true) (n + 1) (by omega) (by omega) (by rw [List.length_set]; exact hb)
    refine ⟨bits', b1, fun i hi => ?_, fun R hR => Ev.step (spec_ReadSet.l1.eq_2 t last none_ bits x9 hi_ n) (Ev.yes (by omega) (Ev.yes h0 (Ev.yes (by omega) ?_)))⟩
    · rw [b2 i hi, rdb_set' bits n h0 (by omega) i hi, Bool.or_assoc, ← Bool.decide_or]
      congr 1
      exact decide_eq_decide.2 (by omega)
    · rw [w64 (x := n + 1) (by omega) (by omega)]
      exact b3 R hR
theorem spec_ReadSet_l0 (t : ByteArray) (ht : t.size ≤ 140737488351232) (last : Int) (hl : 1 ≤ last ∧ last ≤ 9999) : ∀ (d i b : Nat) (xs : List S40) (bits : List Bool), i + d = t.size → b ≤ i → BitsOk bits xs →
    Ev (fun k => spec_ReadSet.l0 k t last [] bits (b : Int) (i : Int)) (setRes last (piecesC (((bs t).drop b).take (i - b)) ((bs t).drop i)) xs) := by
  have hlen : (bs t).length = t.size := bs_length t
  have word : ∀ (b i : Nat) (ws : List (List Nat)) (xs : List S40) (bits : List Bool), b ≤ i → i ≤ t.size → BitsOk bits xs →
      (∀ xs' bits', BitsOk bits' xs' → Ev (fun k => spec_ReadSet.l0 k t last [] bits' ((i + 1 : Nat) : Int) ((i + 1 : Nat) : Int)) (setRes last ws xs')) →
      Ev (fun k => spec_ReadSet.j1 k t last [] bits (b : Int) (i : Int) false) (setRes last ((((bs t).drop b).take (i - b)) :: ws) xs) := fun b i ws xs bits hb hi hB hR => by
    obtain ⟨r, er, hr⟩ := spec_l05Part_ev (t.extract b i) (by rw [size_extract _ _ _ hi]; omega) last
    rw [bs_extract] at hr
    refine Ev.step (spec_ReadSet.j1.eq_2 t last [] bits b i false) (Ev.no (by simp) (Ev.yes (by omega) (Ev.yes (by omega) (Ev.yes (by omega) (Ev.bind er ?_)))))
    rw [setRes]
    cases hp : partP last (((bs t).drop b).take (i - b)) with
    | none => exact Ev.no (by rw [hr.2 hp]; decide) (Ev.now _)
    | some p =>
      obtain rfl := hr.1 p hp
      have hpr := part_range hl hp
      refine Ev.yes rfl ?_
      obtain ⟨bits', b1, b2, b3⟩ := spec_ReadSet_l1 t last [] i p.2 hpr.2.2 (p.2 + 1 - p.1).toNat bits p.1 (by omega) (by omega) hB.1
      refine b3 _ ?_
      rw [uid_next i (by omega)]
      refine hR _ _ ⟨b1, fun j h0 h1 => ?_, ?_⟩
      · rw [b2 j h0, hB.2.1 j h0 h1, holds_snoc]
      · rw [holds_snoc, hB.2.2, decide_eq_false (by omega)]; rfl
  intro d
  induction d with
  | zero =>
    intro i b xs bits hi hb hB
    rw [List.drop_of_length_le (show (bs t).length ≤ i by omega), piecesC_nil]
    refine Ev.step (spec_ReadSet.l0.eq_2 t last [] bits b i) (Ev.yes (by omega) (Ev.no (by omega) ?_))
    refine word b i [] xs bits hb (by omega) hB (fun xs' bits' hB' => ?_)
    refine Ev.step (spec_ReadSet.l0.eq_2 t last [] bits' _ _) (Ev.no (by omega) ?_)
    have h1 := spec_l05Set_ev (impl_ReadSet_1.holds xs') bits' hB'.1 hB'.2.1 hB'.2.2
    show Ev _ (setR xs')
    unfold setR
    generalize fin (impl_ReadSet_1.holds xs') 9999 [] 1 = q at h1 ⊢
    exact Ev.bind h1 (Ev.now _)
  | succ d ih =>
    intro i b xs bits hi hb hB
    have hil : i < (bs t).length := by omega
    have hb2 := bt_eq hil
    have htake : ((bs t).drop b).take (i + 1 - b) = ((bs t).drop b).take (i - b) ++ [(bs t)[i]] := by
      rw [show i + 1 - b = (i - b) + 1 by omega, List.take_succ_eq_append_getElem (by rw [List.length_drop]; omega)]
      congr 2
      rw [List.getElem_drop]; congr 1; omega
    rw [List.drop_eq_getElem_cons hil]
    refine Ev.step (spec_ReadSet.l0.eq_2 t last [] bits b i) (Ev.yes (by omega) (Ev.yes (by omega) (Ev.yes (by omega) ?_)))
    rw [hb2]
    by_cases hc : (bs t)[i] = 44
    · have e : ((((bs t)[i] : Nat) : Int) != 44) = false := by rw [hc]; rfl
      rw [e, hc, piecesC_hit]
      refine word b i _ xs bits hb (by omega) hB (fun xs' bits' hB' => ?_)
      have := ih (i + 1) (i + 1) xs' bits' (by omega) (Nat.le_refl _) hB'
      rw [Nat.sub_self, List.take_zero] at this
      exact this
    · have e : ((((bs t)[i] : Nat) : Int) != 44) = true := bne_iff_ne.mpr (by omega)
      rw [e, piecesC_next _ _ _ hc]
      have := ih (i + 1) b xs bits (by omega) (by omega) hB
      rw [htake] at this
      refine Ev.step (spec_ReadSet.j1.eq_2 t last [] bits b i true) (Ev.yes rfl ?_)
      rw [uid_next i (by omega)]
      exact this
def setRead (last : Int) (l : List Nat) : List S40 × Bool := if 1 ≤ last ∧ last ≤ 9999 then setRes last (pieces 44 l) [] else ([], false)
theorem rep_false (i : Int) : rdOf false (List.replicate 10001 false) i = false := by
  unfold rdOf
  rw [List.getD_eq_getElem?_getD, List.getElem?_replicate]
  split <;> rfl
theorem spec_ReadSet_ev (t : ByteArray) (ht : t.size ≤ 140737488351232) (last : Int) : Ev (fun k => spec_ReadSet.f k t last) (setRead last (bs t)) := by
  unfold spec_ReadSet.f setRead
  refine Ev.bindc rfl (Ev.bindc (spec_l01In_ev last 1 9999) ?_)
  by_cases h : 1 ≤ last ∧ last ≤ 9999
  · rw [if_pos h]
    refine Ev.yes (decide_eq_true h) (Ev.yes (by decide) ?_)
    have := spec_ReadSet_l0 t ht last h t.size 0 0 [] (List.replicate 10001 false) (by omega) (Nat.le_refl _) ⟨List.length_replicate, fun i _ _ => rep_false i, rfl⟩
    rw [List.drop_zero, Nat.sub_zero, List.take_zero, piecesC_start] at this
    exact this
  · rw [if_neg h]
    exact Ev.no (fun e => h (of_decide_eq_true e)) (Ev.now _)
theorem impl_ReadSet_ev (t : ByteArray) (ht : t.size ≤ 1048576) (last : Int) : Ev (fun k => impl_ReadSet.f k t last) (setRead last (bs t)) := by
  have hu : impl_isUid.f last = some (decide (1 ≤ last ∧ last ≤ 9999)) := by unfold impl_isUid.f; rw [impl_within_ev]; rfl
  unfold impl_ReadSet.f setRead
  refine Ev.bindc hu ?_
  by_cases h : 1 ≤ last ∧ last ≤ 9999
  · rw [if_pos h]
    refine Ev.yes (decide_eq_true h) ?_
    have hsp := split_pieces 44 t.size t (Nat.le_refl _)
    have hl := pieces_len 44 (bs t)
    have hlen := bs_length t
    generalize hg : Lib.splitB ⟨#[44]⟩ 0 (Lib.countB t ⟨#[44]⟩) t = sp at hsp
    have hsp' : sp.map bs = pieces 44 (bs t) := hsp
    have hlp : sp.length = (pieces 44 (bs t)).length := by rw [← hsp', List.length_map]
    have hf : strings_Split.f t (⟨#[44]⟩ : ByteArray) = some sp := by
      unfold strings_Split.f
      rw [hg, if_pos ⟨by omega, Nat.le_refl _, by omega⟩]
    have hz : ∀ s ∈ sp, s.size ≤ 1048576 := fun s hs => by
      have := pieces_less 44 (bs t) (bs s) (hsp' ▸ List.mem_map_of_mem hs)
      rw [bs_length] at this
      omega
    refine Ev.bindc hf ?_
    have hside : ([] : List S40).length + sp.length ≤ 1048576 ∨ (0 < sp.length ∧ ∃ h : 0 < sp.length, bs sp[0] = []) := by
      by_cases hb : sp.length ≤ 1048576
      · left; simpa using hb
      · right
        obtain ⟨r, hr⟩ := pieces_long 44 (bs t) (by omega)
        rw [hr] at hsp'
        have h0 : 0 < sp.length := by omega
        refine ⟨h0, h0, ?_⟩
        have := congrArg (fun l => l[0]?) hsp'
        simp only [List.getElem?_map, List.getElem?_eq_getElem h0, Option.map_some, List.getElem?_cons_zero] at this
        exact Option.some.inj this
    have := impl_ReadSet_l0 last sp (by omega) hz sp.length 0 [] (by omega) (by simp; omega) hside
    rw [List.drop_zero, hsp'] at this
    exact this
  · rw [if_neg h]
    exact Ev.no (fun e => h (of_decide_eq_true e)) (Ev.now _)
theorem setRes_len (last : Int) : ∀ (ws : List (List Nat)) (xs : List S40), (setRes last ws xs).1.length ≤ 40
  | [], xs => by
    show (setR xs).1.length ≤ 40
    unfold setR
    generalize fin (impl_ReadSet_1.holds xs) 9999 [] 1 = q
    by_cases h : q.length ≤ 40
    · rw [if_pos h]; exact h
    · rw [if_neg h]; exact Nat.zero_le _
  | w :: ws, xs => by
    rw [setRes]
    split
    · exact Nat.zero_le _
    · exact setRes_len last ws _
theorem setRead_len (last : Int) (l : List Nat) : (setRead last l).1.length ≤ 40 := by
  unfold setRead
  split
  · exact setRes_len last _ _
  · exact Nat.zero_le _

theorem rdr_set (xs : List S40) (i : Nat) (v : S40) (h : i < xs.length) : rd_T40 (xs.set i v) (i : Int) = v := by
  unfold rd_T40
  rw [Int.toNat_natCast, List.getD_eq_getElem?_getD, List.getElem?_set_self h]; rfl
theorem laws_markRangeS_l0 : ∀ (d i : Nat) (xs : List S40) (m : Int), i + d = xs.length → xs.length ≤ 2097152 → 0 ≤ m → m + 2 * d ≤ 1000000000000 →
    ∃ ys : List S40, Ev (fun k => laws_markRangeS.l0 k xs m (i : Int)) (m + 2 * d, ys) ∧ ys.length = xs.length ∧ ys.take i = xs.take i ∧ (∀ j, j < d → rd_T40 ys ((i + j : Nat) : Int) = ⟨m + 2 * j, m + 2 * j + 1⟩) := by
  intro d
  induction d with
  | zero =>
    intro i xs m hi hx h0 hm
    refine ⟨xs, Ev.step (laws_markRangeS.l0.eq_2 xs m (i : Int)) (Ev.no (by omega) (Ev.const ?_)), rfl, rfl, fun j hj => by omega⟩
    simp
  | succ d ih =>
    intro i xs m hi hx h0 hm
    have hlt : i < xs.length := by omega
    obtain ⟨v, hv⟩ : ∃ v : S40, v = ⟨m, m + 1⟩ := ⟨_, rfl⟩
    obtain ⟨ys, hy, hlen, htake, hall⟩ := ih (i + 1) (xs.set i v) (m + 2) (by rw [List.length_set]; omega) (by rw [List.length_set]; exact hx) (by omega) (by omega)
    rw [List.length_set] at hlen
    refine ⟨ys, Ev.step (laws_markRangeS.l0.eq_2 xs m (i : Int)) ?_, hlen, ?_, ?_⟩
    · have w1 : wrap64 (m + 1) = m + 1 := w64 (by omega) (by omega)
      have w2 : wrap64 (m + 1 + 1) = m + 2 := by rw [w64 (by omega) (by omega)]; omega
      have w4 : wrap64 ((i : Int) + 1) = ((i + 1 : Nat) : Int) := by rw [w64 (by omega) (by omega)]; omega
      rw [w1, w2, w4]
      clear w1 w2 w4
      refine Ev.yes (by omega) (Ev.yes (by omega) (Ev.bindc rfl ?_))
      simp only [Int.toNat_natCast, List.set_set, rdr_set xs i _ hlt]
      rw [← hv]
      have e : m + 2 + 2 * (d : Int) = m + 2 * ((d + 1 : Nat) : Int) := by omega
      rw [e] at hy
      exact hy
    · have h1 := congrArg (List.take i) htake
      rw [List.take_take, List.take_take, Nat.min_eq_left (by omega), List.take_set_of_le (Nat.le_refl i)] at h1
      exact h1
    · intro j hj
      cases j with
      | zero =>
        have h1 := congrArg (fun l => l[i]?) htake
        change (ys.take (i + 1))[i]? = ((xs.set i v).take (i + 1))[i]? at h1
        rw [List.getElem?_take_of_lt (by omega), List.getElem?_take_of_lt (by omega), List.getElem?_set_self hlt] at h1
        unfold rd_T40
        rw [Nat.add_zero, Int.toNat_natCast, List.getD_eq_getElem?_getD, h1, hv]
        have e0 : m + 2 * ((0 : Nat) : Int) = m := by omega
        rw [e0]; rfl
      | succ j =>
        have h1 := hall j (by omega)
        have e1 : m + 2 * ((j + 1 : Nat) : Int) = m + 2 + 2 * (j : Int) := by omega
        have e2 : i + (j + 1) = i + 1 + j := by omega
        rw [e1, e2]
        exact h1
theorem laws_heldRangeS_l0 : ∀ (d i : Nat) (ys : List S40) (m : Int), i + d = ys.length → ys.length ≤ 2097152 → 0 ≤ m → m + 2 * d ≤ 1000000000000 →
    (∀ j, j < d → rd_T40 ys ((i + j : Nat) : Int) = ⟨m + 2 * j, m + 2 * j + 1⟩) → Ev (fun k => laws_heldRangeS.l0 k ys m (i : Int)) (m + 2 * d) := by
  intro d
  induction d with
  | zero =>
    intro i ys m hi hx h0 hm hall
    refine Ev.step (laws_heldRangeS.l0.eq_2 ys m (i : Int)) (Ev.no (by omega) (Ev.const ?_))
    simp
  | succ d ih =>
    intro i ys m hi hx h0 hm hall
    have e0 := hall 0 (by omega)
    rw [Nat.add_zero] at e0
    have w1 : wrap64 (m + 1) = m + 1 := w64 (by omega) (by omega)
    have w2 : wrap64 (m + 1 + 1) = m + 2 := by rw [w64 (by omega) (by omega)]; omega
    have w4 : wrap64 ((i : Int) + 1) = ((i + 1 : Nat) : Int) := by rw [w64 (by omega) (by omega)]; omega
    refine Ev.step (laws_heldRangeS.l0.eq_2 ys m (i : Int)) ?_
    rw [w1, w2, w4, e0]
    clear w1 w2 w4
    refine Ev.yes (by omega) (Ev.yes (by omega) (Ev.yes (by simp) (Ev.yes (by simp) ?_)))
    have h := ih (i + 1) ys (m + 2) (by omega) hx (by omega) (by omega) (fun j hj => by
      have h1 := hall (j + 1) (by omega)
      have e1 : m + 2 * ((j + 1 : Nat) : Int) = m + 2 + 2 * (j : Int) := by omega
      have e2 : i + (j + 1) = i + 1 + j := by omega
      rw [e1, e2] at h1
      exact h1)
    have e : m + 2 + 2 * (d : Int) = m + 2 * ((d + 1 : Nat) : Int) := by omega
    rw [e] at h
    exact h
theorem markrange_ev (xs : List S40) (m : Int) (hx : xs.length ≤ 2097152) (h0 : 0 ≤ m) (hm : m ≤ 100000000000) :
    ∃ ys : List S40, ∃ n : Int, Ev (fun k => laws_markRangeS.f k xs m) (n, ys) ∧ Ev (fun k => laws_heldRangeS.f k ys m) n ∧ 0 ≤ n ∧ n = m + 2 * xs.length := by
  obtain ⟨ys, h1, h2, -, h3⟩ := laws_markRangeS_l0 xs.length 0 xs m (by omega) hx h0 (by omega)
  have h4 := laws_heldRangeS_l0 ys.length 0 ys m (by omega) (by omega) h0 (by omega) (fun j hj => h3 j (by omega))
  rw [h2] at h4
  exact ⟨ys, m + 2 * xs.length, h1, h4, by omega, rfl⟩

theorem FnExactReadSet : laws_FnExactReadSet.Pure := by
  intro t last ht _
  apply Ev.rounds
  unfold laws_FnExactReadSet.f
  refine Ev.ite (fun _ => Ev.now _) (fun h => ?_)
  have hsp := spec_ReadSet_ev t ht last
  have him := impl_ReadSet_ev t (by omega) last
  have hol := setRead_len last (bs t)
  generalize setRead last (bs t) = R at hsp him hol
  obtain ⟨R, q⟩ := R
  change R.length ≤ 40 at hol
  have hb : (q != q) = false := by cases q <;> rfl
  have heq := laws_eqRangeS_ev R (by omega)
  obtain ⟨us, m, g1, g2, g3, -⟩ := markrange_ev R 1 (by omega) (by omega) (by omega)
  refine Ev.bind hsp (Ev.bind him (Ev.bind heq (Ev.yes rfl ?_)))
  simp only [hb]
  refine Ev.step (laws_FnExactReadSet.j0.eq_2 _ _ _ _ _ _) (Ev.no (by simp) ?_)
  refine Ev.bind g1 (Ev.bind g2 (Ev.no (by show ¬ m < 0; omega) (Ev.yes rfl (Ev.bind him (Ev.bind heq (Ev.yes rfl ?_))))))
  simp only [hb]
  refine Ev.step (laws_FnExactReadSet.j1.eq_2 _ _ _) (Ev.no (by simp) ?_)
  exact Ev.bind g2 (Ev.no (by show ¬ m < 0; omega) (Ev.yes rfl (Ev.now _)))
end Go.Proofs.YthngecooaddddaaDoor.Pure
