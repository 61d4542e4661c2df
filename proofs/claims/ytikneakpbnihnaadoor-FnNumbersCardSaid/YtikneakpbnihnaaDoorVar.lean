/- The bytes of a number (VarText), and what is read back. Plain lists of natural numbers. -/
import Derived.Test.YtikneakpbnihnaaDoorGen
namespace Go.Proofs.YtikneakpbnihnaaDoor.Gen
open Go.RowKit Go.Proofs.YtikneakpbnihnaaDoorW.PrintWords Go.Proofs.YtikneakpbnihnaaDoorW.PrintLast Go.Proofs.YtikneakpbnihnaaDoorW.PrintMore

/-- the number's bytes: the lowest seven bits first -/
def varN (n : Nat) : List Nat := if n > 127 then (n % 128 + 128) :: varN (n / 128) else [n]
termination_by n
decreasing_by omega
theorem varN_big {n : Nat} (h : n > 127) : varN n = (n % 128 + 128) :: varN (n / 128) := by rw [varN, if_pos h]
theorem varN_small {n : Nat} (h : ¬ n > 127) : varN n = [n] := by rw [varN, if_neg h]
theorem varN_pos (n : Nat) : 1 ≤ (varN n).length := by
  rw [varN]; split <;> simp
theorem varN_lt (n : Nat) : ∀ x ∈ varN n, x < 256 := by
  induction n using Nat.strongRecOn with
  | _ n ih =>
    intro x hx
    by_cases h : n > 127
    · rw [varN_big h] at hx
      rcases List.mem_cons.1 hx with rfl | hx
      · omega
      · exact ih (n / 128) (by omega) x hx
    · rw [varN_small h] at hx
      have := List.mem_singleton.1 hx
      omega
/-- at most ten bytes: of any int -/
theorem varN_len (j : Nat) : ∀ n, n < 128 ^ (j + 1) → (varN n).length ≤ j + 1 := by
  induction j with
  | zero => intro n h; rw [varN_small (by omega)]; simp
  | succ j ih =>
    intro n h
    by_cases h1 : n > 127
    · rw [varN_big h1, List.length_cons]
      have := ih (n / 128) (by rw [Nat.div_lt_iff_lt_mul (by omega)]; rw [Nat.pow_succ] at h; exact h)
      omega
    · rw [varN_small h1]; simp
theorem varN_len5 {n : Nat} (h : n ≤ 1000000000) : (varN n).length ≤ 5 := varN_len 4 n (by omega)
theorem varN_len10 {n : Nat} (h : n < 9223372036854775808) : (varN n).length ≤ 9 := varN_len 8 n (by omega)
/-- the text of a number's bytes -/
def varT (n : Nat) : ByteArray := strOfNums ((varN n).map Int.ofNat)
theorem bs_varT (n : Nat) : bs (varT n) = varN n := by
  unfold varT
  rw [bs_nums]
  · simp [List.map_map, Function.comp_def]
  · intro x hx
    obtain ⟨y, hy, rfl⟩ := List.mem_map.1 hx
    have := varN_lt n y hy
    simp only [Int.ofNat_eq_natCast]; omega
theorem varT_size (n : Nat) : (varT n).size = (varN n).length := by rw [← bs_length, bs_varT]

/-! ### reading -/
def val : List Nat → Nat
  | [] => 0
  | c :: l => c % 128 + 128 * val l
/-- the bytes that a number takes at the head of a list: those above 127, and one that isn't; at most m -/
def rvd : Nat → List Nat → Option (List Nat)
  | 0, _ => none
  | _ + 1, [] => none
  | m + 1, c :: l => if c < 128 then some [c] else (rvd m l).map (c :: ·)
/-- no longer form than needed -/
def tightD (ds : List Nat) : Bool := ds.length == 1 || ds.getLast? != some 0
theorem rvd_len : ∀ (m : Nat) (l ds : List Nat), rvd m l = some ds → 1 ≤ ds.length ∧ ds.length ≤ m ∧ ds = l.take ds.length ∧ ds.length ≤ l.length := by
  intro m
  induction m with
  | zero => intro l ds h; simp [rvd] at h
  | succ m ih =>
    intro l ds h
    cases l with
    | nil => simp [rvd] at h
    | cons c l =>
      simp only [rvd] at h
      split at h
      · obtain rfl := Option.some.inj h; simp
      · obtain ⟨e, he, rfl⟩ := Option.map_eq_some_iff.1 h
        obtain ⟨h1, h2, h3, h4⟩ := ih l e he
        refine ⟨by simp, by simp; omega, ?_, by simp; omega⟩
        simp only [List.length_cons, List.take_succ_cons]
        rw [← h3]
theorem val_zero_last : ∀ (m : Nat) (l ds : List Nat), rvd m l = some ds → val ds = 0 → ds.getLast? = some 0 := by
  intro m
  induction m with
  | zero => intro l ds h; simp [rvd] at h
  | succ m ih =>
    intro l ds h hv
    cases l with
    | nil => simp [rvd] at h
    | cons c l =>
      simp only [rvd] at h
      split at h
      · obtain rfl := Option.some.inj h
        simp only [val] at hv
        have : c = 0 := by omega
        subst this; rfl
      · obtain ⟨e, he, rfl⟩ := Option.map_eq_some_iff.1 h
        simp only [val] at hv
        have h1 := ih l e he (by omega)
        have h2 := (rvd_len m l e he).1
        cases e with
        | nil => simp at h2
        | cons d e => rw [List.getLast?_cons_cons]; exact h1
/-- the bytes that were read are those of the value, if no longer form was taken -/
theorem varN_val : ∀ (m : Nat) (l ds : List Nat), (∀ x ∈ l, x < 256) → rvd m l = some ds → (varN (val ds) = ds ↔ tightD ds = true) := by
  intro m
  induction m with
  | zero => intro l ds _ h; simp [rvd] at h
  | succ m ih =>
    intro l ds hl h
    cases l with
    | nil => simp [rvd] at h
    | cons c l =>
      have hc := hl c (by simp)
      simp only [rvd] at h
      split at h
      · rename_i hlt
        obtain rfl := Option.some.inj h
        have e : val [c] = c := by simp [val]; omega
        rw [e, varN_small (by omega)]
        simp [tightD]
      · rename_i hge
        obtain ⟨e, he, rfl⟩ := Option.map_eq_some_iff.1 h
        have ih' := ih l e (fun x hx => hl x (by simp [hx])) he
        have hz := val_zero_last m l e he
        obtain ⟨hp, -⟩ := rvd_len m l e he
        cases e with
        | nil => simp at hp
        | cons d e =>
          simp only [val] at *
          have ht : tightD (c :: d :: e) = ((d :: e).getLast? != some 0) := by
            simp [tightD, List.getLast?_cons_cons]
          rw [ht]
          by_cases h0 : d % 128 + 128 * val e = 0
          · have := hz h0
            rw [this, h0]
            rw [varN_small (by omega)]
            simp
          · rw [varN_big (by omega)]
            have e1 : (c % 128 + 128 * (d % 128 + 128 * val e)) % 128 + 128 = c := by omega
            have e2 : (c % 128 + 128 * (d % 128 + 128 * val e)) / 128 = d % 128 + 128 * val e := by omega
            rw [e1, e2, List.cons.injEq]
            simp only [true_and]
            rw [ih']
            simp only [tightD]
            constructor
            · intro h
              rcases Bool.or_eq_true_iff.1 h with h | h
              · have : e = [] := by simpa using h
                subst this
                simp only [val] at h0
                have : d ≠ 0 := by omega
                simpa using this
              · exact h
            · intro h; rw [h]; simp
theorem rvd_val_lt : ∀ (m : Nat) (l ds : List Nat), rvd m l = some ds → val ds < 128 ^ ds.length := by
  have : ∀ ds : List Nat, val ds < 128 ^ ds.length := by
    intro ds
    induction ds with
    | nil => simp [val]
    | cons c l ih => simp only [val, List.length_cons, Nat.pow_succ]; omega
  intro m l ds _
  exact this ds
/-- what ReadVar tells of the bytes from its place on: the number and how many bytes -/
def readN (l : List Nat) : Option (Nat × Nat) :=
  match rvd 5 l with
  | none => none
  | some ds => if tightD ds = true ∧ val ds ≤ 1000000000 then some (val ds, ds.length) else none
/-- a number's own bytes are read back -/
theorem rvd_varN : ∀ (m n : Nat) (l : List Nat), (varN n).length ≤ m → rvd m (varN n ++ l) = some (varN n) := by
  intro m
  induction m with
  | zero => intro n l h; have := varN_pos n; omega
  | succ m ih =>
    intro n l h
    by_cases h1 : n > 127
    · rw [varN_big h1] at h ⊢
      rw [List.cons_append]
      simp only [rvd]
      rw [if_neg (by omega), ih (n / 128) l (by simp at h; omega)]
      rfl
    · rw [varN_small h1]
      simp only [List.singleton_append, rvd]
      rw [if_pos (by omega)]
theorem val_varN (n : Nat) : val (varN n) = n := by
  induction n using Nat.strongRecOn with
  | _ n ih =>
    by_cases h : n > 127
    · rw [varN_big h]; simp only [val]; rw [ih (n / 128) (by omega)]; omega
    · rw [varN_small h]; simp only [val]; omega
theorem readN_varN (n : Nat) (h : n ≤ 1000000000) (l : List Nat) : readN (varN n ++ l) = some (n, (varN n).length) := by
  have h5 := varN_len5 h
  have e := rvd_varN 5 n l h5
  have ht : tightD (varN n) = true := by
    rw [← varN_val 5 (varN n) (varN n) (varN_lt n) (by have := rvd_varN 5 n [] h5; simpa using this)]
    rw [val_varN]
  unfold readN
  rw [e]
  simp only [val_varN, ht, h, and_self, if_true]
theorem rvd_split : ∀ (p : List Nat) (m : Nat) (l : List Nat), (∀ x ∈ p, 128 ≤ x) → rvd (p.length + m) (p ++ l) = (rvd m l).map (p ++ ·)
  | [], m, l, _ => by simp
  | c :: p, m, l, h => by
    have hc := h c (by simp)
    rw [List.length_cons, show p.length + 1 + m = (p.length + m) + 1 by omega, List.cons_append]
    simp only [rvd]
    rw [if_neg (by omega), rvd_split p m l (fun x hx => h x (by simp [hx]))]
    simp [Option.map_map, Function.comp_def]
theorem val_append (p q : List Nat) : val (p ++ q) = val p + 128 ^ p.length * val q := by
  induction p with
  | nil => simp [val]
  | cons c p ih => simp only [List.cons_append, val, ih, List.length_cons, Nat.pow_succ, Nat.mul_add]; rw [Nat.mul_comm (128 ^ p.length) 128, Nat.mul_assoc]; omega
theorem val_lt (ds : List Nat) : val ds < 128 ^ ds.length := by
  induction ds with
  | nil => simp [val]
  | cons c l ih => simp only [val, List.length_cons, Nat.pow_succ]; omega
/-- what ReadVar tells -/
def readOut (s : ByteArray) (at_ : Int) : Int × Int × Bool :=
  if 0 ≤ at_ ∧ at_ ≤ (s.size : Int) then
    match readN ((bs s).drop at_.toNat) with
    | none => (0, 0, false)
    | some (n, len) => ((n : Int), at_ + len, true)
  else (0, 0, false)
theorem readN_len {l : List Nat} {n m : Nat} (h : readN l = some (n, m)) : 1 ≤ m ∧ m ≤ 5 ∧ m ≤ l.length ∧ n ≤ 1000000000 := by
  unfold readN at h
  split at h
  · cases h
  · rename_i ds e
    obtain ⟨h1, h2, _, h4⟩ := rvd_len 5 l ds e
    split at h
    · rename_i hc
      simp only [Option.some.injEq, Prod.mk.injEq] at h
      omega
    · cases h

/-! ### a reader's state: t bytes are read, all of them above 127 -/
theorem rd_at {l : List Nat} {t : Nat} (ht : t ≤ 5) (hl : t ≤ l.length) (hP : ∀ x ∈ l.take t, 128 ≤ x) : rvd 5 l = (rvd (5 - t) (l.drop t)).map (l.take t ++ ·) := by
  have h1 := rvd_split (l.take t) (5 - t) (l.drop t) hP
  have h2 : (l.take t).length = t := by simp; omega
  rw [List.take_append_drop, h2, show t + (5 - t) = 5 by omega] at h1
  exact h1
theorem rd_five {l : List Nat} (hl : 5 ≤ l.length) (hP : ∀ x ∈ l.take 5, 128 ≤ x) : readN l = none := by
  unfold readN
  rw [rd_at (by omega) hl hP]
  rfl
theorem rd_end {l : List Nat} {t : Nat} (ht : t ≤ 5) (hl : t = l.length) (hP : ∀ x ∈ l.take t, 128 ≤ x) : readN l = none := by
  unfold readN
  rw [rd_at ht (by omega) hP, List.drop_eq_nil_of_le (by omega)]
  have : rvd (5 - t) [] = none := by
    cases 5 - t <;> rfl
  rw [this]
  rfl
theorem rd_done {l : List Nat} {t : Nat} (ht : t < 5) (hl : t < l.length) (hP : ∀ x ∈ l.take t, 128 ≤ x) (hc : l[t] < 128) : rvd 5 l = some (l.take t ++ [l[t]]) := by
  rw [rd_at (by omega) (by omega) hP, List.drop_eq_getElem_cons hl]
  obtain ⟨m, hm⟩ : ∃ m, 5 - t = m + 1 := ⟨4 - t, by omega⟩
  rw [hm]
  simp only [rvd, if_pos hc, Option.map_some]
theorem take_next {l : List Nat} {t : Nat} (hl : t < l.length) : l.take (t + 1) = l.take t ++ [l[t]] := by
  rw [List.take_succ_eq_append_getElem hl]
theorem val_next {l : List Nat} {t : Nat} (hl : t < l.length) : val (l.take (t + 1)) = val (l.take t) + 128 ^ t * (l[t] % 128) := by
  have h2 : (l.take t).length = t := by simp; omega
  rw [take_next hl, val_append, h2]
  simp [val]
theorem readN_done {l : List Nat} {t : Nat} (ht : t < 5) (hl : t < l.length) (hP : ∀ x ∈ l.take t, 128 ≤ x) (hc : l[t] < 128) :
    readN l = if tightD (l.take (t + 1)) = true ∧ val (l.take (t + 1)) ≤ 1000000000 then some (val (l.take (t + 1)), t + 1) else none := by
  unfold readN
  rw [rd_done ht hl hP hc, ← take_next hl]
  have h2 : (l.take (t + 1)).length = t + 1 := by simp; omega
  simp only [h2]
theorem tight_next {l : List Nat} {t : Nat} (hl : t < l.length) : tightD (l.take (t + 1)) = (t == 0 || l[t] != 0) := by
  unfold tightD
  have h2 : (l.take t).length = t := by simp; omega
  have e1 : (l.take t ++ [l[t]]).length = t + 1 := by rw [List.length_append, h2]; rfl
  have e2 : (l.take t ++ [l[t]]).getLast? = some l[t] := List.getLast?_concat
  rw [take_next hl, e1, e2]
  cases t <;> simp [bne]
theorem varN_next {l : List Nat} {t : Nat} (ht : t < 5) (hl : t < l.length) (hb : ∀ x ∈ l, x < 256) (hP : ∀ x ∈ l.take t, 128 ≤ x) (hc : l[t] < 128) :
    varN (val (l.take (t + 1))) = l.take (t + 1) ↔ tightD (l.take (t + 1)) = true := by
  have h := rd_done ht hl hP hc
  rw [← take_next hl] at h
  exact varN_val 5 l _ hb h
theorem pow128 {t : Nat} (h : t < 5) : 128 ^ t ≤ 268435456 := by
  have := Nat.pow_le_pow_right (n := 128) (by omega) (show t ≤ 4 by omega)
  simpa using this
theorem mul128 {t c : Nat} (h : t < 5) (hc : c < 128) : 128 ^ t * c ≤ 34091302912 := by
  have := Nat.mul_le_mul (pow128 h) (show c ≤ 127 by omega)
  simpa using this
theorem val_take_lt {l : List Nat} {t : Nat} (h : t ≤ 5) : val (l.take t) < 34359738368 := by
  have h1 := val_lt (l.take t)
  have h2 : (l.take t).length ≤ 5 := by simp; omega
  have h3 := Nat.pow_le_pow_right (n := 128) (by omega) h2
  have h4 : 128 ^ 5 = 34359738368 := by decide
  omega
theorem readOut_range (s : ByteArray) (a : Int) (hs : s.size ≤ 140737488351232) : (readOut s a).2.2 = true → 0 ≤ (readOut s a).1 ∧ (readOut s a).1 ≤ 1000000000 ∧ 0 ≤ (readOut s a).2.1 ∧ (readOut s a).2.1 ≤ (s.size : Int) := by
  unfold readOut
  by_cases h : 0 ≤ a ∧ a ≤ (s.size : Int)
  · rw [if_pos h]
    cases hr : readN ((bs s).drop a.toNat) with
    | none => intro h1; cases h1
    | some p =>
      obtain ⟨n, m⟩ := p
      intro _
      have := readN_len hr
      rw [List.length_drop, bs_length] at this
      refine ⟨?_, ?_, ?_, ?_⟩ <;> simp only <;> omega
  · rw [if_neg h]; intro h1; cases h1
/-- what ReadShort tells -/
def shortIn (s : ByteArray) (a : Int) : ByteArray × Int × Bool :=
  if (readOut s a).2.2 = true ∧ (readOut s a).1 ≤ 20000 ∧ (readOut s a).2.1 + (readOut s a).1 ≤ (s.size : Int) then
    (s.extract (readOut s a).2.1.toNat ((readOut s a).2.1 + (readOut s a).1).toNat, (readOut s a).2.1 + (readOut s a).1, true)
  else (⟨#[]⟩, 0, false)
theorem acc_next {l : List Nat} {t : Nat} (ht : t < 5) (hl : t < l.length) : wrap64 (((val (l.take t) : Nat) : Int) + ((128 ^ t * (l[t] % 128) : Nat) : Int)) = ((val (l.take (t + 1)) : Nat) : Int) := by
  have hm := mul128 ht (show l[t] % 128 < 128 by omega)
  have hv := val_take_lt (l := l) (show t ≤ 5 by omega)
  rw [val_next hl]
  generalize 128 ^ t * (l[t] % 128) = p at hm ⊢
  generalize val (l.take t) = v at hv ⊢
  rw [w64 (by omega) (by omega)]; omega
theorem scale_mul {t c : Nat} (ht : t < 5) (hc : c < 256) : wrap64 ((Int.tmod (wrap64 (c : Int)) 128) * ((128 ^ t : Nat) : Int)) = ((128 ^ t * (c % 128) : Nat) : Int) := by
  have hm := mul128 ht (show c % 128 < 128 by omega)
  rw [w64 (x := (c : Int)) (by omega) (by omega), tm128, ← Int.natCast_mul, Nat.mul_comm]
  generalize 128 ^ t * (c % 128) = p at hm ⊢
  exact w64 (by omega) (by omega)
theorem scale_shl {t : Nat} (c : Nat) (ht : t < 5) : shl .i64 ((c % 128 : Nat) : Int) ((7 * t : Nat) : Int) = ((128 ^ t * (c % 128) : Nat) : Int) := by
  have hm := mul128 ht (show c % 128 < 128 by omega)
  unfold shl
  rw [Int.toNat_natCast, Nat.min_eq_left (by simp [IntKind.bits]; omega), IntKind.wrap_i64]
  have e : ((c % 128 : Nat) : Int) * 2 ^ (7 * t) = ((128 ^ t * (c % 128) : Nat) : Int) := by
    have e2 : (2 : Int) ^ (7 * t) = ((128 ^ t : Nat) : Int) := by rw [Int.pow_mul, Int.natCast_pow]; rfl
    rw [e2, ← Int.natCast_mul, Nat.mul_comm (128 ^ t)]
  rw [e]
  generalize 128 ^ t * (c % 128) = p at hm ⊢
  omega
theorem scale_next {t : Nat} (ht : t < 5) : wrap64 (((128 ^ t : Nat) : Int) * 128) = ((128 ^ (t + 1) : Nat) : Int) := by
  have hq := pow128 ht
  rw [Nat.pow_succ]
  generalize 128 ^ t = q at hq ⊢
  rw [w64 (by omega) (by omega)]; omega
end Go.Proofs.YtikneakpbnihnaaDoor.Gen
