/- PartsOf returns what the reference returns, for every line; its strings are its own. No condition. -/
import Derived.Test.YtikneakpbnihnaaDoorSplit
import Derived.Test.YtikneakpbnihnaaDoorQFnExactPartsOfx3
namespace Go.Proofs.YtikneakpbnihnaaDoor.Pure
open Go.RowKit Go.Proofs.YtikneakpbnihnaaDoor.PFnExactPartsOf Go.Proofs.YtikneakpbnihnaaDoorW.PrintWords Go.Proofs.YtikneakpbnihnaaDoorW.PrintLast Go.Proofs.YtikneakpbnihnaaDoorW.PrintMore Go.Proofs.YtikneakpbnihnaaDoor.Gen
set_option linter.unusedVariables false

/-! the words of a line -/
theorem bt_at (a : ByteArray) (i : Nat) (hi : i < (bs a).length) : bt a (i : Int) = (((bs a)[i] : Nat) : Int) := bt_eq hi
def okB (l : List Nat) : Bool := l.all fun c => decide (32 ≤ c ∧ c ≤ 126)
def Told (ok : Bool) (ws : List (List Nat)) (r : List ByteArray × Bool) : Prop := (ok = true ∧ ws.length ≤ 10 → r.2 = true ∧ r.1.map bs = ws) ∧ (¬ (ok = true ∧ ws.length ≤ 10) → r = ([], false))
theorem map_bs_inj : ∀ {a b : List ByteArray}, a.map bs = b.map bs → a = b
  | [], [], _ => rfl
  | [], _ :: _, h => by simp at h
  | _ :: _, [], h => by simp at h
  | x :: a, y :: b, h => by
    simp only [List.map_cons, List.cons.injEq] at h
    rw [bs_inj h.1, map_bs_inj h.2]
theorem Told.eq {ok : Bool} {ws : List (List Nat)} {r s : List ByteArray × Bool} (h : Told ok ws r) (k : Told ok ws s) : r = s := by
  by_cases c : ok = true ∧ ws.length ≤ 10
  · have h1 := h.1 c
    have k1 := k.1 c
    exact Prod.ext (map_bs_inj (h1.2.trans k1.2.symm)) (h1.1.trans k1.1.symm)
  · rw [h.2 c, k.2 c]
theorem Told.bad {ws : List (List Nat)} : Told false ws (([] : List ByteArray), false) := ⟨fun h => by simp at h, fun _ => rfl⟩
/-- the tail of both loops -/
theorem told_end (out : List ByteArray) (ws : List (List Nat)) (h : out.map bs = ws) : ∃ r, (if (out.length : Int) > 10 then some (([] : List ByteArray), false) else some (out, true)) = some r ∧ Told true ws r := by
  have hl : out.length = ws.length := by rw [← h, List.length_map]
  by_cases c : (out.length : Int) > 10
  · exact ⟨_, if_pos c, fun k => by omega, fun _ => rfl⟩
  · exact ⟨_, if_neg c, fun _ => ⟨rfl, h⟩, fun k => absurd (⟨rfl, by omega⟩ : true = true ∧ ws.length ≤ 10) k⟩
theorem spec_PartsOf_l0 (a : ByteArray) (ha : a.size ≤ 600) : ∀ (d i b : Nat) (out : List ByteArray), i + d = a.size → b ≤ i → out.length ≤ b →
    ∃ r, Ev (fun k => spec_PartsOf.l0 k a out (b : Int) (i : Int)) r ∧ Told (okB ((bs a).drop i)) (out.map bs ++ wordsOf 32 (((bs a).drop b).take (i - b)) ((bs a).drop i)) r := by
  have hlen : (bs a).length = a.size := bs_length a
  have last : ∀ (out : List ByteArray) (b : Int) (ws : List (List Nat)), out.map bs = ws → ∃ r, Ev (fun k => spec_PartsOf.l0 k a out b (a.size + 1)) r ∧ Told true ws r := by
    intro out b ws h
    obtain ⟨r, e, t⟩ := told_end out ws h
    exact ⟨r, Ev.step (spec_PartsOf.l0.eq_2 a out b (a.size + 1)) (Ev.no (by omega) (Ev.const e)), t⟩
  have push : ∀ (out : List ByteArray) (b i : Nat), (out ++ [a.extract b i]).map bs = out.map bs ++ [((bs a).drop b).take (i - b)] := fun out b i => by
    rw [List.map_append, List.map_cons, List.map_nil, bs_extract]
  intro d
  induction d with
  | zero =>
    intro i b out hi hb ho
    have hdi : (bs a).drop i = [] := List.drop_of_length_le (by omega)
    have hw : wrap64 ((i : Int) + 1) = (a.size : Int) + 1 := by rw [w64 (by omega) (by omega)]; omega
    rw [hdi]
    have go : ∀ r, Ev (fun k => spec_PartsOf.j2 k a out (b : Int) (i : Int) false) r → Ev (fun k => spec_PartsOf.l0 k a out (b : Int) (i : Int)) r := fun r h =>
      Ev.step (spec_PartsOf.l0.eq_2 a out b i) (Ev.yes (by omega) (Ev.no (by omega) (Ev.step (spec_PartsOf.j1.eq_2 a out b i false) (Ev.no (by simp) (Ev.no (by omega) h)))))
    by_cases c : b < i
    · have hc : ((bs a).drop b).take (i - b) ≠ [] := fun e => by
        have := congrArg List.length e
        simp at this; omega
      obtain ⟨r, e, t⟩ := last (out ++ [a.extract b i]) ((i : Int) + 1) _ (push out b i)
      refine ⟨r, go r (Ev.step (spec_PartsOf.j2.eq_2 a out b i false) (Ev.no (by simp) (Ev.yes (by omega) (Ev.yes (by omega) (Ev.yes (by omega) (Ev.yes (by omega) (Ev.yes (by omega) ?_))))))), ?_⟩
      · rw [hw, Int.toNat_natCast, Int.toNat_natCast]
        have : ((i : Int) + 1) = (a.size : Int) + 1 := by omega
        rw [this] at e
        exact e
      · rw [wordsOf, if_neg hc]; exact t
    · have hc : ((bs a).drop b).take (i - b) = [] := by rw [show i - b = 0 by omega, List.take_zero]
      obtain ⟨r, e, t⟩ := last out ((a.size : Int) + 1) _ rfl
      refine ⟨r, go r (Ev.step (spec_PartsOf.j2.eq_2 a out b i false) (Ev.no (by simp) (Ev.no (by omega) ?_))), ?_⟩
      · rw [hw]; exact e
      · rw [hc, wordsOf, if_pos rfl, List.append_nil]; exact t
  | succ d ih =>
    intro i b out hi hb ho
    have hil : i < (bs a).length := by omega
    have hq := bt_at a i hil
    have hlt := bs_lt a _ (List.getElem_mem hil)
    have hdrop : (bs a).drop i = (bs a)[i] :: (bs a).drop (i + 1) := List.drop_eq_getElem_cons hil
    have htake : ((bs a).drop b).take (i + 1 - b) = ((bs a).drop b).take (i - b) ++ [(bs a)[i]] := by
      rw [show i + 1 - b = (i - b) + 1 by omega, List.take_succ_eq_append_getElem (by rw [List.length_drop]; omega)]
      congr 2
      rw [List.getElem_drop]; congr 1; omega
    rw [hdrop]
    have hw : wrap64 ((i : Int) + 1) = ((i + 1 : Nat) : Int) := by rw [w64 (by omega) (by omega)]; rfl
    revert hq hlt htake
    generalize (bs a)[i] = c
    intro hq hlt htake
    by_cases hok : 32 ≤ c ∧ c ≤ 126
    case neg =>
      refine ⟨(([] : List ByteArray), false), Ev.step (spec_PartsOf.l0.eq_2 a out b i) (Ev.yes (by omega) (Ev.yes (by omega) (Ev.yes (by omega) ?_))), ?_⟩
      · rw [hq]
        refine Ev.ite (fun h => ?_) (fun h => ?_)
        · exact Ev.step (spec_PartsOf.j1.eq_2 a out b i true) (Ev.yes rfl (Ev.now _))
        · rw [decide_eq_true (show (c : Int) > 126 by omega)]
          exact Ev.step (spec_PartsOf.j1.eq_2 a out b i true) (Ev.yes rfl (Ev.now _))
      · have : okB (c :: (bs a).drop (i + 1)) = false := by simp only [okB, List.all_cons, decide_eq_false hok, Bool.false_and]
        rw [this]; exact Told.bad
    have hokb : okB (c :: (bs a).drop (i + 1)) = okB ((bs a).drop (i + 1)) := by simp only [okB, List.all_cons, decide_eq_true hok, Bool.true_and]
    rw [hokb]
    have go : ∀ r, Ev (fun k => spec_PartsOf.j2 k a out (b : Int) (i : Int) ((c : Int) != 32)) r → Ev (fun k => spec_PartsOf.l0 k a out (b : Int) (i : Int)) r := fun r h => by
      refine Ev.step (spec_PartsOf.l0.eq_2 a out b i) (Ev.yes (by omega) (Ev.yes (by omega) (Ev.yes (by omega) ?_)))
      rw [hq, decide_eq_false (show ¬ (c : Int) > 126 by omega)]
      refine Ev.no (by omega) (Ev.step (spec_PartsOf.j1.eq_2 a out b i false) (Ev.no (by simp) (Ev.yes (by omega) (Ev.yes (by omega) ?_))))
      rw [hq]; exact h
    by_cases hc : c = 32
    · have e32 : ((c : Int) != 32) = false := by subst hc; rfl
      rw [e32] at go
      by_cases hbi : b < i
      · have hne : ((bs a).drop b).take (i - b) ≠ [] := fun e => by
          have := congrArg List.length e
          simp at this; omega
        obtain ⟨r, e, t⟩ := ih (i + 1) (i + 1) (out ++ [a.extract b i]) (by omega) (Nat.le_refl _) (by simp; omega)
        refine ⟨r, go r (Ev.step (spec_PartsOf.j2.eq_2 a out b i false) (Ev.no (by simp) (Ev.yes (by omega) (Ev.yes (by omega) (Ev.yes (by omega) (Ev.yes (by omega) (Ev.yes (by omega) ?_))))))), ?_⟩
        · rw [hw, Int.toNat_natCast, Int.toNat_natCast]; exact e
        · rw [push, Nat.sub_self, List.take_zero, List.append_assoc] at t
          rw [wordsOf, if_pos hc, if_neg hne]; exact t
      · have hem : ((bs a).drop b).take (i - b) = [] := by rw [show i - b = 0 by omega, List.take_zero]
        obtain ⟨r, e, t⟩ := ih (i + 1) (i + 1) out (by omega) (Nat.le_refl _) (by omega)
        refine ⟨r, go r (Ev.step (spec_PartsOf.j2.eq_2 a out b i false) (Ev.no (by simp) (Ev.no (by omega) ?_))), ?_⟩
        · rw [hw]; exact e
        · rw [Nat.sub_self, List.take_zero] at t
          rw [hem, wordsOf, if_pos hc, if_pos rfl]; exact t
    · have e32 : ((c : Int) != 32) = true := bne_iff_ne.mpr (by omega)
      rw [e32] at go
      obtain ⟨r, e, t⟩ := ih (i + 1) b out (by omega) (by omega) (by omega)
      refine ⟨r, go r (Ev.step (spec_PartsOf.j2.eq_2 a out b i true) (Ev.yes rfl ?_)), ?_⟩
      · rw [hw]; exact e
      · rw [htake] at t
        rw [wordsOf, if_neg hc]; exact t
theorem spec_PartsOf_ev (a : ByteArray) (ha : a.size ≤ 600) : ∃ r, Ev (fun k => spec_PartsOf.f k a) r ∧ Told (okB (bs a)) (full (pieces 32 (bs a))) r := by
  obtain ⟨r, e, t⟩ := spec_PartsOf_l0 a ha a.size 0 0 [] (by omega) (by omega) (by simp)
  rw [List.drop_zero, List.map_nil, List.nil_append, Nat.sub_zero, List.take_zero, words_full] at t
  exact ⟨r, Ev.bindc rfl (Ev.no (by omega) e), t⟩
theorem impl_PartsOf_l1 (sp : List ByteArray) (hs : sp.length ≤ 601) : ∀ (d j : Nat) (out : List ByteArray), j + d = sp.length → out.length ≤ j →
    ∃ r, Ev (fun k => impl_PartsOf.l1 k out sp (sp.length : Int) (j : Int)) r ∧ Told true (out.map bs ++ full ((sp.drop j).map bs)) r := by
  intro d
  induction d with
  | zero =>
    intro j out hj ho
    obtain ⟨r, e, t⟩ := told_end out _ rfl
    refine ⟨r, Ev.step (impl_PartsOf.l1.eq_2 out sp sp.length j) (Ev.no (by omega) (Ev.const e)), ?_⟩
    rw [List.drop_of_length_le (by omega)]
    show Told true (out.map bs ++ []) r
    rw [List.append_nil]; exact t
  | succ d ih =>
    intro j out hj ho
    have hjl : j < sp.length := by omega
    have hrd : rdOf ByteArray.empty sp (j : Int) = sp[j] := by
      unfold rdOf
      rw [Int.toNat_natCast, List.getD_eq_getElem?_getD, List.getElem?_eq_getElem hjl]; rfl
    have hw : wrap64 ((j : Int) + 1) = ((j + 1 : Nat) : Int) := by rw [w64 (by omega) (by omega)]; rfl
    rw [List.drop_eq_getElem_cons hjl, List.map_cons]
    by_cases h : (sp[j]).toList = []
    · obtain ⟨r, e, t⟩ := ih (j + 1) out (by omega) (by omega)
      refine ⟨r, Ev.step (impl_PartsOf.l1.eq_2 out sp sp.length j) (Ev.yes (by omega) (Ev.yes (by omega) (Ev.yes (by omega) (Ev.yes (by rw [hrd]; exact h) ?_)))), ?_⟩
      · rw [hw]; exact e
      · have : full (bs sp[j] :: (sp.drop (j + 1)).map bs) = full ((sp.drop (j + 1)).map bs) := by
          rw [(toList_nil _).1 h]; rfl
        rw [this]; exact t
    · obtain ⟨r, e, t⟩ := ih (j + 1) (out ++ [sp[j]]) (by omega) (by simp; omega)
      refine ⟨r, Ev.step (impl_PartsOf.l1.eq_2 out sp sp.length j) (Ev.yes (by omega) (Ev.yes (by omega) (Ev.yes (by omega) (Ev.no (by rw [hrd]; exact h) (Ev.yes (by omega) ?_))))), ?_⟩
      · rw [hw, hrd]; exact e
      · have hne : bs sp[j] ≠ [] := fun e => h ((toList_nil _).2 e)
        have : full (bs sp[j] :: (sp.drop (j + 1)).map bs) = bs sp[j] :: full ((sp.drop (j + 1)).map bs) := by
          unfold full
          rw [List.filter_cons_of_pos]
          simpa using hne
        rw [this]
        rw [List.map_append, List.append_assoc] at t
        exact t
theorem impl_PartsOf_l0 (a : ByteArray) (ha : a.size ≤ 600) : ∀ (d i : Nat), i + d = a.size →
    ∃ r, Ev (fun k => impl_PartsOf.l0 k a [] (i : Int)) r ∧ Told (okB ((bs a).drop i)) (full (pieces 32 (bs a))) r := by
  have hlen : (bs a).length = a.size := bs_length a
  intro d
  induction d with
  | zero =>
    intro i hi
    have hsp := split_pieces 32 a.size a (Nat.le_refl _)
    have hl := pieces_len 32 (bs a)
    generalize hg : Lib.splitB ⟨#[32]⟩ 0 (Lib.countB a ⟨#[32]⟩) a = sp at hsp
    have hsp' : sp.map bs = pieces 32 (bs a) := hsp
    have hl2 : sp.length ≤ 601 := by
      have := congrArg List.length hsp'
      rw [List.length_map] at this
      omega
    obtain ⟨r, e, t⟩ := impl_PartsOf_l1 sp hl2 sp.length 0 [] (by omega) (by simp)
    rw [List.drop_zero, hsp'] at t
    have hf : strings_Split.f a (⟨#[32]⟩ : ByteArray) = some sp := by
      unfold strings_Split.f
      rw [hg, if_pos ⟨by omega, Nat.le_refl _, by omega⟩]
    refine ⟨r, Ev.step (impl_PartsOf.l0.eq_2 a [] i) (Ev.no (by omega) (Ev.bindc hf e)), ?_⟩
    rw [List.drop_of_length_le (by omega)]
    exact t
  | succ d ih =>
    intro i hi
    have hil : i < (bs a).length := by omega
    have hq := bt_at a i hil
    have hlt := bs_lt a _ (List.getElem_mem hil)
    rw [List.drop_eq_getElem_cons hil]
    revert hq hlt
    generalize (bs a)[i] = c
    intro hq hlt
    have hwi : impl_within.f (wrap64 (bt a (i : Int))) 32 126 = some (decide (32 ≤ c ∧ c ≤ 126)) := by
      rw [hq, w64 (by omega) (by omega)]
      unfold impl_within.f
      by_cases h : (c : Int) ≥ 32
      · rw [if_pos h]; congr 1; exact decide_eq_decide.2 (by omega)
      · rw [if_neg h, decide_eq_false (by omega)]
    by_cases hok : 32 ≤ c ∧ c ≤ 126
    · obtain ⟨r, e, t⟩ := ih (i + 1) (by omega)
      rw [decide_eq_true hok] at hwi
      refine ⟨r, Ev.step (impl_PartsOf.l0.eq_2 a [] i) (Ev.yes (by omega) (Ev.yes (by omega) (Ev.bindc hwi (Ev.yes rfl ?_)))), ?_⟩
      · rw [w64 (x := (i : Int) + 1) (by omega) (by omega)]; exact e
      · have hokb : okB (c :: (bs a).drop (i + 1)) = okB ((bs a).drop (i + 1)) := by simp only [okB, List.all_cons, decide_eq_true hok, Bool.true_and]
        rw [hokb]; exact t
    · rw [decide_eq_false hok] at hwi
      refine ⟨(([] : List ByteArray), false), Ev.step (impl_PartsOf.l0.eq_2 a [] i) (Ev.yes (by omega) (Ev.yes (by omega) (Ev.bindc hwi (Ev.no (by simp) (Ev.now _))))), ?_⟩
      have : okB (c :: (bs a).drop (i + 1)) = false := by simp only [okB, List.all_cons, decide_eq_false hok, Bool.false_and]
      rw [this]; exact Told.bad
theorem impl_PartsOf_ev (a : ByteArray) (ha : a.size ≤ 600) : ∃ r, Ev (fun k => impl_PartsOf.f k a) r ∧ Told (okB (bs a)) (full (pieces 32 (bs a))) r := by
  obtain ⟨r, e, t⟩ := impl_PartsOf_l0 a ha a.size 0 (by omega)
  exact ⟨r, Ev.no (by omega) e, t⟩

theorem laws_eqStringS_l0 : ∀ (d i : Nat) (xs : List ByteArray), i + d = xs.length → xs.length ≤ 140737488351232 → Ev (fun k => laws_eqStringS.l0 k xs xs (i : Int)) true := by
  intro d
  induction d with
  | zero =>
    intro i xs hi hx
    refine Ev.step (laws_eqStringS.l0.eq_2 xs xs (i : Int)) ?_
    exact Ev.no (by omega) (Ev.now _)
  | succ d ih =>
    intro i xs hi hx
    refine Ev.step (laws_eqStringS.l0.eq_2 xs xs (i : Int)) ?_
    refine Ev.yes (by omega) (Ev.yes (by omega) (Ev.yes (by omega) (Ev.yes rfl ?_)))
    rw [w64 (by omega) (by omega)]
    exact ih (i + 1) xs (by omega) hx
theorem laws_eqStringS_ev (xs : List ByteArray) (hx : xs.length ≤ 140737488351232) : Ev (fun k => laws_eqStringS.f k xs xs) true := by
  unfold laws_eqStringS.f
  exact Ev.yes rfl (laws_eqStringS_l0 xs.length 0 xs (by omega) hx)

/-- some text for each number, whatever it is -/
theorem laws_markText_l0 : ∀ (n : Nat) (s : ByteArray), n < 9223372036854775808 → s.size + n ≤ 9223372036854775800 → ∃ t, Ev (fun k => laws_markText.l0 k (n : Int) s) t := by
  intro n
  induction n using Nat.strongRecOn with
  | _ n ih =>
    intro s hn hs
    by_cases h : n = 0
    · subst h
      refine ⟨(⟨#[109]⟩ : ByteArray) ++ s, Ev.step (laws_markText.l0.eq_2 _ s) ?_⟩
      exact Ev.no (by omega) (Ev.yes (by omega) (Ev.now _))
    · have e1 : wrap64 (Int.tdiv (n : Int) 10) = ((n / 10 : Nat) : Int) := by rw [td10, w64] <;> omega
      obtain ⟨t, ht⟩ := ih (n / 10) (by omega) (strOfNums [wrap64 (48 + Int.tmod (n : Int) 10) % 256] ++ s) (by omega) (by rw [size_append, size_nums, List.length_singleton]; omega)
      refine ⟨t, Ev.step (laws_markText.l0.eq_2 _ s) ?_⟩
      refine Ev.yes (by omega) (Ev.bindc rfl (Ev.yes (by rw [size_nums, List.length_singleton]; omega) ?_))
      rw [e1]
      exact ht
theorem laws_markText_ev (n : Int) (h0 : n < 1000000000000000) : ∃ t, Ev (fun k => laws_markText.f k n) t := by
  unfold laws_markText.f
  by_cases h : n ≤ 0
  · exact ⟨_, Ev.yes h (Ev.now _)⟩
  · obtain ⟨m, rfl⟩ := Int.eq_ofNat_of_zero_le (show 0 ≤ n by omega)
    obtain ⟨t, ht⟩ := laws_markText_l0 m (⟨#[]⟩ : ByteArray) (by omega) (by show 0 + m ≤ _; omega)
    exact ⟨t, Ev.no h ht⟩

/-- the number behind the marks -/
theorem laws_markStringS_l0 : ∀ (d i : Nat) (xs : List ByteArray) (m : Int), i + d = xs.length → xs.length ≤ 1000000 → 0 ≤ m → m + d ≤ 1000000000000 →
    ∃ ys : List ByteArray, Ev (fun k => laws_markStringS.l0 k xs m (i : Int)) (m + d, ys) ∧ ys.length = xs.length ∧ ys.take i = xs.take i ∧
      (∀ j, j < d → Ev (fun k => laws_markText.f k (m + j)) (rdOf ByteArray.empty ys ((i + j : Nat) : Int))) := by
  intro d
  induction d with
  | zero =>
    intro i xs m hi hx h0 hm
    refine ⟨xs, Ev.step (laws_markStringS.l0.eq_2 xs m (i : Int)) ?_, rfl, rfl, fun j hj => by omega⟩
    refine Ev.no (by omega) (Ev.const ?_)
    simp
  | succ d ih =>
    intro i xs m hi hx h0 hm
    obtain ⟨t, ht⟩ := laws_markText_ev m (by omega)
    obtain ⟨ys, hy, hlen, htake, hall⟩ := ih (i + 1) (xs.set i t) (m + 1) (by simp; omega) (by simpa using hx) (by omega) (by omega)
    refine ⟨ys, Ev.step (laws_markStringS.l0.eq_2 xs m (i : Int)) ?_, by simpa using hlen, ?_, ?_⟩
    · refine Ev.yes (by omega) (Ev.bind ht (Ev.yes (by omega) ?_))
      rw [w64 (x := m + 1) (by omega) (by omega), w64 (x := (i : Int) + 1) (by omega) (by omega), Int.toNat_natCast]
      have e : m + 1 + (d : Int) = m + ((d + 1 : Nat) : Int) := by omega
      rw [e] at hy
      exact hy
    · have h1 := congrArg (List.take i) htake
      rw [List.take_take, List.take_take, Nat.min_eq_left (by omega)] at h1
      rw [h1]
      apply List.ext_getElem?
      intro n
      by_cases hn : n < i
      · rw [List.getElem?_take_of_lt hn, List.getElem?_take_of_lt hn, List.getElem?_set_ne (by omega)]
      · rw [List.getElem?_eq_none (by simp; omega), List.getElem?_eq_none (by simp; omega)]
    · intro j hj
      cases j with
      | zero =>
        have e : rdOf ByteArray.empty ys ((i + 0 : Nat) : Int) = t := by
          unfold rdOf
          have h1 := congrArg (fun l => l[i]?) htake
          change (ys.take (i + 1))[i]? = ((xs.set i t).take (i + 1))[i]? at h1
          rw [List.getElem?_take_of_lt (by omega), List.getElem?_take_of_lt (by omega), List.getElem?_set_self (by omega)] at h1
          rw [List.getD_eq_getElem?_getD, Int.toNat_natCast, Nat.add_zero, h1]; rfl
        rw [e]
        simpa using ht
      | succ j =>
        have := hall j (by omega)
        have e1 : m + ((j + 1 : Nat) : Int) = m + 1 + (j : Int) := by omega
        have e2 : i + (j + 1) = i + 1 + j := by omega
        rw [e1, e2]
        exact this
theorem laws_heldStringS_l0 : ∀ (d i : Nat) (ys : List ByteArray) (m : Int), i + d = ys.length → ys.length ≤ 1000000 → 0 ≤ m → m + d ≤ 1000000000000 →
    (∀ j, j < d → Ev (fun k => laws_markText.f k (m + j)) (rdOf ByteArray.empty ys ((i + j : Nat) : Int))) → Ev (fun k => laws_heldStringS.l0 k ys m (i : Int)) (m + d) := by
  intro d
  induction d with
  | zero =>
    intro i ys m hi hx h0 hm _
    refine Ev.step (laws_heldStringS.l0.eq_2 ys m (i : Int)) ?_
    refine Ev.no (by omega) (Ev.const ?_)
    simp
  | succ d ih =>
    intro i ys m hi hx h0 hm hall
    refine Ev.step (laws_heldStringS.l0.eq_2 ys m (i : Int)) ?_
    have h1 := hall 0 (by omega)
    simp only [Nat.add_zero, Int.natCast_zero, Int.add_zero] at h1
    refine Ev.yes (by omega) (Ev.yes (by omega) (Ev.bind h1 (Ev.yes rfl ?_)))
    rw [w64 (x := m + 1) (by omega) (by omega), w64 (x := (i : Int) + 1) (by omega) (by omega)]
    have := ih (i + 1) ys (m + 1) (by omega) hx (by omega) (by omega) (fun j hj => by
      have := hall (j + 1) (by omega)
      have e1 : m + ((j + 1 : Nat) : Int) = m + 1 + (j : Int) := by omega
      have e2 : i + (j + 1) = i + 1 + j := by omega
      rw [e1, e2] at this
      exact this)
    have e : m + 1 + (d : Int) = m + ((d + 1 : Nat) : Int) := by omega
    rw [e] at this
    exact this
theorem marks_ev (xs : List ByteArray) (hx : xs.length ≤ 1000000) : ∃ (ys : List ByteArray) (m : Int), Ev (fun k => laws_markStringS.f k xs 1) (m, ys) ∧ ys.length = xs.length ∧ 0 ≤ m ∧ Ev (fun k => laws_heldStringS.f k ys 1) m := by
  obtain ⟨ys, h1, h2, _, h4⟩ := laws_markStringS_l0 xs.length 0 xs 1 (by omega) hx (by omega) (by omega)
  refine ⟨ys, 1 + xs.length, h1, h2, by omega, ?_⟩
  have := laws_heldStringS_l0 xs.length 0 ys 1 (by omega) (by omega) (by omega) (by omega) h4
  exact this

theorem told_small {ok : Bool} {ws : List (List Nat)} {r : List ByteArray × Bool} (h : Told ok ws r) : r.1.length ≤ 10 := by
  by_cases c : ok = true ∧ ws.length ≤ 10
  · have := congrArg List.length (h.1 c).2
    rw [List.length_map] at this
    omega
  · rw [h.2 c]; simp
theorem parts_ev (a : ByteArray) : ∃ r : List ByteArray × Bool, Ev (fun k => spec_PartsOf.f k a) r ∧ Ev (fun k => impl_PartsOf.f k a) r ∧ r.1.length ≤ 10 := by
  by_cases h : a.size ≤ 600
  · obtain ⟨r, e, t⟩ := spec_PartsOf_ev a h
    obtain ⟨s, f, u⟩ := impl_PartsOf_ev a h
    obtain rfl := t.eq u
    exact ⟨r, e, f, told_small t⟩
  · exact ⟨([], false), Ev.bindc rfl (Ev.yes (by omega) (Ev.now _)), Ev.yes (by omega) (Ev.now _), by simp⟩
theorem FnExactPartsOf : laws_FnExactPartsOf.Pure := by
  intro a ha
  apply Ev.rounds
  unfold laws_FnExactPartsOf.f
  refine Ev.ite (fun _ => Ev.now _) (fun h => ?_)
  obtain ⟨⟨x, b⟩, e1, e2, hl⟩ := parts_ev a
  simp only at hl
  have hb : (b != b) = false := by cases b <;> rfl
  have eq := laws_eqStringS_ev x (by omega)
  obtain ⟨ys, m, h1, h2, h3, h4⟩ := marks_ev x (by omega)
  refine Ev.bind e1 (Ev.bind e2 (Ev.bind eq (Ev.yes rfl ?_)))
  simp only [hb]
  refine Ev.step (laws_FnExactPartsOf.j0.eq_2 a x b x false) (Ev.no (by simp) (Ev.bind h1 (Ev.bind h4 (Ev.no (by omega) (Ev.yes rfl (Ev.bind e2 (Ev.bind eq (Ev.yes rfl ?_))))))))
  simp only [hb]
  exact Ev.step (laws_FnExactPartsOf.j1.eq_2 ys m false) (Ev.no (by simp) (Ev.bind h4 (Ev.no (by omega) (Ev.yes rfl (Ev.now _)))))
end Go.Proofs.YtikneakpbnihnaaDoor.Pure
