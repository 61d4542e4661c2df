import Derived.Test.YtdiecogmaiglaaaQFnActsx0
import Derived.Test.YtdiecogmaiglaaaQFnActsx2
namespace Go.Proofs.Ytdiecogmaiglaaa.PFnActs
open Go.RowKit Go.Proofs.YtdiecogmaiglaaaW.PrintWords Go.Proofs.YtdiecogmaiglaaaW.PrintLast Go.Proofs.YtdiecogmaiglaaaW.PrintMore
attribute [local go_sem] max2_int min2_int max_two min_two max_three min_three max_four min_four   -- for this text's walks alone
set_option linter.unusedVariables false
set_option linter.unusedSimpArgs false

/-! ### impl_actOk: function 65 -/
def impl_actOk.f (a0_0 : Int) (a0_1 : ByteArray) (a0_2 : ByteArray) (a0_3 : ByteArray) : Option (Bool) := (impl_within.f a0_0 1 4).bind fun t115 => (if t115 = true then (if a0_2.toList = ([] : List UInt8) then (if a0_3.toList = ([] : List UInt8) then (some true) else (some (a0_0 == 3))) else (if a0_0 = 1 then (if a0_3.toList = ([] : List UInt8) then (some true) else (some (a0_0 == 3))) else (some false))) else (some false))
set_option maxHeartbeats 8000000 in
set_option maxRecDepth 100000 in
theorem impl_actOk.calls (a0_0 : Int) (a0_1 : ByteArray) (a0_2 : ByteArray) (a0_3 : ByteArray) (r : Bool) (w : World) (h : impl_actOk.f a0_0 a0_1 a0_2 a0_3 = some r) :
  Calls Try.prog 65 #[.agg #[.int .i64 a0_0, .string a0_1, .string a0_2, .string a0_3]] w fun e w' => e = .returned (.bool r) ∧ Below w.heap.size w w' := by
 have hu55 := Try.underlying55
 have HB := Aside0.mk (Below.refl w.heap.size w)
 have H : ((impl_within.f a0_0 1 4).bind fun Af => (if Af = true then (if a0_2.toList = ([] : List UInt8) then (if a0_3.toList = ([] : List UInt8) then (some true) else (some (a0_0 == 3))) else (if a0_0 = 1 then (if a0_3.toList = ([] : List UInt8) then (some true) else (some (a0_0 == 3))) else (some false))) else (some false))) = some r := h
 clear h
 replace H := Option.bind_eq_some_iff.mp H
 obtain ⟨Af, Ar, H⟩ := H
 have A2 := Aside0.mk Ar
 clear Ar
 by_cases c3 : Af = true
 ·subst c3
  rw [if_pos rfl] at H
  by_cases c4 : a0_2.toList = ([] : List UInt8)
  ·rw [if_pos c4] at H
   have Ah : (a0_2.toList == ([] : List UInt8)) = true := beq_iff_eq.mpr c4
   have Au : a0_2.toList.isEmpty = true := by revert Ah; cases a0_2.toList <;> simp
   have Ap : (a0_2.toList != ([] : List UInt8)) = false := bne_eq_false_iff_eq.mpr c4
   clear c4
   by_cases c5 : a0_3.toList = ([] : List UInt8)
   ·rw [if_pos c5] at H
    have Ag : (a0_3.toList == ([] : List UInt8)) = true := beq_iff_eq.mpr c5
    have As : a0_3.toList.isEmpty = true := by revert Ag; cases a0_3.toList <;> simp
    have Ao : (a0_3.toList != ([] : List UInt8)) = false := bne_eq_false_iff_eq.mpr c5
    clear c5
    obtain rfl := Option.some.inj H
    go_enter Try.func65, Try.ntmps65
    go_wp2_with (first | ((with_reducible refine gate_dst (N := 1) rfl ?_); refine zx (N := 1) (cs := #[.int .i64 a0_0, .string a0_1, .string a0_2, .string a0_3]) (t := 55) ?_; intro Ab hg w6 hbox hb; have Aa := Aside0.mk (hbox); have Ac := zg HB hg; have Ad := zg HB hg; replace HB := zs HB hb; clear hb hbox hg; obtain ⟨_, _, _, _, _, _, _, _⟩ := zc4 Aa) | ((with_reducible refine gate_callee (f := 51) rfl ?_); refine zG (some 5) Try.func51 #[.int .i64 a0_0, .int .i64 1, .int .i64 4] ?_; (with_reducible refine (impl_within.calls a0_0 1 4 true _ A2.out).mono ?_); rintro e w' ⟨rfl, ⟨nd, rfl⟩⟩; refine ⟨_, rfl, ?_⟩))
    go_ret
    exact ⟨ze, zw HB⟩
   rw [if_neg c5] at H
   have Ag : (a0_3.toList == ([] : List UInt8)) = false := beq_eq_false_iff_ne.mpr c5
   have As : a0_3.toList.isEmpty = false := by revert Ag; cases a0_3.toList <;> simp
   have Ao : (a0_3.toList != ([] : List UInt8)) = true := bne_iff_ne.mpr c5
   obtain rfl := Option.some.inj H
   go_enter Try.func65, Try.ntmps65
   go_wp2_with (first | ((with_reducible refine gate_dst (N := 1) rfl ?_); refine zx (N := 1) (cs := #[.int .i64 a0_0, .string a0_1, .string a0_2, .string a0_3]) (t := 55) ?_; intro Ab hg w8 hbox hb; have Aa := Aside0.mk (hbox); have Ac := zg HB hg; have Ad := zg HB hg; replace HB := zs HB hb; clear hb hbox hg; obtain ⟨_, _, _, _, _, _, _, _⟩ := zc4 Aa) | ((with_reducible refine gate_callee (f := 51) rfl ?_); refine zG (some 5) Try.func51 #[.int .i64 a0_0, .int .i64 1, .int .i64 4] ?_; (with_reducible refine (impl_within.calls a0_0 1 4 true _ A2.out).mono ?_); rintro e w' ⟨rfl, ⟨nd, rfl⟩⟩; refine ⟨_, rfl, ?_⟩))
   go_ret
   exact ⟨ze, zw HB⟩
  rw [if_neg c4] at H
  have Ah : (a0_2.toList == ([] : List UInt8)) = false := beq_eq_false_iff_ne.mpr c4
  have Au : a0_2.toList.isEmpty = false := by revert Ah; cases a0_2.toList <;> simp
  have Ap : (a0_2.toList != ([] : List UInt8)) = true := bne_iff_ne.mpr c4
  by_cases Aj : a0_0 = 1
  ·rw [if_pos Aj] at H
   have Am : (a0_0 == 1) = true := beq_iff_eq.mpr Aj
   have Al : (a0_0 != 1) = false := bne_eq_false_iff_eq.mpr Aj
   clear Aj
   by_cases Ai : a0_3.toList = ([] : List UInt8)
   ·rw [if_pos Ai] at H
    have Ae : (a0_3.toList == ([] : List UInt8)) = true := beq_iff_eq.mpr Ai
    have Aq : a0_3.toList.isEmpty = true := by revert Ae; cases a0_3.toList <;> simp
    have Ak : (a0_3.toList != ([] : List UInt8)) = false := bne_eq_false_iff_eq.mpr Ai
    clear Ai
    obtain rfl := Option.some.inj H
    go_enter Try.func65, Try.ntmps65
    go_wp2_with (first | ((with_reducible refine gate_dst (N := 1) rfl ?_); refine zx (N := 1) (cs := #[.int .i64 a0_0, .string a0_1, .string a0_2, .string a0_3]) (t := 55) ?_; intro Ab hg w12 hbox hb; have Aa := Aside0.mk (hbox); have Ac := zg HB hg; have Ad := zg HB hg; replace HB := zs HB hb; clear hb hbox hg; obtain ⟨_, _, _, _, _, _, _, _⟩ := zc4 Aa) | ((with_reducible refine gate_callee (f := 51) rfl ?_); refine zG (some 5) Try.func51 #[.int .i64 a0_0, .int .i64 1, .int .i64 4] ?_; (with_reducible refine (impl_within.calls a0_0 1 4 true _ A2.out).mono ?_); rintro e w' ⟨rfl, ⟨nd, rfl⟩⟩; refine ⟨_, rfl, ?_⟩))
    go_ret
    exact ⟨ze, zw HB⟩
   rw [if_neg Ai] at H
   have Ae : (a0_3.toList == ([] : List UInt8)) = false := beq_eq_false_iff_ne.mpr Ai
   have Aq : a0_3.toList.isEmpty = false := by revert Ae; cases a0_3.toList <;> simp
   have Ak : (a0_3.toList != ([] : List UInt8)) = true := bne_iff_ne.mpr Ai
   obtain rfl := Option.some.inj H
   go_enter Try.func65, Try.ntmps65
   go_wp2_with (first | ((with_reducible refine gate_dst (N := 1) rfl ?_); refine zx (N := 1) (cs := #[.int .i64 a0_0, .string a0_1, .string a0_2, .string a0_3]) (t := 55) ?_; intro Ab hg w14 hbox hb; have Aa := Aside0.mk (hbox); have Ac := zg HB hg; have Ad := zg HB hg; replace HB := zs HB hb; clear hb hbox hg; obtain ⟨_, _, _, _, _, _, _, _⟩ := zc4 Aa) | ((with_reducible refine gate_callee (f := 51) rfl ?_); refine zG (some 5) Try.func51 #[.int .i64 a0_0, .int .i64 1, .int .i64 4] ?_; (with_reducible refine (impl_within.calls a0_0 1 4 true _ A2.out).mono ?_); rintro e w' ⟨rfl, ⟨nd, rfl⟩⟩; refine ⟨_, rfl, ?_⟩))
   go_ret
   exact ⟨ze, zw HB⟩
  rw [if_neg Aj] at H
  have Am : (a0_0 == 1) = false := beq_eq_false_iff_ne.mpr Aj
  have Al : (a0_0 != 1) = true := bne_iff_ne.mpr Aj
  obtain rfl := Option.some.inj H
  go_enter Try.func65, Try.ntmps65
  go_wp2_with (first | ((with_reducible refine gate_dst (N := 1) rfl ?_); refine zx (N := 1) (cs := #[.int .i64 a0_0, .string a0_1, .string a0_2, .string a0_3]) (t := 55) ?_; intro Ab hg w16 hbox hb; have Aa := Aside0.mk (hbox); have Ac := zg HB hg; have Ad := zg HB hg; replace HB := zs HB hb; clear hb hbox hg; obtain ⟨_, _, _, _, _, _, _, _⟩ := zc4 Aa) | ((with_reducible refine gate_callee (f := 51) rfl ?_); refine zG (some 5) Try.func51 #[.int .i64 a0_0, .int .i64 1, .int .i64 4] ?_; (with_reducible refine (impl_within.calls a0_0 1 4 true _ A2.out).mono ?_); rintro e w' ⟨rfl, ⟨nd, rfl⟩⟩; refine ⟨_, rfl, ?_⟩))
  go_ret
  exact ⟨ze, zw HB⟩
 replace c3 := Bool.eq_false_iff.mpr c3
 subst c3
 rw [if_neg (show ¬ (false = true) by decide)] at H
 obtain rfl := Option.some.inj H
 go_enter Try.func65, Try.ntmps65
 go_wp2_with (first | ((with_reducible refine gate_dst (N := 1) rfl ?_); refine zx (N := 1) (cs := #[.int .i64 a0_0, .string a0_1, .string a0_2, .string a0_3]) (t := 55) ?_; intro Ab hg w18 hbox hb; have Aa := Aside0.mk (hbox); have Ac := zg HB hg; have Ad := zg HB hg; replace HB := zs HB hb; clear hb hbox hg; obtain ⟨_, _, _, _, _, _, _, _⟩ := zc4 Aa) | ((with_reducible refine gate_callee (f := 51) rfl ?_); refine zG (some 5) Try.func51 #[.int .i64 a0_0, .int .i64 1, .int .i64 4] ?_; (with_reducible refine (impl_within.calls a0_0 1 4 false _ A2.out).mono ?_); rintro e w' ⟨rfl, ⟨nd, rfl⟩⟩; refine ⟨_, rfl, ?_⟩))
 go_ret
 exact ⟨ze, zw HB⟩

/-! ### impl_copyDisk: function 61 -/
def impl_copyDisk.f (l0_0 : List (S45)) : Option ((List (S45))) := (some (([] : List (S45)) : List (S45))).bind fun y118 => (if y118.length + l0_0.length < 3518437208883 then (some (y118 ++ l0_0)) else (none))
set_option maxHeartbeats 8000000 in
set_option maxRecDepth 100000 in
theorem impl_copyDisk.calls (A0_0 : Option Addr) (c0_0 : Nat) (l0_0 : List (S45)) (r : List (S45)) (w : World) (hr0_0 : Kd.C k45 w A0_0 l0_0.length l0_0) (hc0_0 : l0_0.length ≤ c0_0) (h : impl_copyDisk.f l0_0 = some r) :
  Calls Try.prog 61 #[.agg #[.slice A0_0 l0_0.length c0_0]] w fun e w' => ∃ v0_ : Value, e = .returned (.agg #[v0_]) ∧ Kd.R k45 45 w' w.heap.size (fun _ => True) v0_ r ∧ Below w.heap.size w w' := by
 have hu29 := Try.underlying29
 have HR0_0 := Aside0.mk hr0_0
 have HC0_0 := Aside0.mk hc0_0
 clear hr0_0 hc0_0
 have HB := Aside0.mk (Below.refl w.heap.size w)
 have H : ((some (([] : List (S45)) : List (S45))).bind fun Ac => (if Ac.length + l0_0.length < 3518437208883 then (some (Ac ++ l0_0)) else (none))) = some r := h
 clear h
 obtain ⟨Ac, Ah⟩ : ∃ y_ : List (S45), y_ = (([] : List (S45))) := ⟨_, rfl⟩
 replace H : (if Ac.length + l0_0.length < 3518437208883 then (some (Ac ++ l0_0)) else (none)) = some r := zrw Ah H
 have Ny118 := Aside0.mk Ah
 clear Ah
 by_cases c2 : Ac.length + l0_0.length < 3518437208883
 ·rw [if_pos c2] at H
  have LMc2 := Aside0.mk c2
  clear c2
  obtain ⟨Ak, Ag⟩ : ∃ y_ : List (S45), y_ = (Ac ++ l0_0) := ⟨_, rfl⟩
  replace H : (some Ak) = some r := zrw Ag H
  have Ny121 := Aside0.mk Ag
  clear Ag
  obtain rfl := Option.some.inj H
  go_enter Try.func61, Try.ntmps61
  go_wp2_with (first | ((with_reducible refine gate_dst (N := 1) rfl ?_); refine zx (N := 1) (cs := #[.slice A0_0 l0_0.length c0_0]) (t := 29) ?_; intro gb116 hg w3 hbox hb; have Aa := Aside0.mk (hbox); have GW116 := zg HB hg; have GE116 := zg HB hg; replace HB := zs HB hb; clear hb hbox hg) | ((with_reducible refine gate_dst (N := 2) rfl ?_); refine zx (N := 2) (cs := #[.slice none 0 0]) (t := 29) ?_; intro Ai hg w4 hbox hb; have Ab := Aside0.mk (hbox); have GW117 := zg HB hg; have GE117 := zg HB hg; replace HB := zs HB hb; have Af := zl Aa hg; have Ae := zr Aa hg; replace Aa := zb Aa hb; clear hb hbox hg) | ((with_reducible refine gate_dst (N := 3) rfl ?_); refine Kd.R_lit k45 _ 45 ?hg (N := 3) ?hd (xs := ([] : List (S45))) (inner := []) (ok := fun _ => True) (okp := fun _ => True) ?hr ?hp (fun _ hk => hk) trivial (Below.refl _ _) (Nat.le_refl _) (by simp) ?_; (case hd => rfl); (case hg => rfl); (case hr => first | (go_simp; done) | (go_simp; rfl)); (case hp => exact (Reps.none _ _)); intro Ap w5 Al hb hg_ hnew_; clear hg_ hnew_; (first | rw [← Ny118.out] at Al | (simp only [Int.reduceToNat] at Al; rw [← Ny118.out] at Al)); have Ad := Aside0.mk (Kd.R_lower Al (below_size (zw HB))); replace Aa := zb Aa hb; replace Ab := zb Ab hb; replace HB := zs HB hb; clear hb Al; have hnb7 := Af.out; have hnc7 := Ae.out; obtain ⟨_, _⟩ := zc1 Aa) | ((with_reducible refine gate_builtin (b := .append) (xs := #[.tmp 3, .tmp 5]) rfl ?_); at_builtin; refine Kd.R_append_rows k45 (w0 := w) w.heap.size rfl (.tmp 3) (.tmp 5) 27 45 (.agg #[(.string ⟨#[]⟩), (.string ⟨#[]⟩), (.int .i64 0)]) 40 rfl Try.underlying27 info45 rfl (by decide) (by omega) Ap Ac l0_0 _ _ _ (fun _ => True) (fun _ => False) rfl rfl ?aO ?aR (fun _ _ h => h) (fun _ h => h.elim) ?aF ?aB ?aS ?aL ?_; (case aR => exact zI (Kd.C_below HR0_0.out HB.out)); (case aB => exact (zw HB)); (case aF => exact (fun _ _ => trivial)); (case aO => exact (zo Ad.out)); (case aS => exact (below_size (zw HB))); (case aL => have := LMc2.out; omega); intro v122 w9 ho hb hg hat; rw [← Ny121.out] at ho; replace Aa := zbg Aa hg Ad; replace Ab := zbg Ab hg Ad; replace HB := Aside0.mk (hb); have Aj := Aside0.mk (ho); clear Ad; clear ho hb hg hat; obtain ⟨Ao, Am, Aq⟩ := Kd.R_slice Aj.out; subst Aq; obtain ⟨_, _⟩ := zc1 Ab))
  refine bodyPost_ret (results_cell_row rfl _ _ Ai 29 #[.slice Ao Ak.length Am] (0, 0) _ rfl (zj Ab) Try.underlying29 rfl (by kernel_rfl)) rfl ?_
  exact ⟨_, ze, zo (Kd.R_mono (Kd.R_far (p := ⟨Ai, 0, none⟩) (Kd.R_types Aj.out Ab.out (by decide)) (fun _ hk => hk.2) (.slice Ao Ak.length Am)) (fun _ hk => trivial)), zw HB⟩
 rw [if_neg c2] at H
 exact absurd H (by simp)

-- NOT PRINTED: function 81 (impl_File_81)

-- NOT PRINTED: function 82 (impl_withoutFile_1)

/-! ### impl_withoutFile: function 67, given by hand -/
namespace impl_withoutFile
open Go.Proofs.Ytdiecogmaiglaaa.Gen
def keep (a : ByteArray) (l : List S45) : List S45 := l.filter fun x => !(x.f0.toList == a.toList)
/-- a file's fcells -/
def fcells (x : S45) : List Value := [.string x.f0, .string x.f1, .int .i64 x.f2]
def fl (l : List S45) : List Value := l.flatMap fcells
theorem fl_cons (x : S45) (l : List S45) : fl (x :: l) = fcells x ++ fl l := rfl
theorem fl_append (l m : List S45) : fl (l ++ m) = fl l ++ fl m := by simp [fl]
theorem fl_len : ∀ l : List S45, (fl l).length = l.length * 3
 | [] => rfl
 | x :: l => by rw [fl_cons, List.length_append, fl_len l, List.length_cons, Nat.succ_mul, Nat.add_comm]; rfl
theorem fl_one (l : List S45) : ∀ u ∈ fl l, u.oneCell' = true := by
 intro u hu
 obtain ⟨x, _, h⟩ := List.mem_flatMap.1 hu
 simp only [fcells, List.mem_cons, List.not_mem_nil, or_false] at h
 rcases h with rfl | rfl | rfl <;> rfl
theorem fl_take : ∀ (l : List S45) (m : Nat), (fl l).take (m * 3) = fl (l.take m)
 | [], m => by simp [fl]
 | x :: l, 0 => by simp [fl]
 | x :: l, m + 1 => by
  rw [fl_cons, List.take_succ_cons, fl_cons, show (m + 1) * 3 = (fcells x).length + m * 3 by rw [Nat.succ_mul, Nat.add_comm]; rfl, List.take_length_add_append, fl_take l m]
theorem fl_drop : ∀ (l : List S45) (m : Nat), (fl l).drop (m * 3) = fl (l.drop m)
 | [], m => by simp [fl]
 | x :: l, 0 => by simp [fl]
 | x :: l, m + 1 => by
  rw [fl_cons, List.drop_succ_cons, show (m + 1) * 3 = (fcells x).length + m * 3 by rw [Nat.succ_mul, Nat.add_comm]; rfl, List.drop_length_add_append, fl_drop l m]
theorem fl_reps {R : S45 → List Value → Prop} (hR : ∀ x c, R x c → c = fcells x) : ∀ (l : List S45) (inner : List Value), Reps R 3 l inner → inner = fl l
 | [], inner, h => List.eq_nil_of_length_eq_zero (by rw [h.1]; rfl)
 | x :: l, inner, h => by
  have h0 := hR x _ (h.2 0 x rfl)
  have h1 := fl_reps hR l (inner.drop (1 * 3)) (Kd.reps_drop (m := 1) h)
  rw [Nat.zero_mul, List.drop_zero] at h0
  rw [fl_cons, ← h0, ← h1, Nat.one_mul, List.take_append_drop]
theorem reps_fl {R : S45 → List Value → Prop} (hR : ∀ x, R x (fcells x)) (l : List S45) : Reps R 3 l (fl l) := by
 refine ⟨fl_len l, fun j p hj => ?_⟩
 rw [fl_drop]
 obtain ⟨hl, e⟩ := List.getElem?_eq_some_iff.1 hj
 rw [List.drop_eq_getElem_cons hl, e, fl_cons]
 have := hR p
 rw [show (fcells p ++ fl (l.drop (j + 1))).take 3 = fcells p from List.take_left' rfl]
 exact this
theorem own_of_R {w : World} {base : Nat} {ok : Nat → Prop} {v : Value} {l : List S45} (h : Kd.R k45 45 w base ok v l) : w.ownsRow base 45 3 v l.length (fl l) := by
 obtain ⟨_, inner, ho, hr⟩ := h
 rw [← fl_reps (fun x c hx => k45_openM hx) l inner hr]
 exact ho
theorem R_of_own {w : World} {base : Nat} {ok : Nat → Prop} {v : Value} {l : List S45} (h0 : ∀ k, v.ownBlock = some k → ok k) (h : w.ownsRow base 45 3 v l.length (fl l)) : Kd.R k45 45 w base ok v l :=
 ⟨h0, fl l, h, reps_fl (fun x => k45_mkM _ _ _ x) l⟩
/-- the place of the first file of a name, counted from i; -1 without one -/
def find (a : ByteArray) : List S45 → Int → Int
 | [], _ => -1
 | x :: r, i => if x.f0.toList = a.toList then i else find a r (i + 1)
theorem closure (B : Nat) (x : S45) (a : ByteArray) (w : World) (hB : B < w.heap.size) (hc : w.cell? ⟨B, 0, none⟩ = some (.string a)) :
  Calls Try.prog 82 #[.agg #[.string x.f0, .string x.f1, .int .i64 x.f2], .pointer (some ⟨B, 0, none⟩)] w fun e w' => e = .returned (.bool (x.f0.toList == a.toList)) ∧ Below w.heap.size w w' := by
 have hne : B ≠ w.heap.size := by omega
 go_enter Try.func82, Try.ntmps82
 go_wp2
 all_goals (go_ret; exact ⟨by first | rfl | simp_all, (Below.refl _ w).alloc (Nat.le_refl _) _⟩)
set_option maxHeartbeats 8000000 in
set_option maxRecDepth 100000 in
theorem index (A : Option Addr) (c : Nat) (l : List S45) (a : ByteArray) (B : Nat) (w : World) (hr : Kd.C k45 w A l.length l) (hB : B < w.heap.size) (hc : w.cell? ⟨B, 0, none⟩ = some (.string a)) :
  Calls Try.prog 77 #[.slice A l.length c, .func (.func 82) #[] #[.pointer (some ⟨B, 0, none⟩)]] w fun e w' => e = .returned (.int .i64 (find a l 0)) ∧ Below w.heap.size w w' := by
 have eg : ∀ args w, (callFunc 82 args).run Try.prog w = .ok (.enter 82 args) w := enters_of Try.func82 (by kernel_rfl) rfl
 have hmax : l.length ≤ 9223372036854775807 := hr.2.1
 have HR := Aside0.mk hr
 have HCL := Aside0.mk (fun (x : S45) (W : World) (hb : Below w.heap.size w W) => closure B x a W (Nat.lt_of_lt_of_le hB hb.size) ((hb.cell (p := ⟨B, 0, none⟩) hB).trans hc))
 clear hr hc
 go_enter Try.func77, Try.ntmps77
 go_wp2
 go_loopg [5, 8] l.length (fun gg _ s8 wr => ∃ i : Int, 0 ≤ i ∧ i ≤ l.length ∧ l.length - i.toNat ≤ gg ∧ s8 = .int .i64 i ∧ Aside0 (Below w.heap.size w wr) ∧ Aside0 (find a l 0 = find a (l.drop i.toNat) i))
 case atStart => exact ⟨0, Int.le_refl _, by omega, by omega, rfl, ⟨Below.refl _ w⟩, ⟨rfl⟩⟩
 case round =>
  obtain ⟨i, hi0, hi1, hg, rfl, HB, HF⟩ := hrel
  by_cases hlt : i < (l.length : Int)
  ·obtain ⟨ad, ea, hx0, hx1, hx2⟩ := at_T45 HR.out i hi0 hlt
   cases ea
   replace hx0 := zU HB.out hx0
   replace hx1 := zU HB.out hx1
   replace hx2 := zU HB.out hx2
   have HD := Aside0.mk (show l.drop i.toNat = rd_T45 l i :: l.drop (i.toNat + 1) by
    have hl : i.toNat < l.length := by omega
    rw [List.drop_eq_getElem_cons hl]
    congr 1
    unfold rd_T45
    rw [List.getD_eq_getElem?_getD, List.getElem?_eq_getElem hl]; rfl)
   generalize rd_T45 l i = x at hx0 hx1 hx2 HD
   have HK := Aside0.mk (HCL.out x wr HB.out)
   have hlt' : decide (i < (l.length : Int)) = true := decide_eq_true hlt
   have h0' : decide (0 ≤ i) = true := decide_eq_true hi0
   by_cases hq : x.f0.toList = a.toList
   ·have e1 : find a l 0 = i := by rw [HF.out, HD.out, find, if_pos hq]
    have hqb : (x.f0.toList == a.toList) = true := beq_iff_eq.mpr hq
    rw [hqb] at HK
    go_wp2_with (go_at_fn 82; refine HK.out.mono ?_; rintro e w' ⟨rfl, hb'⟩)
    go_ret
    exact ⟨by first | rfl | (rw [e1]; rfl), below_step HB.out hb'⟩
   have e1 : find a l 0 = find a (l.drop (i + 1).toNat) (i + 1) := by
    rw [HF.out, HD.out, find, if_neg hq]
    rw [show i.toNat + 1 = (i + 1).toNat by omega]
   have hqb : (x.f0.toList == a.toList) = false := beq_eq_false_iff_ne.mpr hq
   rw [hqb] at HK
   go_wp2_with (go_at_fn 82; refine HK.out.mono ?_; rintro e w' ⟨rfl, hb'⟩)
   go_roundg (l.length - (i + 1).toNat)
   case measure => omega
   case rel => exact ⟨i + 1, by omega, by omega, by omega, by first | rfl | (rw [wrap64_id] <;> omega) | go_num, ⟨below_step HB.out hb'⟩, ⟨e1⟩⟩
  have e1 : find a l 0 = -1 := by rw [HF.out, List.drop_of_length_le (by omega)]; rfl
  have hlt' : decide (i < (l.length : Int)) = false := decide_eq_false hlt
  go_wp2
  go_ret
  exact ⟨by first | rfl | (rw [e1]; rfl), HB.out⟩
/-- none of the name: nothing falls -/
theorem find_none (a : ByteArray) : ∀ (l : List S45) (i : Int), 0 ≤ i → find a l i = -1 → keep a l = l
 | [], _, _, _ => rfl
 | x :: r, i, h0, h => by
  unfold find at h
  split at h
  ·omega
  rename_i hq
  have hqb : (x.f0.toList == a.toList) = false := beq_eq_false_iff_ne.mpr hq
  unfold keep
  rw [List.filter_cons_of_pos (by rw [hqb]; rfl)]
  have := find_none a r (i + 1) (by omega) h
  unfold keep at this
  rw [this]
theorem find_some (a : ByteArray) : ∀ (l : List S45) (i : Int), 0 ≤ i → find a l i ≠ -1 → ∃ k : Nat, find a l i = i + k ∧ ∃ hk : k < l.length, keep a (l.take k) = l.take k ∧ (l[k]).f0.toList = a.toList
 | [], _, _, h => absurd rfl h
 | x :: r, i, h0, h => by
  unfold find at h ⊢
  by_cases hq : x.f0.toList = a.toList
  ·rw [if_pos hq]
   exact ⟨0, by omega, by simp, rfl, hq⟩
  rw [if_neg hq] at h ⊢
  obtain ⟨k, e, hk, h1, h2⟩ := find_some a r (i + 1) (by omega) h
  have hqb : (x.f0.toList == a.toList) = false := beq_eq_false_iff_ne.mpr hq
  refine ⟨k + 1, by rw [e]; omega, by simpa using hk, ?_, by simpa using h2⟩
  rw [List.take_succ_cons]
  unfold keep at h1 ⊢
  rw [List.filter_cons_of_pos (by rw [hqb]; rfl), h1]
end impl_withoutFile
namespace impl_withoutFile
open Go.Proofs.Ytdiecogmaiglaaa.Gen
theorem own_cut {w : World} {base g n c m o : Nat} {e size : Nat} {xs : List Value} (h : w.ownsRow base e size (.slice (some ⟨g, 0, none⟩) n c) n xs) (hm : m ≤ n) (ho : m * size ≤ o) (vs : List Value) (hf : o + vs.length ≤ c * size) :
  (w.setCells g o vs).ownsRow base e size (.slice (some ⟨g, 0, none⟩) m c) m (xs.take (m * size)) := by
 obtain ⟨h1, h2⟩ := h
 rcases h2 with ⟨hv, _⟩ | ⟨g', c', cur, hv, hb, hh, hnc, hcm, hcs, htake⟩
 ·cases hv
 injection hv with ha _ hc
 injection ha with ha
 injection ha with hg
 subst hg; subst hc
 obtain ⟨cur', h3, h4, h5⟩ := setCells_row vs o w cur hh (by omega)
 have hms : m * size ≤ n * size := Nat.mul_le_mul_right _ hm
 have hmc : n * size ≤ c * size := Nat.mul_le_mul_right _ hnc
 refine ⟨by rw [List.length_take, h1, Nat.min_eq_left hms], .inr ⟨g, c, cur', rfl, hb, h3, by omega, hcm, by rw [h4, hcs], ?_⟩⟩
 rw [h5, ← htake, List.take_take, Nat.min_eq_left hms, List.append_assoc, List.take_append_of_le_length (by rw [List.length_take, Array.length_toList]; omega), List.take_take, Nat.min_eq_left ho]
theorem R_blk {w : World} {base g n c : Nat} {ok : Nat → Prop} {l : List S45} (h : Kd.R k45 45 w base ok (.slice (some ⟨g, 0, none⟩) n c) l) : ∃ cur : Array Value, w.heap[g]? = some (.cells cur 45 (0, 0)) ∧ cur.size = c * 3 ∧ n = l.length ∧ n ≤ c ∧ c ≤ maxLen ∧ base ≤ g := by
 have hn := (Kd.R_reads' h).1
 obtain ⟨h1, h2⟩ := own_of_R h
 rcases h2 with ⟨hv, _⟩ | ⟨g', c', cur, hv, hb, hh, hnc, hcm, hcs, htake⟩
 ·cases hv
 injection hv with ha h4 hc
 injection ha with ha
 injection ha with hg
 subst hg; subst hc
 exact ⟨cur, hh, hcs, hn, by omega, hcm, hb⟩
theorem zeros_fl (m : Nat) : (Builtin.zeroCells (Value.agg #[.string ⟨#[]⟩, .string ⟨#[]⟩, .int .i64 0]).cells m).toList = fl (List.replicate m z45) :=
 fl_reps (R := fun x c => c = fcells x) (fun _ _ h => h) _ _ (Kd.reps_zeros (R := fun (x : S45) c => c = fcells x) (z0 := z45) (size := 3) (z := .agg #[.string ⟨#[]⟩, .string ⟨#[]⟩, .int .i64 0]) rfl (by decide) rfl m)
theorem zeros_one (m : Nat) : ∀ v ∈ (Builtin.zeroCells (Value.agg #[.string ⟨#[]⟩, .string ⟨#[]⟩, .int .i64 0]).cells m).toList, v.oneCell' = true := by rw [zeros_fl]; exact fl_one _
set_option maxHeartbeats 8000000 in
set_option maxRecDepth 100000 in
theorem delete (g c : Nat) (l : List S45) (a : ByteArray) (B : Nat) (w : World) (base : Nat) (hr : Kd.R k45 45 w base (fun _ => True) (.slice (some ⟨g, 0, none⟩) l.length c) l) (hB : B < w.heap.size) (hne : B ≠ g) (hc : w.cell? ⟨B, 0, none⟩ = some (.string a)) :
  Calls Try.prog 81 #[.slice (some ⟨g, 0, none⟩) l.length c, .func (.func 82) #[] #[.pointer (some ⟨B, 0, none⟩)]] w fun e w' => e = .returned (.slice (some ⟨g, 0, none⟩) (keep a l).length c) ∧ Kd.R k45 45 w' base (fun _ => True) (.slice (some ⟨g, 0, none⟩) (keep a l).length c) (keep a l) ∧ w.grownBy w' (some g) := by
 have hidx := index (some ⟨g, 0, none⟩) c l a B w (Kd.R_reads' hr).2.2 hB hc
 have hmax : l.length ≤ 9223372036854775807 := (Kd.R_reads' hr).2.2.2.1
 obtain ⟨_, hbk, _, _, hlc, hcm, _⟩ := R_blk hr
 have HRW := Aside0.mk hr
 have hglt := blk_lt hbk
 have HCL := Aside0.mk (fun (x : S45) (W : World) (h1 : B < W.heap.size) (h2 : W.cell? ⟨B, 0, none⟩ = some (.string a)) => closure B x a W h1 h2)
 have HCB := Aside0.mk hc
 clear hr hc hbk
 by_cases hf : find a l 0 = -1
 ·have hk := find_none a l 0 (Int.le_refl _) hf
  rw [hf] at hidx
  rw [hk]
  go_enter Try.func81, Try.ntmps81
  go_wp2_with (go_at_call 77; refine hidx.mono ?_; rintro e w' ⟨rfl, hb'⟩)
  go_ret
  exact ⟨rfl, Kd.R_below HRW.out hb', grown_below hb' _⟩
 obtain ⟨k0, e0, hk0, hkeep, hname⟩ := find_some a l 0 (Int.le_refl _) hf
 rw [Int.zero_add] at e0
 rw [e0] at hidx
 have hst : keep a (l.take (k0 + 1)) = l.take k0 := by
  have hqb : ((l[k0]).f0.toList == a.toList) = true := beq_iff_eq.mpr hname
  rw [List.take_succ_eq_append_getElem hk0]
  unfold keep at hkeep ⊢
  rw [List.filter_append, hkeep, List.filter_cons_of_neg (by rw [hqb]; simp), List.filter_nil, List.append_nil]
 have HST := Aside0.mk hst
 clear hst hname hkeep e0 hf
 have hn1 : ((k0 : Int) == -1) = false := beq_eq_false_iff_ne.2 (by omega)
 go_enter Try.func81, Try.ntmps81
 go_wp2_with (go_at_call 77; refine hidx.mono ?_; rintro e w' ⟨rfl, hb'⟩)
 go_loopg [5, 6, 7] l.length (fun gg s5 s6 _ wr => ∃ (i j : Nat) (M : List S45), s5 = .int .i64 i ∧ s6 = .int .i64 j ∧ j ≤ l.length ∧ l.length - j ≤ gg ∧ i < j ∧ Aside0 (Kd.R k45 45 wr base (fun _ => True) (.slice (some ⟨g, 0, none⟩) l.length c) M) ∧ Aside0 (w.grownBy wr (some g)) ∧ Aside0 (M.take i = keep a (l.take j)) ∧ Aside0 (M.drop j = l.drop j))
 case atStart => exact ⟨k0, k0 + 1, l, rfl, by go_num, by omega, by omega, by omega, ⟨Kd.R_below HRW.out hb'⟩, ⟨grown_below hb' _⟩, ⟨HST.out.symm⟩, ⟨rfl⟩⟩
 case round =>
  obtain ⟨i, j, M, rfl, rfl, hjn, hgg, hij, HR, HG, HT, HD⟩ := hrel
  by_cases hlt : j < l.length
  ·have hltz : (j : Int) < (l.length : Int) := by omega
   have HLEN := Aside0.mk (Kd.R_reads' HR.out).1
   obtain ⟨ad, ea, hx0, hx1, hx2⟩ := at_T45 (Kd.R_reads' HR.out).2.2 (j : Int) (by omega) (by have := HLEN.out; omega)
   cases ea
   obtain ⟨ad2, ea2, hy0, hy1, hy2⟩ := at_T45 (Kd.R_reads' HR.out).2.2 (i : Int) (by omega) (by have := HLEN.out; omega)
   cases ea2
   have hMj : rd_T45 M (j : Int) = l[j] := by
    unfold rd_T45
    rw [Int.toNat_natCast, List.getD_eq_getElem?_getD]
    have h1 := congrArg (fun q => q[0]?) HD.out
    simp only [List.getElem?_drop, Nat.add_zero] at h1
    rw [h1, List.getElem?_eq_getElem hlt]; rfl
   rw [hMj] at hx0 hx1 hx2
   clear hMj
   simp only [add_at, Nat.zero_add, Int.toNat_natCast] at hx0 hx1 hx2 hy0 hy1 hy2
   have hBr : B < wr.heap.size := Nat.lt_of_lt_of_le hB HG.out.size
   have hBc : wr.cell? ⟨B, 0, none⟩ = some (.string a) := HG.out.cell HCB.out (by simp; omega)
   have hgr : g < wr.heap.size := Nat.lt_of_lt_of_le hglt HG.out.size
   have hne1 : B ≠ wr.heap.size := by omega
   have hne2 : g ≠ wr.heap.size := by omega
   have hne3 : wr.heap.size ≠ B := by omega
   have hne4 : wr.heap.size ≠ g := by omega
   have HX := Aside0.mk (show l[j] = l[j] from rfl)
   generalize hx : l[j] = x at hx0 hx1 hx2
   obtain ⟨WA, hWA⟩ : ∃ WA, WA = wr.alloc (.cells #[.string x.f0, .string x.f1, .int .i64 x.f2] 45) := ⟨_, rfl⟩
   have HCX : Calls Try.prog 82 #[.agg #[.string x.f0, .string x.f1, .int .i64 x.f2], .pointer (some ⟨B, 0, none⟩)] WA fun e w' => e = .returned (.bool (x.f0.toList == a.toList)) ∧ Below WA.heap.size WA w' := by
    rw [hWA]
    exact HCL.out x _ (Nat.lt_of_lt_of_le hBr (by simp)) (Lib.cell?_alloc_some _ hBc)
   have hsz : WA.heap.size = wr.heap.size + 1 := by rw [hWA]; simp
   have old : ∀ w2 : World, Below WA.heap.size WA w2 → ∀ (p : Addr) (v : Value), wr.cell? p = some v → w2.cell? p = some v := fun w2 hb2 p v hv => by
    have hlt2 := World.block_lt_of_cell? wr p hv
    rw [hb2.cell (p := p) (by rw [hsz]; omega), hWA]
    exact Lib.cell?_alloc_some _ hv
   have new : ∀ w2 : World, Below WA.heap.size WA w2 → w2.heap[wr.heap.size]? = some (.cells #[.string x.f0, .string x.f1, .int .i64 x.f2] 45 (0, 0)) := fun w2 hb2 => by
    rw [hb2.block wr.heap.size (by rw [hsz]; omega), hWA]
    exact blk_new _ _
   have HRW2 := Aside0.mk (fun (w2 : World) (hb2 : Below WA.heap.size WA w2) => (show Kd.R k45 45 w2 base (fun _ => True) (.slice (some ⟨g, 0, none⟩) l.length c) M ∧ w.grownBy w2 (some g) from ⟨Kd.R_below (by rw [hWA]; exact Kd.R_alloc HR.out _) hb2, grown_trans HG.out (grown_trans (by rw [hWA]; exact World.grownBy_alloc _ _ _) (grown_below hb2 _))⟩))
   have HOLD := Aside0.mk old
   have HNEW := Aside0.mk new
   clear old new
   cases hq : (x.f0.toList == a.toList) with
   | true =>
    rw [hq] at HCX
    rw [hWA] at HCX
    go_wp2_with (go_at_call 82; refine HCX.mono ?_; rintro e w2 ⟨rfl, hb2⟩)
    rw [← hWA] at hb2
    go_roundg (l.length - (j + 1))
    case measure => omega
    case rel =>
     have hR2 := HRW2.out w2 hb2
     refine ⟨i, j + 1, M, rfl, by go_num, by omega, Nat.le_refl _, by omega, ⟨hR2.1⟩, ⟨hR2.2⟩, ⟨?_⟩, ⟨?_⟩⟩
     ·rw [List.take_succ_eq_append_getElem hlt, hx]
      have e := HT.out
      unfold keep at e ⊢
      rw [List.filter_append, List.filter_cons_of_neg (by rw [hq]; simp), List.filter_nil, List.append_nil]
      exact e
     have e := congrArg (List.drop 1) HD.out
     rw [List.drop_drop, List.drop_drop] at e
     exact e
   | false =>
    rw [hq] at HCX
    rw [hWA] at HCX
    go_wp2_with (go_at_call 82; refine HCX.mono ?_; rintro e w2 ⟨rfl, hb2⟩; rw [← hWA] at hb2; have z0 := (blk_cell (HNEW.out w2 hb2) 0).trans rfl; have z1 := (blk_cell (HNEW.out w2 hb2) 1).trans rfl; have z2 := (blk_cell (HNEW.out w2 hb2) 2).trans rfl; have y0 := HOLD.out w2 hb2 _ _ hy0; have y1 := HOLD.out w2 hb2 _ _ hy1; have y2 := HOLD.out w2 hb2 _ _ hy2; have f0 := blk_frozen (R_blk (HRW2.out w2 hb2).1).choose_spec.1)
    have hR2 := HRW2.out w2 hb2
    have hstep := Kd.R_seg hR2.1 (i : Int) (by omega) (by omega) (c := [.string (rd_T45 M (i : Int)).f0, .string (rd_T45 M (i : Int)).f1, .int .i64 (rd_T45 M (i : Int)).f2]) (seg := [.string x.f0, .string x.f1, .int .i64 x.f2]) (j := 0) rfl (fun q u hu => by
     match q, hu with
     | 0, hu => injection hu with hu; subst hu; exact y0
     | 1, hu => injection hu with hu; subst hu; exact y1
     | 2, hu => injection hu with hu; subst hu; exact y2) (show 3 ≤ 3 from by decide) (x' := x) (okp := fun k => k ≠ g) (k45_mkM _ _ _ x) (fun k hk => ⟨trivial, hk⟩)
    rw [Int.toNat_natCast] at hstep
    go_roundg (l.length - (j + 1))
    case measure => omega
    case rel =>
     refine ⟨i + 1, j + 1, M.set i x, by go_num, by go_num, by omega, Nat.le_refl _, by omega, ⟨hstep.1⟩, ⟨grown_trans hR2.2 hstep.2⟩, ⟨?_⟩, ⟨?_⟩⟩
     ·have e := HT.out
      rw [take_set_next M i x (by have := HLEN.out; omega), e, List.take_succ_eq_append_getElem hlt, hx]
      unfold keep
      rw [List.filter_append, List.filter_cons_of_pos (by rw [hq]; rfl), List.filter_nil]
     have e := congrArg (List.drop 1) HD.out
     rw [List.drop_drop, List.drop_drop] at e
     rw [List.drop_set_of_lt (by omega)]
     exact e
  obtain rfl : j = l.length := by omega
  have hlen := (Kd.R_reads' HR.out).1
  obtain ⟨cur, hbk, hcs, -, -, -, -⟩ := R_blk HR.out
  have hci : ¬ (c = i) := by omega
  have hi2 : i ≤ M.length := by omega
  have hic : i ≤ c := by omega
  have hfin : M.take i = keep a l := by have := HT.out; rw [List.take_length] at this; exact this
  have hil : (keep a l).length = i := by rw [← hfin, List.length_take]; omega
  have hzl : (Builtin.zeroCells (Value.agg #[.string ⟨#[]⟩, .string ⟨#[]⟩, .int .i64 0]).cells (l.length - i)).toList.length = (l.length - i) * 3 := by
   rw [Array.length_toList, size_zeroCells]; rfl
  have hcl : ∀ ty, (Builtin.clear_ #[27] ty #[.slice (some ⟨g, i * 3, none⟩) (l.length - i) (c - i)]).run Try.prog wr = .ok (.tuple #[]) (wr.setCells g (i * 3) (Builtin.zeroCells (Value.agg #[.string ⟨#[]⟩, .string ⟨#[]⟩, .int .i64 0]).cells (l.length - i)).toList) := fun ty =>
   run_clear_many wr 27 45 ty (.agg #[.string ⟨#[]⟩, .string ⟨#[]⟩, .int .i64 0]) Try.underlying27 Try.zeroValue45 g (i * 3) (l.length - i) (c - i) (by omega)
    (fun q hq => by rw [hzl] at hq; exact blk_cells hbk _ (by rw [hcs]; omega)) (fun q _ => blk_frozen hbk _) (zeros_one _)
  have hown : wr.ownsRow base 45 3 (.slice (some ⟨g, 0, none⟩) l.length c) l.length (fl M) := by
   have h := own_of_R HR.out
   rw [← hlen] at h; exact h
  have hcut := own_cut hown (m := i) (o := i * 3) (by omega) (Nat.le_refl _) (Builtin.zeroCells (Value.agg #[.string ⟨#[]⟩, .string ⟨#[]⟩, .int .i64 0]).cells (l.length - i)).toList (by rw [hzl]; omega)
  have HCUT := Aside0.mk hcut
  clear hcut hlen hbk hzl
  have hltz : ¬ ((l.length : Int) < (l.length : Int)) := by omega
  go_wp2_with (at_builtin; refine wpList_clear_run _ rfl _ _ rfl _ rfl (hcl _) ?_)
  go_ret
  refine ⟨rfl, R_of_own (fun _ _ => trivial) ?_, grown_trans HG.out (grown_setCells _ _ _ _)⟩
  rw [← hfin, ← fl_take, List.length_take, Nat.min_eq_left hi2]
  exact HCUT.out
end impl_withoutFile
namespace impl_withoutFile
open Go.Proofs.Ytdiecogmaiglaaa.Gen
theorem delete_any (v : Value) (l : List S45) (a : ByteArray) (B : Nat) (w : World) (base : Nat) (hr : Kd.R k45 45 w base (fun _ => True) v l) (hB : B < w.heap.size) (hne : ∀ k, v.ownBlock = some k → B ≠ k) (hc : w.cell? ⟨B, 0, none⟩ = some (.string a)) :
  Calls Try.prog 81 #[v, .func (.func 82) #[] #[.pointer (some ⟨B, 0, none⟩)]] w fun e w' => ∃ v', e = .returned v' ∧ Kd.R k45 45 w' base (fun _ => True) v' (keep a l) ∧ w.grownBy w' v.ownBlock := by
 have hr' := hr
 obtain ⟨_, inner, hown, hreps⟩ := hr'
 rcases hown.2 with ⟨rfl, h0⟩ | ⟨g, cap, cur, rfl, _⟩
 ·have hl : l = [] := List.eq_nil_of_length_eq_zero h0
  subst hl
  have hidx := index none 0 [] a B w (Kd.C_nil k45 w) hB hc
  go_enter Try.func81, Try.ntmps81
  go_wp2_with (go_at_call 77; refine hidx.mono ?_; rintro e w' ⟨rfl, hb'⟩)
  go_ret
  exact ⟨_, rfl, Kd.R_below hr hb', grown_below hb' _⟩
 exact (delete g cap l a B w base hr hB (hne g rfl) hc).mono (by
  rintro e w' ⟨rfl, h1, h2⟩
  exact ⟨_, rfl, h1, h2⟩)
end impl_withoutFile
def impl_withoutFile.f (l0_0 : List S45) (a1 : ByteArray) : Option (List S45) := if l0_0.length < 3518437208880 then some (impl_withoutFile.keep a1 l0_0) else none
set_option maxHeartbeats 8000000 in
set_option maxRecDepth 100000 in
theorem impl_withoutFile.calls (A0_0 : Option Addr) (c0_0 : Nat) (l0_0 : List S45) (a1 : ByteArray) (r : List S45) (w : World) (hr0_0 : Kd.C k45 w A0_0 l0_0.length l0_0) (hc0_0 : l0_0.length ≤ c0_0) (h : impl_withoutFile.f l0_0 a1 = some r) :
  Calls Try.prog 67 #[.agg #[.slice A0_0 l0_0.length c0_0], .string a1] w fun e w' => ∃ v0_ : Value, e = .returned (.agg #[v0_]) ∧ Kd.R k45 45 w' w.heap.size (fun _ => True) v0_ r ∧ Below w.heap.size w w' := by
 unfold impl_withoutFile.f at h
 by_cases hl : l0_0.length < 3518437208880
 case neg => rw [if_neg hl] at h; cases h
 rw [if_pos hl] at h
 obtain rfl := Option.some.inj h
 clear h
 have hcf : impl_copyDisk.f l0_0 = some l0_0 := by
  unfold impl_copyDisk.f
  simp only [Option.bind_some, List.length_nil, Nat.zero_add, List.nil_append]
  rw [if_pos (by omega)]
 obtain ⟨W0, hW0⟩ : ∃ W0, W0 = ((w.alloc (.cells #[.slice A0_0 l0_0.length c0_0] 29)).alloc (.cells #[.string a1] 9)).alloc (.cells #[.slice none 0 0] 29) := ⟨_, rfl⟩
 have hb0 : Below w.heap.size w W0 := by rw [hW0]; exact below_alloc (below_alloc (below_alloc (Below.refl _ _) _) _) _
 have hs0 : W0.heap.size = w.heap.size + 3 := by rw [hW0]; simp
 have hbx : W0.heap[w.heap.size + 1]? = some (.cells #[.string a1] 9 (0, 0)) := by rw [hW0]; exact blk_alloc (by have := blk_new (w.alloc (.cells #[.slice A0_0 l0_0.length c0_0] 29)) (.cells #[.string a1] 9 (0, 0)); simpa using this) _
 have hby : W0.heap[w.heap.size + 2]? = some (.cells #[.slice none 0 0] 29 (0, 0)) := by rw [hW0]; have := blk_new ((w.alloc (.cells #[.slice A0_0 l0_0.length c0_0] 29)).alloc (.cells #[.string a1] 9)) (.cells #[.slice none 0 0] 29 (0, 0)); simpa using this
 have hcopy := impl_copyDisk.calls A0_0 c0_0 l0_0 l0_0 W0 (Kd.C_below hr0_0 hb0) hc0_0 hcf
 have HK := Aside0.mk (fun (w1 : World) (v0 : Value) (hR : Kd.R k45 45 w1 W0.heap.size (fun _ => True) v0 l0_0) (hb1 : Below W0.heap.size W0 w1) =>
  (impl_withoutFile.delete_any v0 l0_0 a1 (w.heap.size + 1) w1 W0.heap.size hR (by have := hb1.size; omega) (fun k hk => by have := Kd.R_base hR k hk; omega) ((blk_cell (blk_below hbx hb1) 0).trans rfl)))
 rw [hW0] at hcopy
 have hfd : ∀ (v : Value) (w : World), (Instr.field 29 (.agg #[v]) 0).run Try.prog w = .ok v w := fun _ _ => by kernel_rfl
 go_enter Try.func67, Try.ntmps67
 go_wp2_with (first
  | (go_at_call 61; refine hcopy.mono ?_; rintro e w1 ⟨v0, rfl, hR, hb1⟩; rw [← hW0] at hR hb1)
  | (go_at_call 81; refine (HK.out _ _ hR hb1).mono ?_; rintro e w2 ⟨v1, rfl, hR2, hg2⟩; obtain ⟨A2, c2, hv2⟩ := Kd.R_slice hR2; subst hv2; have Aa := (hg2.block (w.heap.size + 2) (by have := hb1.size; omega) (fun hk => by have := Kd.R_base hR _ hk.symm; omega)).trans (blk_below hby hb1); have hc2 : w2.cell? ⟨w.heap.size + 1 + 1, 0, none⟩ = some (.slice none 0 0) := (blk_cell Aa 0).trans rfl; have hf2 : w2.frozen? ⟨w.heap.size + 1 + 1, 0, none⟩ = false := blk_frozen Aa 0))
 refine bodyPost_ret (results_cell_row rfl _ _ (w.heap.size + 1 + 1) 29 #[.slice A2 (impl_withoutFile.keep a1 l0_0).length c2] (0, 0) _ rfl (blk_put (cs := #[.slice none 0 0]) Aa 0 _ rfl) Try.underlying29 rfl (by kernel_rfl)) rfl ?_
 have hbW : Below w.heap.size w w2 := by
  refine ⟨hg2.os.trans (hb1.os.trans hb0.os), hg2.tape.trans (hb1.tape.trans hb0.tape), hg2.output.trans (hb1.output.trans hb0.output), Nat.le_trans hb0.size (Nat.le_trans hb1.size hg2.size), fun k hk => ?_⟩
  rw [hg2.block k (by have := hb1.size; omega) (fun hk2 => by have := Kd.R_base hR _ hk2.symm; omega), hb1.block k (by omega), hb0.block k hk]
 refine ⟨_, rfl, ?_, below_set hbW (by omega)⟩
 exact Kd.R_mono (Kd.R_far (p := ⟨w.heap.size + 1 + 1, 0, none⟩) (Kd.R_lower (Kd.R_bound hR2) (by omega)) (fun k hk => by have := hk.2.1; show k ≠ w.heap.size + 1 + 1; omega) _) (fun _ _ => trivial)

-- NOT PRINTED: function 80 (impl_File_80)

/-! ### impl_withFile: function 66, given by hand -/
namespace impl_withFile
open Go.Proofs.Ytdiecogmaiglaaa.Gen impl_withoutFile
theorem blk_seg {w : World} {g : Nat} {e : TypeId} {cur : Array Value} (h : w.heap[g]? = some (.cells cur e (0, 0))) {o m : Nat} {cs : List Value} (hcs : (cur.toList.drop o).take m = cs) : ∀ j v, cs[j]? = some v → w.cell? ⟨g, o + j, none⟩ = some v := by
 intro j v hj
 rw [← hcs, List.getElem?_take] at hj
 split at hj
 ·rw [List.getElem?_drop, Array.getElem?_toList] at hj
  rw [cell_of_row w g (o + j) cur e (0, 0) h, hj]
 cases hj
set_option maxHeartbeats 8000000 in
set_option maxRecDepth 100000 in
/-- slices.Insert at the end -/
theorem insert_end {ok : Nat → Prop} (v : Value) (l : List S45) (x : S45) (vb : Nat) (w : World) (base : Nat) (hr : Kd.R k45 45 w base ok v l) (hbase : base ≤ w.heap.size) (hl : l.length < 3518437208880) (hfr : ∀ k, w.heap.size ≤ k → ok k) (hvb : w.heap[vb]? = some (.cells #[.string x.f0, .string x.f1, .int .i64 x.f2] 45 (0, 0))) :
  Calls Try.prog 80 #[v, .int .i64 (l.length : Int), .slice (some ⟨vb, 0, none⟩) 1 1] w fun e w' => ∃ v', e = .returned v' ∧ Kd.R k45 45 w' base ok v' (l ++ [x]) ∧ w.grownBy w' v.ownBlock := by
 obtain ⟨i0, hi, hz0, hz1, hz2⟩ := info_parts info45
 have hown := own_of_R hr
 have hnews : ∀ j u, (fcells x)[j]? = some u → w.cell? ((⟨vb, 0, none⟩ : Addr).add j) = some u := fun j u hu => by
  rw [add_at, Nat.zero_add]
  have := blk_seg hvb (o := 0) (m := 3) (cs := fcells x) rfl j u hu
  rwa [Nat.zero_add] at this
 have hrun : ∀ ty, _ := fun ty => run_append_own_at (P := Try.prog) w base 27 ty 45 i0 _ 3 40 Try.underlying27 hi hz0 hz1 hz2 rfl (by decide) v l.length (fl l) hown ⟨vb, 0, none⟩ 1 1 (fcells x) rfl hnews (fun u hu => fl_one [x] u (by simpa [fl] using hu)) (by unfold maxLen; omega) (by omega) hbase
 obtain ⟨A, c, rfl⟩ := Kd.R_slice hr
 obtain ⟨v', w', h1, h2, h3, h4, h5⟩ := hrun 27
 have HR := Aside0.mk (show Kd.R k45 45 w' base ok v' (l ++ [x]) from R_of_own (fun k hk => by
  rcases h5 with h5 | h5
  ·exact hr.1 k (h5 ▸ hk)
  rw [h5] at hk; injection hk with hk; exact hfr k (by omega)) (by rw [List.length_append, fl_append]; simpa [fl] using h2))
 have H3 := Aside0.mk (fun q => (show w.grownBy w' (Value.slice A l.length q).ownBlock by cases A <;> exact h3))
 clear hrun hnews hown h2 h5 h4 h3
 have hz : ¬ ((1 : Int) = 0) := by decide
 go_enter Try.func80, Try.ntmps80
 go_wp2_with (at_builtin; refine Lib.wpList_append_run _ rfl _ _ _ _ rfl _ _ rfl rfl _ _ h1 ?_)
 all_goals (go_ret; exact ⟨_, rfl, HR.out, H3.out _⟩)
theorem fl_put (l : List S45) (x : S45) (i : Nat) (hi : i ≤ l.length) (cur' : List Value) (h : cur' = fl (l.take i) ++ fcells x ++ fl (l.drop i)) : cur' = fl (l.take i ++ x :: l.drop i) := by
 rw [h, fl_append, fl_cons, List.append_assoc]
set_option maxHeartbeats 8000000 in
set_option maxRecDepth 100000 in
/-- slices.Insert ahead of the end, there is room -/
theorem insert_shift {ok : Nat → Prop} (g c : Nat) (l : List S45) (x : S45) (i vb : Nat) (w : World) (base : Nat) (hr : Kd.R k45 45 w base ok (.slice (some ⟨g, 0, none⟩) l.length c) l) (hi : i < l.length) (hc : l.length + 1 ≤ c) (hne : vb ≠ g) (hfr : ∀ k, w.heap.size ≤ k → ok k) (hvb : w.heap[vb]? = some (.cells #[.string x.f0, .string x.f1, .int .i64 x.f2] 45 (0, 0))) :
  Calls Try.prog 80 #[.slice (some ⟨g, 0, none⟩) l.length c, .int .i64 (i : Int), .slice (some ⟨vb, 0, none⟩) 1 1] w fun e w' => ∃ v', e = .returned v' ∧ Kd.R k45 45 w' base ok v' (l.take i ++ x :: l.drop i) ∧ w.grownBy w' (some g) := by
 have hinfo : (Try.prog.info? 45).map (·.size) = some 3 := by kernel_rfl
 obtain ⟨cur, hbk, hcs, -, -, hcm, hbg⟩ := R_blk hr
 have hown := own_of_R hr
 have htk : cur.toList.take (l.length * 3) = fl l := by
  rcases hown.2 with ⟨hv, _⟩ | ⟨g', c', cur', hv, _, hh, _, _, _, ht⟩
  ·cases hv
  injection hv with ha _ hc'
  injection ha with ha
  injection ha with hg
  subst hg
  rw [hbk] at hh
  injection hh with hh
  injection hh with hh
  subst hh
  exact ht
 have hlen : (fl (l.drop i)).length = (l.length - i) * 3 := by rw [fl_len, List.length_drop]
 have hov : ∀ lb cb, (callFunc 88 #[.slice (some ⟨vb, 0, none⟩) 1 1, .slice (some ⟨g, (i + 1) * 3, none⟩) lb cb]).run Try.prog w = .ok (.value (.bool false)) w := fun lb cb => by
  rw [run_callFunc_extern Try.func88 (by kernel_rfl) (by kernel_rfl) (by kernel_rfl) (e := Extern.SlicesOverlaps.overlaps #[27, 27] #[4]) (by kernel_rfl),
   Lib.run_overlaps_apart w 27 4 45 Try.underlying27 3 Try.sizeOf45 ⟨vb, 0, none⟩ ⟨g, (i + 1) * 3, none⟩ 1 1 lb cb hne 45 45 3 cur.size (by simp [World.shape?, hvb]) (by simp [World.shape?, hbk]) (by rw [hcs]; omega) (blk_frozen hvb 0) (blk_frozen hvb 3)]
  rfl
 obtain ⟨W1, hW1⟩ : ∃ W1, W1 = w.drew.setCells g ((i + 1) * 3) (fl (l.drop i)) := ⟨_, rfl⟩
 obtain ⟨W2, hW2⟩ : ∃ W2, W2 = W1.setCells g (i * 3) (fcells x) := ⟨_, rfl⟩
 obtain ⟨cur1, hb1, hs1, ht1⟩ := setCells_row (fl (l.drop i)) ((i + 1) * 3) w.drew cur hbk (by rw [hlen, hcs]; omega)
 rw [← hW1] at hb1
 obtain ⟨cur2, hb2, hs2, ht2⟩ := setCells_row (fcells x) (i * 3) W1 cur1 hb1 (by show i * 3 + 3 ≤ cur1.size; rw [hs1, hcs]; omega)
 rw [← hW2] at hb2
 have hsrc : (cur.toList.drop (i * 3)).take ((l.length - i) * 3) = fl (l.drop i) := by
  rw [← fl_drop, ← htk, List.drop_take]
  congr 1
  omega
 have hcp1 : ∀ ty dc sc, (Builtin.copy_ #[27, 27] ty #[.slice (some ⟨g, (i + 1) * 3, none⟩) (l.length - i) dc, .slice (some ⟨g, i * 3, none⟩) (l.length + 1 - i) sc]).run Try.prog w.drew = .ok (goInt ((l.length - i : Nat) : Int)) W1 := fun ty dc sc => by
  have h := run_copy_many (P := Try.prog) w.drew 27 27 ty 45 3 g ((i + 1) * 3) (l.length - i) dc ⟨g, i * 3, none⟩ (l.length + 1 - i) sc (fl (l.drop i)) Try.underlying27 hinfo
   (by rw [hlen]; simp only [Nat.min_def]; split <;> omega) (fun j v hj => by rw [add_at]; exact blk_seg (w := w.drew) hbk hsrc j v hj) (fun j hj => blk_cells (w := w.drew) hbk _ (by rw [hcs]; omega)) (fun j _ => blk_frozen (w := w.drew) hbk _) (fl_one _)
  rw [← hW1] at h
  rw [h]
  congr 3
  simp only [Nat.min_def]; split <;> omega
 have hvb1 : W1.heap[vb]? = some (.cells #[.string x.f0, .string x.f1, .int .i64 x.f2] 45 (0, 0)) := by rw [hW1, setCells_far _ _ vb hne]; exact hvb
 have hcp2 : ∀ W : World, W.heap = W1.heap → ∀ ty dc, (Builtin.copy_ #[27, 27] ty #[.slice (some ⟨g, i * 3, none⟩) (l.length + 1 - i) dc, .slice (some ⟨vb, 0, none⟩) 1 1]).run Try.prog W = .ok (goInt ((1 : Nat) : Int)) (W.setCells g (i * 3) (fcells x)) := fun W hW ty dc => by
  have h := run_copy_many (P := Try.prog) W 27 27 ty 45 3 g (i * 3) (l.length + 1 - i) dc ⟨vb, 0, none⟩ 1 1 (fcells x) Try.underlying27 hinfo
   (by show 3 = _; simp only [Nat.min_def]; split <;> omega) (fun j v hj => by rw [add_at]; exact blk_seg (w := W) (by rw [hW]; exact hvb1) (o := 0) (m := 3) (cs := fcells x) rfl j v hj) (fun j hj => blk_cells (w := W) (by rw [hW]; exact hb1) _ (by have : j < 3 := hj; rw [hs1, hcs]; omega)) (fun j _ => blk_frozen (w := W) (by rw [hW]; exact hb1) _) (fun u hu => fl_one [x] u (by simpa [fl] using hu))
  rw [h]
  congr 3
  simp only [Nat.min_def]; split <;> omega
 have hfin : ∀ W : World, W.heap = W1.heap → W.os = w.os → W.tape = w.tape → W.output = w.output → Kd.R k45 45 (W.setCells g (i * 3) (fcells x)) base ok (.slice (some ⟨g, 0, none⟩) (l.length + 1) c) (l.take i ++ x :: l.drop i) ∧ w.grownBy (W.setCells g (i * 3) (fcells x)) (some g) := fun W hW ho ht hout => by
  obtain ⟨cur3, hb3, hs3, ht3⟩ := setCells_row (fcells x) (i * 3) W cur1 (by rw [hW]; exact hb1) (by show i * 3 + 3 ≤ cur1.size; rw [hs1, hcs]; omega)
  have hll : (l.take i ++ x :: l.drop i).length = l.length + 1 := by rw [List.length_append, List.length_take, List.length_cons, List.length_drop]; omega
  refine ⟨R_of_own (fun k hk => hr.1 k hk) ⟨fl_len _, .inr ⟨g, c, cur3, by rw [hll], hbg, hb3, by omega, hcm, by rw [hs3, hs1, hcs], ?_⟩⟩, grown_trans ?_ (grown_setCells W g _ _)⟩
  ·rw [hll, ht3, ht1]
   have ha : cur.toList.length = c * 3 := by rw [Array.length_toList, hcs]
   have e1 : (cur.toList.take ((i + 1) * 3) ++ fl (l.drop i) ++ cur.toList.drop ((i + 1) * 3 + (fl (l.drop i)).length)).take (i * 3) = fl (l.take i) := by
    rw [List.append_assoc, List.take_append_of_le_length (by rw [List.length_take]; omega), List.take_take, Nat.min_eq_left (by omega), ← fl_take, ← htk, List.take_take, Nat.min_eq_left (by omega)]
   have e2 : (cur.toList.take ((i + 1) * 3) ++ fl (l.drop i) ++ cur.toList.drop ((i + 1) * 3 + (fl (l.drop i)).length)).drop (i * 3 + (fcells x).length) = fl (l.drop i) ++ cur.toList.drop ((i + 1) * 3 + (fl (l.drop i)).length) := by
    rw [List.append_assoc]
    exact List.drop_left' (by rw [List.length_take]; show _ = i * 3 + 3; omega)
   rw [e1, e2, fl_append, fl_cons, ← List.append_assoc, ← List.append_assoc]
   exact List.take_left' (by rw [List.length_append, List.length_append, hlen, fl_len, List.length_take]; show _ + 3 + _ = _; omega)
  exact ⟨ho, ht, hout, by rw [hW, hW1]; exact Nat.le_of_eq (setCells_same g _ _ w.drew).2.2.2.symm, fun k _ hk => by rw [hW, hW1]; exact setCells_far (w := w.drew) _ _ k (fun e => hk (by rw [e]))⟩
 have HFIN := Aside0.mk hfin
 have hz : ¬ ((1 : Int) = 0) := by decide
 have hz2 : ¬ ((i : Int) = (l.length : Int)) := by omega
 have hb2' : ¬ (c = i + 1) := by omega
 have hb4 : ¬ (c = i) := by omega
 have hb3 : (i : Int) ≤ (l.length : Int) + 1 := by omega
 have hin : i ≤ l.length := by omega
 have mixed : Try.prog.follows .mixedOrders = true := by kernel_rfl
 have hw1 : IntKind.i64.wrap ((i : Int) + 1) = (i : Int) + 1 := by rw [IntKind.wrap_i64]; unfold maxLen at hcm; omega
 have hp1 : (0 : Int) ≤ (i : Int) + 1 := by omega
 have htn : ((i : Int) + 1).toNat = i + 1 := by omega
 have hmax : c ≤ 9223372036854775807 := hcm
 clear hfin hcs hbk hown htk hlen hb1 hs1 ht1 hb2 hs2 ht2 hsrc hvb1 hr hvb
 go_enter Try.func80, Try.ntmps80
 go_wp2_with (simp only [hov])
 go_region_law_o (refine step_copy_runI rfl _ _ 27 27 rfl _ _ (by simp [Act.eval, Act.put]) (by simp [Act.eval, Act.put]) (hcp1 _ _ _) ?_)
 go_wp2_with (at_builtin; refine wpList_copy_runI _ rfl _ _ 27 27 rfl _ _ rfl rfl (hcp2 _ rfl _ _) ?_)
 go_ret
 have hsm := setCells_same g (fl (l.drop i)) ((i + 1) * 3) w.drew
 have hf := HFIN.out W1 rfl (by rw [hW1]; exact hsm.1) (by rw [hW1]; exact hsm.2.1) (by rw [hW1]; exact hsm.2.2.1)
 rw [hW1] at hf
 exact ⟨_, rfl, hf.1, hf.2⟩
set_option maxHeartbeats 8000000 in
set_option maxRecDepth 100000 in
/-- slices.Insert ahead of the end, no room -/
theorem insert_grow {ok : Nat → Prop} (g c : Nat) (l : List S45) (x : S45) (i vb : Nat) (w : World) (base : Nat) (hr : Kd.R k45 45 w base ok (.slice (some ⟨g, 0, none⟩) l.length c) l) (hbase : base ≤ w.heap.size) (hi : i < l.length) (hc : c < l.length + 1) (hl : l.length < 3518437208880) (hfr : ∀ k, w.heap.size ≤ k → ok k) (hvb : w.heap[vb]? = some (.cells #[.string x.f0, .string x.f1, .int .i64 x.f2] 45 (0, 0))) :
  Calls Try.prog 80 #[.slice (some ⟨g, 0, none⟩) l.length c, .int .i64 (i : Int), .slice (some ⟨vb, 0, none⟩) 1 1] w fun e w' => ∃ v', e = .returned v' ∧ Kd.R k45 45 w' base ok v' (l.take i ++ x :: l.drop i) ∧ w.grownBy w' (some g) := by
 have hinfo : (Try.prog.info? 45).map (·.size) = some 3 := by kernel_rfl
 obtain ⟨i0, hi0, hz0, hz1, hz2⟩ := info_parts info45
 obtain ⟨cur, hbk, hcs, -, hlc, hcm, hbg⟩ := R_blk hr
 have hown := own_of_R hr
 have htk : cur.toList.take (l.length * 3) = fl l := by
  rcases hown.2 with ⟨hv, _⟩ | ⟨g', c', cur', hv, _, hh, _, _, _, ht⟩
  ·cases hv
  injection hv with ha _ hc'
  injection ha with ha
  injection ha with hg
  subst hg
  rw [hbk] at hh
  injection hh with hh
  injection hh with hh
  subst hh
  exact ht
 have hlen : (fl (l.drop i)).length = (l.length - i) * 3 := by rw [fl_len, List.length_drop]
 have hlt : (fl (l.take i)).length = i * 3 := by rw [fl_len, List.length_take, Nat.min_eq_left (by omega)]
 have hglt := blk_lt hbk
 have hvlt := blk_lt hvb
 have hold : (Builtin.firstCells i0.size i (.slice (some ⟨g, 0, none⟩) i c)).run Try.prog w.drew = .ok (fl (l.take i)).toArray w.drew := by
  rw [hz1]
  refine run_firstCells_some w.drew 3 i ⟨g, 0, none⟩ i c (fl (l.take i)) (by rw [hlt]) (fun j v hj => ?_)
  rw [add_at]
  refine blk_seg (w := w.drew) hbk (o := 0) (m := i * 3) ?_ j v hj
  rw [List.drop_zero, ← fl_take, ← htk, List.take_take, Nat.min_eq_left (by omega)]
 have hik : i + (l.length + 1 - i) = l.length + 1 := by omega
 have hrz : ∀ ty, (Builtin.append_ #[27, 3] ty #[.slice (some ⟨g, 0, none⟩) i c, .int .i64 ((l.length : Int) + 1 - (i : Int))]).run Try.prog w =
   .ok (.slice (some ⟨w.heap.size, 0, none⟩) (l.length + 1) (grownCap w (l.length + 1) c 45)) (w.drew.alloc (.cells ((fl (l.take i)).toArray ++ Builtin.zeroCells (Value.agg #[.string ⟨#[]⟩, .string ⟨#[]⟩, .int .i64 0]).cells (l.length + 1 - i) ++ Builtin.zeroCells (Value.agg #[.string ⟨#[]⟩, .string ⟨#[]⟩, .int .i64 0]).cells (grownCap w (l.length + 1) c 45 - (l.length + 1))) 45)) := fun ty => by
  have h := Lib.run_append_grow_zeros w 27 3 ty 45 i0 _ .i64 .i64 Try.underlying27 Try.underlying3 hi0 hz0 (some ⟨g, 0, none⟩) i c (fl (l.take i)) hold (l.length + 1 - i) (by omega) (by omega) (by omega) (by omega) (by rw [hz2]; omega) (by rw [hz2, hik]; exact growslice_fits hc (by omega))
  rw [hik] at h
  rw [show (l.length : Int) + 1 - (i : Int) = ((l.length + 1 - i : Nat) : Int) by omega]
  exact h
 obtain ⟨G, hG⟩ : ∃ G, G = grownCap w (l.length + 1) c 45 := ⟨_, rfl⟩
 obtain ⟨ROW, hROW⟩ : ∃ ROW : Array Value, ROW = (fl (l.take i)).toArray ++ Builtin.zeroCells (Value.agg #[.string ⟨#[]⟩, .string ⟨#[]⟩, .int .i64 0]).cells (l.length + 1 - i) ++ Builtin.zeroCells (Value.agg #[.string ⟨#[]⟩, .string ⟨#[]⟩, .int .i64 0]).cells (G - (l.length + 1)) := ⟨_, rfl⟩
 rw [← hG, ← hROW] at hrz
 have hGn : l.length + 1 ≤ G := by rw [hG]; exact grownCap_ge w _ _ _
 have hG63 : G ≤ maxLen := by rw [hG]; exact grownCap_le_maxLen w (l.length + 1) c 45 (by unfold maxLen; omega)
 have hRl : ROW.toList = fl (l.take i) ++ (fl (List.replicate (l.length + 1 - i) z45) ++ fl (List.replicate (G - (l.length + 1)) z45)) := by
  rw [hROW, Array.toList_append, Array.toList_append, zeros_fl, zeros_fl, List.append_assoc]
 have hRs : ROW.size = G * 3 := by
  rw [← Array.length_toList, hRl, List.length_append, List.length_append, hlt, fl_len, fl_len, List.length_replicate, List.length_replicate]
  omega
 obtain ⟨N, hN⟩ : ∃ N, N = w.heap.size := ⟨_, rfl⟩
 have hgN : g ≠ N := by omega
 have hvN : vb ≠ N := by omega
 obtain ⟨W1, hW1⟩ : ∃ W1, W1 = w.drew.alloc (.cells ROW 45) := ⟨_, rfl⟩
 have hbN : W1.heap[N]? = some (.cells ROW 45 (0, 0)) := by rw [hW1, hN]; exact blk_new w.drew _
 have hbg1 : W1.heap[g]? = some (.cells cur 45 (0, 0)) := by rw [hW1]; exact blk_alloc (w := w.drew) hbk _
 have hbv1 : W1.heap[vb]? = some (.cells #[.string x.f0, .string x.f1, .int .i64 x.f2] 45 (0, 0)) := by rw [hW1]; exact blk_alloc (w := w.drew) hvb _
 obtain ⟨W2, hW2⟩ : ∃ W2, W2 = W1.setCells N (i * 3) (fcells x) := ⟨_, rfl⟩
 obtain ⟨cur2, hb2, hs2, ht2⟩ := setCells_row (fcells x) (i * 3) W1 ROW hbN (by show i * 3 + 3 ≤ ROW.size; rw [hRs]; omega)
 rw [← hW2] at hb2
 have hbg2 : W2.heap[g]? = some (.cells cur 45 (0, 0)) := by rw [hW2, setCells_far _ _ g hgN]; exact hbg1
 have hcpA : ∀ W : World, W.heap = W1.heap → ∀ ty dc, (Builtin.copy_ #[27, 27] ty #[.slice (some ⟨N, i * 3, none⟩) (l.length + 1 - i) dc, .slice (some ⟨vb, 0, none⟩) 1 1]).run Try.prog W = .ok (goInt ((1 : Nat) : Int)) (W.setCells N (i * 3) (fcells x)) := fun W hW ty dc => by
  have h := run_copy_many (P := Try.prog) W 27 27 ty 45 3 N (i * 3) (l.length + 1 - i) dc ⟨vb, 0, none⟩ 1 1 (fcells x) Try.underlying27 hinfo
   (by show 3 = _; simp only [Nat.min_def]; split <;> omega) (fun j v hj => by rw [add_at]; exact blk_seg (w := W) (by rw [hW]; exact hbv1) (o := 0) (m := 3) (cs := fcells x) rfl j v hj) (fun j hj => blk_cells (w := W) (by rw [hW]; exact hbN) _ (by have : j < 3 := hj; rw [hRs]; omega)) (fun j _ => blk_frozen (w := W) (by rw [hW]; exact hbN) _) (fun u hu => fl_one [x] u (by simpa [fl] using hu))
  rw [h]
  congr 3
  simp only [Nat.min_def]; split <;> omega
 have hsrc : (cur.toList.drop (i * 3)).take ((l.length - i) * 3) = fl (l.drop i) := by
  rw [← fl_drop, ← htk, List.drop_take]
  congr 1
  omega
 have hcpB : ∀ W : World, W.heap = W2.heap → ∀ ty dc sc, (Builtin.copy_ #[27, 27] ty #[.slice (some ⟨N, (i + 1) * 3, none⟩) (l.length - i) dc, .slice (some ⟨g, i * 3, none⟩) (l.length - i) sc]).run Try.prog W = .ok (goInt ((l.length - i : Nat) : Int)) (W.setCells N ((i + 1) * 3) (fl (l.drop i))) := fun W hW ty dc sc => by
  have h := run_copy_many (P := Try.prog) W 27 27 ty 45 3 N ((i + 1) * 3) (l.length - i) dc ⟨g, i * 3, none⟩ (l.length - i) sc (fl (l.drop i)) Try.underlying27 hinfo
   (by rw [hlen]; simp only [Nat.min_def]; split <;> omega) (fun j v hj => by rw [add_at]; exact blk_seg (w := W) (by rw [hW]; exact hbg2) hsrc j v hj) (fun j hj => blk_cells (w := W) (by rw [hW]; exact hb2) _ (by rw [hs2, hRs]; omega)) (fun j _ => blk_frozen (w := W) (by rw [hW]; exact hb2) _) (fl_one _)
  rw [h]
  congr 3
  simp only [Nat.min_def]; split <;> omega
 have hfin : ∀ W : World, W.heap = W2.heap → W.os = w.os → W.tape = w.tape → W.output = w.output → Kd.R k45 45 (W.setCells N ((i + 1) * 3) (fl (l.drop i))) base ok (.slice (some ⟨N, 0, none⟩) (l.length + 1) G) (l.take i ++ x :: l.drop i) ∧ w.grownBy (W.setCells N ((i + 1) * 3) (fl (l.drop i))) (some g) := fun W hW ho ht hout => by
  obtain ⟨cur3, hb3, hs3, ht3⟩ := setCells_row (fl (l.drop i)) ((i + 1) * 3) W cur2 (by rw [hW]; exact hb2) (by rw [hlen, hs2, hRs]; omega)
  have hll : (l.take i ++ x :: l.drop i).length = l.length + 1 := by rw [List.length_append, List.length_take, List.length_cons, List.length_drop]; omega
  refine ⟨R_of_own (fun k hk => by
   have hk2 : N = k := by simpa [Value.ownBlock] using hk
   exact hfr k (by omega)) ⟨fl_len _, .inr ⟨N, G, cur3, by rw [hll], by omega, hb3, by omega, hG63, by rw [hs3, hs2, hRs], ?_⟩⟩, ?_⟩
  ·rw [hll, ht3, ht2, hRl]
   have e1 : ((fl (l.take i) ++ (fl (List.replicate (l.length + 1 - i) z45) ++ fl (List.replicate (G - (l.length + 1)) z45))).take (i * 3) ++ fcells x ++ (fl (l.take i) ++ (fl (List.replicate (l.length + 1 - i) z45) ++ fl (List.replicate (G - (l.length + 1)) z45))).drop (i * 3 + (fcells x).length)).take ((i + 1) * 3) = fl (l.take i) ++ fcells x := by
    rw [List.take_left' hlt, List.append_assoc, ← List.append_assoc]
    exact List.take_left' (by rw [List.length_append, hlt]; show i * 3 + 3 = _; omega)
   have e3 : (fl (l.take i) ++ fcells x ++ fl (l.drop i)).length = (l.length + 1) * 3 := by
    rw [List.length_append, List.length_append, hlen, hlt]; show i * 3 + 3 + _ = _; omega
   rw [e1, fl_append, fl_cons, ← List.append_assoc (fl (l.take i)) (fcells x)]
   exact List.take_left' e3
  have hheap : ∀ k, k < w.heap.size → (W.setCells N ((i + 1) * 3) (fl (l.drop i))).heap[k]? = w.heap[k]? := fun k hk => by
   rw [setCells_far _ _ k (by omega), hW, hW2, setCells_far _ _ k (by omega), hW1]
   exact Below.heap_alloc w.drew _ k hk
  have hsz : w.heap.size ≤ (W.setCells N ((i + 1) * 3) (fl (l.drop i))).heap.size := by
   rw [(setCells_same N _ _ W).2.2.2, hW, hW2, (setCells_same N _ _ W1).2.2.2, hW1]
   simp
  exact ⟨(setCells_same N _ _ W).1.trans ho, (setCells_same N _ _ W).2.1.trans ht, (setCells_same N _ _ W).2.2.1.trans hout, hsz, fun k hk _ => hheap k hk⟩
 have HFIN := Aside0.mk hfin
 have hz : ¬ ((1 : Int) = 0) := by decide
 have hzi : ¬ ((i : Int) = (l.length : Int)) := by omega
 have hz3 : (c : Int) < (l.length : Int) + 1 := by omega
 have hGi : ¬ (G = i) := by omega
 have hGi1 : ¬ (G = i + 1) := by omega
 have hci : ¬ (c = i) := by omega
 have hin : i ≤ l.length := by omega
 have hin3 : (i : Int) ≤ (l.length : Int) := by omega
 have mixed : Try.prog.follows .mixedOrders = true := by kernel_rfl
 have hw1 : IntKind.i64.wrap ((i : Int) + 1) = (i : Int) + 1 := by rw [IntKind.wrap_i64]; omega
 have hp1 : (0 : Int) ≤ (i : Int) + 1 := by omega
 have htn : ((i : Int) + 1).toNat = i + 1 := by omega
 have hmax : G ≤ 9223372036854775807 := hG63
 subst hN
 clear hG hROW hfin hcs hbk hown htk hlen hbN hbg1 hbv1 hb2 hs2 ht2 hbg2 hsrc hr hvb hRl hRs hold hlt hik
 go_enter Try.func80, Try.ntmps80
 go_wp2_with (first
  | (at_builtin; refine Lib.wpList_append_run _ rfl _ _ _ _ rfl _ _ rfl rfl _ _ (hrz _) ?_)
  | (at_builtin; refine wpList_copy_runI _ rfl _ _ 27 27 rfl _ _ rfl rfl (hcpA _ (by rw [hW1]; rfl) _ _) ?_))
 go_region_law_o (refine step_copy_runI rfl _ _ 27 27 rfl (.slice (some ⟨w.heap.size, (i + 1) * 3, none⟩) (l.length - i) (G - (i + 1))) (.slice (some ⟨g, i * 3, none⟩) (l.length - i) (c - i)) (by simp [Act.eval, Act.put]) (by simp [Act.eval, Act.put]) (hcpB _ (by rw [hW2, hW1]; rfl) 3 (G - (i + 1)) (c - i)) ?_)
 go_wp2
 go_ret
 have hsm := setCells_same w.heap.size (fcells x) (i * 3) (w.alloc (.cells ROW 45)).drew
 have hf := HFIN.out ((w.alloc (.cells ROW 45)).drew.setCells w.heap.size (i * 3) (fcells x)).drew (by rw [hW2, hW1]; rfl) hsm.1 hsm.2.1 hsm.2.2.1
 exact ⟨_, rfl, hf.1, hf.2⟩
/-- slices.Insert of one file -/
theorem insert {ok : Nat → Prop} (v : Value) (l : List S45) (x : S45) (i vb : Nat) (w : World) (base : Nat) (hr : Kd.R k45 45 w base ok v l) (hbase : base ≤ w.heap.size) (hi : i ≤ l.length) (hl : l.length < 3518437208880) (hne : ∀ k, v.ownBlock = some k → vb ≠ k) (hfr : ∀ k, w.heap.size ≤ k → ok k) (hvb : w.heap[vb]? = some (.cells #[.string x.f0, .string x.f1, .int .i64 x.f2] 45 (0, 0))) :
  Calls Try.prog 80 #[v, .int .i64 (i : Int), .slice (some ⟨vb, 0, none⟩) 1 1] w fun e w' => ∃ v', e = .returned v' ∧ Kd.R k45 45 w' base ok v' (l.take i ++ x :: l.drop i) ∧ w.grownBy w' v.ownBlock := by
 by_cases he : i = l.length
 ·subst he
  rw [List.take_length, List.drop_length]
  exact insert_end v l x vb w base hr hbase hl hfr hvb
 rcases (own_of_R hr).2 with ⟨hv, h0⟩ | ⟨g, c, cur, rfl, _⟩
 ·omega
 by_cases hc : l.length + 1 ≤ c
 ·exact insert_shift g c l x i vb w base hr (by omega) hc (hne g rfl) hfr hvb
 exact insert_grow g c l x i vb w base hr hbase (by omega) (by omega) hl hfr hvb
end impl_withFile
/-- a file in its place -/
def impl_withFile.ins (x : S45) : List S45 → List S45
 | [] => [x]
 | y :: l => if Op.bytesLess y.f0.toList x.f0.toList = true then y :: impl_withFile.ins x l else x :: y :: l
def impl_withFile.f (l0_0 : List S45) (a1_0 : ByteArray) (a1_1 : ByteArray) (a1_2 : Int) : Option (List S45) := if l0_0.length < 3518437208880 then some (impl_withFile.ins ⟨a1_0, a1_1, a1_2⟩ (impl_withoutFile.keep a1_0 l0_0)) else none
/-- behind the loop -/
theorem impl_withFile.tail (A0_0 : Option Addr) (c0_0 : Nat) (l0_0 : List S45) (a1_0 : ByteArray) (a1_1 : ByteArray) (a1_2 : Int) (w W0 w1 wr : World) (Av : Option Addr) (cv : Nat) (m : List S45) (i : Nat)
  (hb0 : Below w.heap.size w W0) (hs0 : W0.heap.size = w.heap.size + 3) (hby : W0.heap[w.heap.size + 1 + 1]? = some (.cells #[.slice none 0 0] 29 (0, 0))) (hR : Kd.R k45 45 wr W0.heap.size (fun k => k ≠ w1.heap.size) (.slice Av m.length cv) m)
  (hG : wr.heap[w1.heap.size]? = some (.cells #[.slice Av m.length cv] 29 (0, 0))) (hB : Below W0.heap.size W0 wr) (hs1 : W0.heap.size ≤ w1.heap.size) (hsz : w1.heap.size + 1 ≤ wr.heap.size) (him : i ≤ m.length) (hml : m.length < 3518437208880) (L : List S45) (hL : m.take i ++ ⟨a1_0, a1_1, a1_2⟩ :: m.drop i = L) :
  (Calls Try.prog 80 #[.slice Av m.length cv, .int .i64 (i : Int), .slice (some ⟨wr.heap.size, 0, none⟩) 1 1] (wr.drew.alloc (.cells #[.string a1_0, .string a1_1, .int .i64 a1_2] 45)) fun e w3 => ∃ A3 c3, e = .returned (.slice A3 L.length c3) ∧
   w3.cell? ⟨w1.heap.size, 0, none⟩ = some (.slice Av m.length cv) ∧ w3.frozen? ⟨w1.heap.size, 0, none⟩ = false ∧ w3.cell? ⟨w.heap.size + 1 + 1, 0, none⟩ = some (.slice none 0 0) ∧ w3.frozen? ⟨w.heap.size + 1 + 1, 0, none⟩ = false ∧
   (((w3.setCell ⟨w1.heap.size, 0, none⟩ (.slice A3 L.length c3)).setCell ⟨w.heap.size + 1 + 1, 0, none⟩ (.slice A3 L.length c3)).heap[w.heap.size + 1 + 1]? = some (.cells #[.slice A3 L.length c3] 29 (0, 0)) ∧
    Kd.R k45 45 ((w3.setCell ⟨w1.heap.size, 0, none⟩ (.slice A3 L.length c3)).setCell ⟨w.heap.size + 1 + 1, 0, none⟩ (.slice A3 L.length c3)) w.heap.size (fun _ => True) (.slice A3 L.length c3) L ∧
    Below w.heap.size w ((w3.setCell ⟨w1.heap.size, 0, none⟩ (.slice A3 L.length c3)).setCell ⟨w.heap.size + 1 + 1, 0, none⟩ (.slice A3 L.length c3)))) ∧ True := by
 refine ⟨?_, trivial⟩
 have hsB := hB.size
 have hsA : (wr.drew.alloc (.cells #[.string a1_0, .string a1_1, .int .i64 a1_2] 45)).heap.size = wr.heap.size + 1 := by simp
 have hlt : ∀ k, (Value.slice Av m.length cv).ownBlock = some k → k ≠ w1.heap.size ∧ W0.heap.size ≤ k ∧ k < wr.heap.size := fun k hk => by
  have := (Kd.R_bound hR).1 k hk
  exact ⟨this.1, this.2.1, this.2.2.1⟩
 refine (impl_withFile.insert (.slice Av m.length cv) m ⟨a1_0, a1_1, a1_2⟩ i wr.heap.size (wr.drew.alloc (.cells #[.string a1_0, .string a1_1, .int .i64 a1_2] 45)) W0.heap.size (ok := fun k => k ≠ w1.heap.size) (Kd.R_alloc (Kd.R_drew hR) _) (by omega) him hml (fun k hk => by have := (hlt k hk).2.2; omega) (fun k hk => by omega) (blk_new wr.drew _)).mono ?_
 rintro e w3 ⟨v3, rfl, hR3, hg3⟩
 rw [hL] at hR3
 obtain ⟨A3, c3, rfl⟩ := Kd.R_slice hR3
 have hg : w3.heap[w1.heap.size]? = some (.cells #[.slice Av m.length cv] 29 (0, 0)) :=
  (hg3.block w1.heap.size (by omega) (fun e => (hlt _ e.symm).1 rfl)).trans (blk_alloc (blk_drew hG) _)
 have hy : w3.heap[w.heap.size + 1 + 1]? = some (.cells #[.slice none 0 0] 29 (0, 0)) :=
  (hg3.block (w.heap.size + 1 + 1) (by omega) (fun e => by have := (hlt _ e.symm).2.1; omega)).trans (blk_alloc (blk_drew (blk_below hby hB)) _)
 have hne : w.heap.size + 1 + 1 ≠ w1.heap.size := by omega
 have hbW : Below w.heap.size w w3 := by
  refine ⟨hg3.os.trans (hB.os.trans hb0.os), hg3.tape.trans (hB.tape.trans hb0.tape), hg3.output.trans (hB.output.trans hb0.output), by have := hg3.size; omega, fun k hk => ?_⟩
  rw [hg3.block k (by omega) (fun e => by have := (hlt _ e.symm).2.1; omega), Below.heap_alloc wr.drew _ k (by show k < wr.heap.size; omega)]
  exact (hB.block k (by omega)).trans (hb0.block k hk)
 refine ⟨A3, c3, rfl, (blk_cell hg 0).trans rfl, blk_frozen hg 0, (blk_cell hy 0).trans rfl, blk_frozen hy 0, blk_put (cs := #[.slice none 0 0]) (blk_far hy hne _) 0 _ rfl, ?_, below_set (below_set hbW (by omega)) (by omega)⟩
 exact Kd.R_mono (Kd.R_far (p := ⟨w.heap.size + 1 + 1, 0, none⟩) (Kd.R_far (p := ⟨w1.heap.size, 0, none⟩) (Kd.R_lower (Kd.R_bound hR3) (by omega)) (fun k hk => hk.1) _) (fun k hk => by have := hk.2.1; show k ≠ w.heap.size + 1 + 1; omega) _) (fun _ _ => trivial)
set_option maxHeartbeats 8000000 in
set_option maxRecDepth 100000 in
theorem impl_withFile.calls (A0_0 : Option Addr) (c0_0 : Nat) (l0_0 : List S45) (a1_0 : ByteArray) (a1_1 : ByteArray) (a1_2 : Int) (r : List S45) (w : World) (hr0_0 : Kd.C k45 w A0_0 l0_0.length l0_0) (hc0_0 : l0_0.length ≤ c0_0) (h : impl_withFile.f l0_0 a1_0 a1_1 a1_2 = some r) :
  Calls Try.prog 66 #[.agg #[.slice A0_0 l0_0.length c0_0], .agg #[.string a1_0, .string a1_1, .int .i64 a1_2]] w fun e w' => ∃ v0_ : Value, e = .returned (.agg #[v0_]) ∧ Kd.R k45 45 w' w.heap.size (fun _ => True) v0_ r ∧ Below w.heap.size w w' := by
 unfold impl_withFile.f at h
 by_cases hl : l0_0.length < 3518437208880
 case neg => rw [if_neg hl] at h; cases h
 rw [if_pos hl] at h
 obtain rfl := Option.some.inj h
 clear h
 have hwf : impl_withoutFile.f l0_0 a1_0 = some (impl_withoutFile.keep a1_0 l0_0) := by unfold impl_withoutFile.f; rw [if_pos hl]
 have hkl : (impl_withoutFile.keep a1_0 l0_0).length ≤ l0_0.length := List.length_filter_le _ _
 generalize hm : impl_withoutFile.keep a1_0 l0_0 = m at hwf hkl ⊢
 clear hm
 obtain ⟨W0, hW0⟩ : ∃ W0, W0 = ((w.alloc (.cells #[.slice A0_0 l0_0.length c0_0] 29)).alloc (.cells #[.string a1_0, .string a1_1, .int .i64 a1_2] 45)).alloc (.cells #[.slice none 0 0] 29) := ⟨_, rfl⟩
 have hb0 : Below w.heap.size w W0 := by rw [hW0]; exact below_alloc (below_alloc (below_alloc (Below.refl _ _) _) _) _
 have hs0 : W0.heap.size = w.heap.size + 3 := by rw [hW0]; simp
 have hbx : W0.heap[w.heap.size + 1]? = some (.cells #[.string a1_0, .string a1_1, .int .i64 a1_2] 45 (0, 0)) := by rw [hW0]; exact blk_alloc (by have := blk_new (w.alloc (.cells #[.slice A0_0 l0_0.length c0_0] 29)) (.cells #[.string a1_0, .string a1_1, .int .i64 a1_2] 45 (0, 0)); simpa using this) _
 have hby : W0.heap[w.heap.size + 1 + 1]? = some (.cells #[.slice none 0 0] 29 (0, 0)) := by rw [hW0]; have := blk_new ((w.alloc (.cells #[.slice A0_0 l0_0.length c0_0] 29)).alloc (.cells #[.string a1_0, .string a1_1, .int .i64 a1_2] 45)) (.cells #[.slice none 0 0] 29 (0, 0)); simpa using this
 have hwo := impl_withoutFile.calls A0_0 c0_0 l0_0 a1_0 m W0 (Kd.C_below hr0_0 hb0) hc0_0 hwf
 rw [hW0] at hwo
 have HB0 := Aside0.mk hb0
 have HBX := Aside0.mk hbx
 have HBY := Aside0.mk hby
 clear hr0_0 hc0_0 hwf hb0 hbx hby
 go_enter Try.func66, Try.ntmps66
 go_wp2_with (go_at_call 67; refine hwo.mono ?_; rintro e w1 ⟨v0, rfl, hR, hb1⟩; rw [← hW0] at hR hb1; obtain ⟨Av, cv, hv⟩ := Kd.R_slice hR; subst hv)
 have HR1 := Aside0.mk hR
 have HB1 := Aside0.mk hb1
 clear hR hwo
 have hs1 := hb1.size
 clear hb1
 go_loopg [6] m.length (fun gg s6 wr => ∃ i : Nat, s6 = .int .i64 i ∧ i ≤ m.length ∧ m.length - i ≤ gg ∧ Aside0 (Kd.R k45 45 wr W0.heap.size (fun k => k ≠ w1.heap.size) (.slice Av m.length cv) m) ∧ Aside0 (wr.heap[w1.heap.size]? = some (.cells #[.slice Av m.length cv] 29 (0, 0))) ∧ Aside0 (Below W0.heap.size W0 wr) ∧ w1.heap.size + 1 ≤ wr.heap.size ∧ Aside0 (impl_withFile.ins ⟨a1_0, a1_1, a1_2⟩ m = m.take i ++ impl_withFile.ins ⟨a1_0, a1_1, a1_2⟩ (m.drop i)))
 case atStart => exact ⟨0, rfl, by omega, by omega, ⟨Kd.R_mono (Kd.R_alloc (Kd.R_bound HR1.out) _) (fun k hk => by have := hk.2.2.1; omega)⟩, ⟨blk_new _ _⟩, ⟨below_alloc HB1.out _⟩, by simp, ⟨rfl⟩⟩
 case round =>
  obtain ⟨i, rfl, him, hgg, HR, HG, HB, hsz, HI⟩ := hrel
  have hc5 : wr.cell? ⟨w1.heap.size, 0, none⟩ = some (.slice Av m.length cv) := (blk_cell HG.out 0).trans rfl
  have hbx2 := blk_below HBX.out HB.out
  have hc3 : wr.cell? ⟨w.heap.size + 1, 0, none⟩ = some (.string a1_0) := (blk_cell hbx2 0).trans rfl
  have hc31 : wr.cell? ⟨w.heap.size + 1, 1, none⟩ = some (.string a1_1) := (blk_cell hbx2 1).trans rfl
  have hc32 : wr.cell? ⟨w.heap.size + 1, 2, none⟩ = some (.int .i64 a1_2) := (blk_cell hbx2 2).trans rfl
  clear hbx2
  have HEND := Aside0.mk (impl_withFile.tail A0_0 c0_0 l0_0 a1_0 a1_1 a1_2 w W0 w1 wr Av cv m i HB0.out hs0 HBY.out HR.out HG.out HB.out hs1 hsz him (by omega) (impl_withFile.ins ⟨a1_0, a1_1, a1_2⟩ m))
  have hmax : m.length ≤ 9223372036854775807 := by omega
  by_cases hlt : i < m.length
  ·have hltz : (i : Int) < (m.length : Int) := by omega
   rcases (impl_withoutFile.own_of_R HR.out).2 with ⟨hv, h0⟩ | ⟨g, c, cur, hv, hgb, -⟩
   ·omega
   injection hv with ha _ hc
   subst ha; subst hc
   obtain ⟨ad, ea, Aa, -, -⟩ := at_T45 (Kd.R_reads' HR.out).2.2 (i : Int) (by omega) hltz
   cases ea
   have hMi : rd_T45 m (i : Int) = m[i] := by
    unfold rd_T45
    rw [Int.toNat_natCast, List.getD_eq_getElem?_getD, List.getElem?_eq_getElem hlt]; rfl
   rw [hMi] at Aa
   simp only [add_at, Nat.zero_add, Int.toNat_natCast] at Aa
   clear hMi
   have HD := Aside0.mk (List.drop_eq_getElem_cons hlt)
   have HT := Aside0.mk (List.take_succ_eq_append_getElem hlt)
   generalize m[i] = y at Aa HD HT
   by_cases hq : Op.bytesLess y.f0.toList a1_0.toList = true
   ·go_wp2
    go_region
    go_wp2
    go_roundg (m.length - (i + 1))
    case measure => omega
    case rel =>
     refine ⟨i + 1, by go_num, by omega, Nat.le_refl _, ⟨Kd.R_drew HR.out⟩, ⟨blk_drew HG.out⟩, ⟨below_drew1 HB.out⟩, hsz, ⟨?_⟩⟩
     rw [HI.out, HD.out, impl_withFile.ins, if_pos (show Op.bytesLess y.f0.toList (⟨a1_0, a1_1, a1_2⟩ : S45).f0.toList = true from hq), HT.out, List.append_assoc]
     rfl
   have HINS : Aside0 (impl_withFile.ins ⟨a1_0, a1_1, a1_2⟩ m = m.take i ++ ⟨a1_0, a1_1, a1_2⟩ :: m.drop i) := ⟨by
    rw [HI.out, HD.out, impl_withFile.ins, if_neg (show ¬ Op.bytesLess y.f0.toList (⟨a1_0, a1_1, a1_2⟩ : S45).f0.toList = true from hq)]⟩
   go_wp2
   go_region
   go_wp2_with (go_at_call 80; refine (HEND.out HINS.out.symm).1.mono ?_; rintro e w3 ⟨A3, c3, rfl, h3⟩; have z0 := h3.1; have z1 := h3.2.1; have z2 := h3.2.2.1; have z3 := h3.2.2.2.1; have h4 := Aside0.mk h3.2.2.2.2; clear h3)
   obtain ⟨q1, q2, q3⟩ := h4.out
   refine bodyPost_ret (results_cell_row rfl _ _ (w.heap.size + 1 + 1) 29 #[.slice A3 (impl_withFile.ins ⟨a1_0, a1_1, a1_2⟩ m).length c3] (0, 0) _ rfl q1 Try.underlying29 rfl (by kernel_rfl)) rfl ?_
   exact ⟨_, rfl, q2, q3⟩
  obtain rfl : i = m.length := by omega
  have HINS : Aside0 (impl_withFile.ins ⟨a1_0, a1_1, a1_2⟩ m = m.take m.length ++ ⟨a1_0, a1_1, a1_2⟩ :: m.drop m.length) := ⟨by
   rw [HI.out, List.drop_length]; rfl⟩
  have hltz : ¬ ((m.length : Int) < (m.length : Int)) := by omega
  have hltz2 : decide ((m.length : Int) < (m.length : Int)) = false := decide_eq_false hltz
  go_wp2
  go_region
  go_wp2_with (go_at_call 80; refine (HEND.out HINS.out.symm).1.mono ?_; rintro e w3 ⟨A3, c3, rfl, h3⟩; have z0 := h3.1; have z1 := h3.2.1; have z2 := h3.2.2.1; have z3 := h3.2.2.2.1; have h4 := Aside0.mk h3.2.2.2.2; clear h3)
  obtain ⟨q1, q2, q3⟩ := h4.out
  refine bodyPost_ret (results_cell_row rfl _ _ (w.heap.size + 1 + 1) 29 #[.slice A3 (impl_withFile.ins ⟨a1_0, a1_1, a1_2⟩ m).length c3] (0, 0) _ rfl q1 Try.underlying29 rfl (by kernel_rfl)) rfl ?_
  exact ⟨_, rfl, q2, q3⟩

end Go.Proofs.Ytdiecogmaiglaaa.PFnActs
