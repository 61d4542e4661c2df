import Derived.Test.YtdiecogmaiglaaaQFnExactCutActsx0
namespace Go.Proofs.Ytdiecogmaiglaaa.PFnExactCutActs
open Go.RowKit Go.Proofs.YtdiecogmaiglaaaW.PrintWords Go.Proofs.YtdiecogmaiglaaaW.PrintLast Go.Proofs.YtdiecogmaiglaaaW.PrintMore
attribute [local go_sem] max2_int min2_int max_two min_two max_three min_three max_four min_four   -- for this text's walks alone
set_option linter.unusedVariables false
set_option linter.unusedSimpArgs false

/-! ### laws_szAct: function 34 -/
def laws_szAct.f (a0_0 : Int) (a0_1 : ByteArray) (a0_2 : ByteArray) (a0_3 : ByteArray) (a1 : Int) : Option (Int) := if (wrap64 (a1 - (a0_1.size : Int))) < 0 then (some (-1)) else (if (wrap64 ((wrap64 (a1 - (a0_1.size : Int))) - (a0_2.size : Int))) < 0 then (some (-1)) else (if (wrap64 ((wrap64 ((wrap64 (a1 - (a0_1.size : Int))) - (a0_2.size : Int))) - (a0_3.size : Int))) < 0 then (some (-1)) else (some (wrap64 ((wrap64 ((wrap64 (a1 - (a0_1.size : Int))) - (a0_2.size : Int))) - (a0_3.size : Int))))))
set_option maxHeartbeats 8000000 in
set_option maxRecDepth 100000 in
theorem laws_szAct.calls (a0_0 : Int) (a0_1 : ByteArray) (a0_2 : ByteArray) (a0_3 : ByteArray) (a1 : Int) (r : Int) (w : World) (h : laws_szAct.f a0_0 a0_1 a0_2 a0_3 a1 = some r) :
  Calls Try.prog 34 #[.agg #[.int .i64 a0_0, .string a0_1, .string a0_2, .string a0_3], .int .i64 a1] w fun e w' => e = .returned (.int .i64 r) ∧ Below w.heap.size w w' := by
 have hu52 := Try.underlying52
 have HB := Aside0.mk (Below.refl w.heap.size w)
 have H : (if (wrap64 (a1 - (a0_1.size : Int))) < 0 then (some (-1)) else (if (wrap64 ((wrap64 (a1 - (a0_1.size : Int))) - (a0_2.size : Int))) < 0 then (some (-1)) else (if (wrap64 ((wrap64 ((wrap64 (a1 - (a0_1.size : Int))) - (a0_2.size : Int))) - (a0_3.size : Int))) < 0 then (some (-1)) else (some (wrap64 ((wrap64 ((wrap64 (a1 - (a0_1.size : Int))) - (a0_2.size : Int))) - (a0_3.size : Int))))))) = some r := h
 clear h
 by_cases c3 : (wrap64 (a1 - (a0_1.size : Int))) < 0
 ·rw [if_pos c3] at H
  have Ag := decide_eq_true c3
  clear c3
  obtain rfl := Option.some.inj H
  go_enter Try.func34, Try.ntmps34
  go_wp2_with (first | ((with_reducible refine gate_dst (N := 2) rfl ?_); refine zx (N := 2) (cs := #[.int .i64 a0_0, .string a0_1, .string a0_2, .string a0_3]) (t := 52) ?_; intro Ab hg w4 hbox hb; have Aa := Aside0.mk (hbox); have Ac := zg HB hg; have Ad := zg HB hg; replace HB := zs HB hb; clear hb hbox hg; obtain ⟨_, _, _, _, _, _, _, _⟩ := zc4 Aa))
  go_ret
  exact ⟨ze, zw HB⟩
 rw [if_neg c3] at H
 have Ag := decide_eq_false c3
 clear c3
 by_cases c6 : (wrap64 ((wrap64 (a1 - (a0_1.size : Int))) - (a0_2.size : Int))) < 0
 ·rw [if_pos c6] at H
  have Af := decide_eq_true c6
  clear c6
  obtain rfl := Option.some.inj H
  go_enter Try.func34, Try.ntmps34
  go_wp2_with (first | ((with_reducible refine gate_dst (N := 2) rfl ?_); refine zx (N := 2) (cs := #[.int .i64 a0_0, .string a0_1, .string a0_2, .string a0_3]) (t := 52) ?_; intro Ab hg w7 hbox hb; have Aa := Aside0.mk (hbox); have Ac := zg HB hg; have Ad := zg HB hg; replace HB := zs HB hb; clear hb hbox hg; obtain ⟨_, _, _, _, _, _, _, _⟩ := zc4 Aa))
  go_ret
  exact ⟨ze, zw HB⟩
 rw [if_neg c6] at H
 have Af := decide_eq_false c6
 clear c6
 by_cases c9 : (wrap64 ((wrap64 ((wrap64 (a1 - (a0_1.size : Int))) - (a0_2.size : Int))) - (a0_3.size : Int))) < 0
 ·rw [if_pos c9] at H
  have Ae := decide_eq_true c9
  clear c9
  obtain rfl := Option.some.inj H
  go_enter Try.func34, Try.ntmps34
  go_wp2_with (first | ((with_reducible refine gate_dst (N := 2) rfl ?_); refine zx (N := 2) (cs := #[.int .i64 a0_0, .string a0_1, .string a0_2, .string a0_3]) (t := 52) ?_; intro Ab hg w10 hbox hb; have Aa := Aside0.mk (hbox); have Ac := zg HB hg; have Ad := zg HB hg; replace HB := zs HB hb; clear hb hbox hg; obtain ⟨_, _, _, _, _, _, _, _⟩ := zc4 Aa))
  go_ret
  exact ⟨ze, zw HB⟩
 rw [if_neg c9] at H
 have Ae := decide_eq_false c9
 clear c9
 obtain rfl := Option.some.inj H
 go_enter Try.func34, Try.ntmps34
 go_wp2_with (first | ((with_reducible refine gate_dst (N := 2) rfl ?_); refine zx (N := 2) (cs := #[.int .i64 a0_0, .string a0_1, .string a0_2, .string a0_3]) (t := 52) ?_; intro Ab hg w12 hbox hb; have Aa := Aside0.mk (hbox); have Ac := zg HB hg; have Ad := zg HB hg; replace HB := zs HB hb; clear hb hbox hg; obtain ⟨_, _, _, _, _, _, _, _⟩ := zc4 Aa))
 go_ret
 exact ⟨ze, zw HB⟩

/-! ### laws_szActS: function 38 -/
def laws_szActS.l0 : Nat → List (S52) → Int → Int → Option (Int)
 | 0, _, _, _ => none
 | k + 1, x0, x1, x5 => if x5 < (x0.length : Int) then (if 0 ≤ x5 then ((laws_szAct.f ((rd_T52 x0 x5).f0) ((rd_T52 x0 x5).f1) ((rd_T52 x0 x5).f2) ((rd_T52 x0 x5).f3) x1).bind fun t159 => (if t159 < 0 then (some (-1)) else (laws_szActS.l0 k x0 t159 (wrap64 (x5 + 1))))) else (none)) else (some x1)
def laws_szActS.f (k : Nat) (l0 : List (S52)) (a1 : Int) : Option (Int) := if (wrap64 (a1 - (l0.length : Int))) < 0 then (some (-1)) else (laws_szActS.l0 k l0 (wrap64 (a1 - (l0.length : Int))) 0)
theorem laws_szActS.mono_l : ∀ k, (∀ y0 y1 y2, LeO (laws_szActS.l0 k y0 y1 y2) (laws_szActS.l0 (k + 1) y0 y1 y2))
 | 0 => fun _ _ _ r h => by simp [laws_szActS.l0] at h
 | k + 1 => by
  have ih0 := laws_szActS.mono_l k
  intro y0 y1 y2
  unfold laws_szActS.l0
  repeat' first
  | (with_reducible exact ih0 _ _ _)
  | (with_reducible exact LeO.refl _)
  | (with_reducible exact LeO.none _)
  | (with_reducible refine LeO.ite ?_ ?_)
  | (with_reducible refine LeO.bind ?_ (fun _ => ?_))
  | exact ih0 _ _ _
  | exact LeO.none _
  | refine LeO.ite ?_ ?_
  | refine LeO.bind ?_ (fun _ => ?_)
theorem laws_szActS.mono : ∀ a0 a1 k, LeO (laws_szActS.f k a0 a1) (laws_szActS.f (k + 1) a0 a1) := by
 intro a0 a1 k
 have ih0 := laws_szActS.mono_l k
 unfold laws_szActS.f
 repeat' first
   | (with_reducible exact ih0 _ _ _)
   | (with_reducible exact LeO.refl _)
   | (with_reducible exact LeO.none _)
   | (with_reducible refine LeO.ite ?_ ?_)
   | (with_reducible refine LeO.bind ?_ (fun _ => ?_))
   | exact ih0 _ _ _
   | exact LeO.none _
   | refine LeO.ite ?_ ?_
   | refine LeO.bind ?_ (fun _ => ?_)
set_option maxHeartbeats 8000000 in
set_option maxRecDepth 100000 in
theorem laws_szActS.calls (k : Nat) (A0 : Option Addr) (c0 : Nat) (l0 : List (S52)) (a1 : Int) (r : Int) (w : World) (hr0 : Kd.C k52 w A0 l0.length l0) (hc0 : l0.length ≤ c0) (h : laws_szActS.f k l0 a1 = some r) :
  Calls Try.prog 38 #[.slice A0 l0.length c0, .int .i64 a1] w fun e w' => e = .returned (.int .i64 r) ∧ Below w.heap.size w w' := by
 have hu52 := Try.underlying52
 have HR0 := Aside0.mk hr0
 have HC0 := Aside0.mk hc0
 clear hr0 hc0
 have HB := Aside0.mk (Below.refl w.heap.size w)
 have H : (if (wrap64 (a1 - (l0.length : Int))) < 0 then (some (-1)) else (laws_szActS.l0 k l0 (wrap64 (a1 - (l0.length : Int))) 0)) = some r := h
 clear h
 by_cases c3 : (wrap64 (a1 - (l0.length : Int))) < 0
 ·rw [if_pos c3] at H
  have Ak := decide_eq_true c3
  clear c3
  obtain rfl := Option.some.inj H
  go_enter Try.func38, Try.ntmps38
  go_wp2
  go_ret
  exact ⟨ze, zw HB⟩
 rw [if_neg c3] at H
 have Ak := decide_eq_false c3
 clear c3
 have H' := Aside0.mk H
 clear H
 go_enter Try.func38, Try.ntmps38
 go_wp2
 go_loopg [1, 5] k (fun kq v1 v5 w' => ∃ (Af : Int) (Aa : Int), v1 = .int .i64 Af ∧ v5 = .int .i64 Aa ∧ Aside0 (laws_szActS.l0 kq l0 Af Aa = some r) ∧ Aside0 (kq ≤ k) ∧ Aside0 (Below w.heap.size w w'))
 case atStart => exact ⟨(wrap64 (a1 - (l0.length : Int))), (0), zf, zf, H', ⟨Nat.le_refl _⟩, ⟨zw HB⟩⟩
 case round =>
  clear H'
  try clear p2
  try clear c3
  try clear Ak
  obtain ⟨Af, Aa, rfl, rfl, HA, Ap, HB⟩ := hrel
  cases gk with
  | zero => exact absurd HA.out (by simp [laws_szActS.l0])
  | succ k1 =>
   have H := HA.out
   clear HA
   simp only [laws_szActS.l0] at H
   by_cases c4 : Aa < (l0.length : Int)
   ·rw [if_pos c4] at H
    have Ao := decide_eq_true c4
    clear c4
    by_cases c5 : 0 ≤ Aa
    ·rw [if_pos c5] at H
     have c5b0 := decide_eq_true c5
     clear c5
     replace H := Option.bind_eq_some_iff.mp H
     obtain ⟨Ai, Aq, H⟩ := H
     have A6 := Aside0.mk Aq
     clear Aq
     by_cases c7 : Ai < 0
     ·rw [if_pos c7] at H
      have Am := decide_eq_true c7
      clear c7
      obtain rfl := Option.some.inj H
      have Ah : 0 ≤ (Aa : Int) := of_decide_eq_true za
      have Ag : Aa < (l0.length : Int) := of_decide_eq_true za
      obtain ⟨Al, Aj, Ae, Ad, Ac, Ab⟩ := at_T52 HR0.out Aa Ah Ag
      cases Aj
      replace Ae := zU HB.out Ae
      replace Ad := zU HB.out Ad
      replace Ac := zU HB.out Ac
      replace Ab := zU HB.out Ab
      replace Ah := eq_true Ah
      replace Ag := eq_true Ag
      go_wp2_with (first | ((with_reducible refine gate_callee (f := 34) rfl ?_); refine zG (some 23) Try.func34 #[.agg #[.int .i64 ((rd_T52 l0 Aa).f0), .string ((rd_T52 l0 Aa).f1), .string ((rd_T52 l0 Aa).f2), .string ((rd_T52 l0 Aa).f3)], .int .i64 Af] ?_; (with_reducible refine (laws_szAct.calls ((rd_T52 l0 Aa).f0) ((rd_T52 l0 Aa).f1) ((rd_T52 l0 Aa).f2) ((rd_T52 l0 Aa).f3) Af Ai _ A6.out).mono ?_); rintro e w8 ⟨rfl, hb⟩; refine ⟨_, rfl, ?_⟩; replace HB := zs HB hb; clear hb))
      go_ret
      exact ⟨ze, zw HB⟩
     rw [if_neg c7] at H
     have Am := decide_eq_false c7
     clear c7
     have H' := Aside0.mk H
     clear H
     have Ah : 0 ≤ (Aa : Int) := of_decide_eq_true za
     have Ag : Aa < (l0.length : Int) := of_decide_eq_true za
     obtain ⟨Al, Aj, Ae, Ad, Ac, Ab⟩ := at_T52 HR0.out Aa Ah Ag
     cases Aj
     replace Ae := zU HB.out Ae
     replace Ad := zU HB.out Ad
     replace Ac := zU HB.out Ac
     replace Ab := zU HB.out Ab
     replace Ah := eq_true Ah
     replace Ag := eq_true Ag
     go_wp2_with (first | ((with_reducible refine gate_callee (f := 34) rfl ?_); refine zG (some 23) Try.func34 #[.agg #[.int .i64 ((rd_T52 l0 Aa).f0), .string ((rd_T52 l0 Aa).f1), .string ((rd_T52 l0 Aa).f2), .string ((rd_T52 l0 Aa).f3)], .int .i64 Af] ?_; (with_reducible refine (laws_szAct.calls ((rd_T52 l0 Aa).f0) ((rd_T52 l0 Aa).f1) ((rd_T52 l0 Aa).f2) ((rd_T52 l0 Aa).f3) Af Ai _ A6.out).mono ?_); rintro e w9 ⟨rfl, hb⟩; refine ⟨_, rfl, ?_⟩; replace HB := zs HB hb; clear hb))
     go_roundg k1
     case measure => have := Ap.out; omega
     case rel => exact ⟨(Ai), (wrap64 (Aa + 1)), zf, zf, H', ⟨by have := Ap.out; omega⟩, ⟨zw HB⟩⟩
    rw [if_neg c5] at H
    exact absurd H (by simp)
   rw [if_neg c4] at H
   have Ao := decide_eq_false c4
   clear c4
   obtain rfl := Option.some.inj H
   go_wp2
   go_ret
   exact ⟨ze, zw HB⟩

/-! ### laws_toAct: function 36 -/
def laws_toAct.f (a0_0 : Int) (a0_1 : ByteArray) (a0_2 : ByteArray) (a0_3 : ByteArray) : Option (Int × ByteArray × ByteArray × ByteArray) := some (a0_0, a0_1, a0_2, a0_3)
set_option maxHeartbeats 8000000 in
set_option maxRecDepth 100000 in
theorem laws_toAct.calls (a0_0 : Int) (a0_1 : ByteArray) (a0_2 : ByteArray) (a0_3 : ByteArray) (r1 : Int) (r2 : ByteArray) (r3 : ByteArray) (r4 : ByteArray) (w : World) (h : laws_toAct.f a0_0 a0_1 a0_2 a0_3 = some (r1, r2, r3, r4)) :
  Calls Try.prog 36 #[.agg #[.int .i64 a0_0, .string a0_1, .string a0_2, .string a0_3]] w fun e w' => e = .returned (.agg #[.int .i64 r1, .string r2, .string r3, .string r4]) ∧ Below w.heap.size w w' := by
 have hu52 := Try.underlying52
 have hu55 := Try.underlying55
 have HB := Aside0.mk (Below.refl w.heap.size w)
 have H : (some (a0_0, a0_1, a0_2, a0_3)) = some (r1, r2, r3, r4) := h
 clear h
 simp only [Option.some.injEq, Prod.mk.injEq] at H
 obtain ⟨rfl, rfl, rfl, rfl⟩ := H
 go_enter Try.func36, Try.ntmps36
 go_wp2_with (first | ((with_reducible refine gate_dst (N := 1) rfl ?_); refine zx (N := 1) (cs := #[.int .i64 a0_0, .string a0_1, .string a0_2, .string a0_3]) (t := 52) ?_; intro gb160 hg w2 hbox hb; have Aa := Aside0.mk (hbox); have GW160 := zg HB hg; have GE160 := zg HB hg; replace HB := zs HB hb; clear hb hbox hg) | ((with_reducible refine gate_dst (N := 2) rfl ?_); refine zx (N := 2) (cs := #[.int .i64 0, .string (⟨#[]⟩ : ByteArray), .string (⟨#[]⟩ : ByteArray), .string (⟨#[]⟩ : ByteArray)]) (t := 55) ?_; intro Ai hg w3 hbox hb; have Ab := Aside0.mk (hbox); have GW161 := zg HB hg; have GE161 := zg HB hg; replace HB := zs HB hb; have Ah := zl Aa hg; have Af := zr Aa hg; replace Aa := zb Aa hb; clear hb hbox hg) | ((with_reducible refine gate_dst (N := 3) rfl ?_); refine zx (N := 3) (cs := #[.int .i64 0, .string (⟨#[]⟩ : ByteArray), .string (⟨#[]⟩ : ByteArray), .string (⟨#[]⟩ : ByteArray)]) (t := 55) ?_; intro gb162 hg w4 hbox hb; have Aj := Aside0.mk (hbox); have GW162 := zg HB hg; have GE162 := zg HB hg; replace HB := zs HB hb; have Ag := zl Aa hg; have Ad := zr Aa hg; replace Aa := zb Aa hb; have Ae := zl Ab hg; have Ac := zr Ab hg; replace Ab := zb Ab hb; clear hb hbox hg; have hnb5 := Ah.out; have hnc5 := Af.out; have hnb6 := Ag.out; have hnc6 := Ad.out; obtain ⟨_, _, _, _, _, _, _, _⟩ := zc4 Aa; have hnb8 := Ac.out; have hnc8 := Ae.out; obtain ⟨_, _, _, _, _, _, _, _⟩ := zc4 Aj; obtain ⟨_, _, _, _, _, _, _, _⟩ := zc4 Ab))
 refine bodyPost_ret (results_cell_row rfl _ _ Ai 55 #[.int .i64 a0_0, .string a0_1, .string a0_2, .string a0_3] (0, 0) _ rfl (zj Ab) Try.underlying55 rfl (by kernel_rfl)) rfl ?_
 exact ⟨ze, zw HB⟩

/-! ### laws_toActS: function 40 -/
def laws_toActS.l0 : Nat → List (S52) → List (S55) → Int → Option ((List (S55)))
 | 0, _, _, _ => none
 | k + 1, x0, x3, x4 => if x4 < (x0.length : Int) then (if 0 ≤ x4 then ((laws_toAct.f ((rd_T52 x0 x4).f0) ((rd_T52 x0 x4).f1) ((rd_T52 x0 x4).f2) ((rd_T52 x0 x4).f3)).bind fun bt167 => (if x4 < (x3.length : Int) then (laws_toActS.l0 k x0 (x3.set (x4 : Int).toNat (⟨bt167.1, bt167.2.1, bt167.2.2.1, bt167.2.2.2⟩ : S55)) (wrap64 (x4 + 1))) else (none))) else (none)) else (some x3)
def laws_toActS.f (k : Nat) (l0 : List (S52)) : Option ((List (S55))) := if 0 ≤ (l0.length : Int) then (if ((l0.length : Int) : Int).toNat ≤ 5026338869833 then (laws_toActS.l0 k l0 (List.replicate ((l0.length : Int) : Int).toNat z55) 0) else (none)) else (none)
theorem laws_toActS.mono_l : ∀ k, (∀ y0 y1 y2, LeO (laws_toActS.l0 k y0 y1 y2) (laws_toActS.l0 (k + 1) y0 y1 y2))
 | 0 => fun _ _ _ r h => by simp [laws_toActS.l0] at h
 | k + 1 => by
  have ih0 := laws_toActS.mono_l k
  intro y0 y1 y2
  unfold laws_toActS.l0
  repeat' first
  | (with_reducible exact ih0 _ _ _)
  | (with_reducible exact LeO.refl _)
  | (with_reducible exact LeO.none _)
  | (with_reducible refine LeO.ite ?_ ?_)
  | (with_reducible refine LeO.bind ?_ (fun _ => ?_))
  | exact ih0 _ _ _
  | exact LeO.none _
  | refine LeO.ite ?_ ?_
  | refine LeO.bind ?_ (fun _ => ?_)
theorem laws_toActS.mono : ∀ a0 k, LeO (laws_toActS.f k a0) (laws_toActS.f (k + 1) a0) := by
 intro a0 k
 have ih0 := laws_toActS.mono_l k
 unfold laws_toActS.f
 repeat' first
   | (with_reducible exact ih0 _ _ _)
   | (with_reducible exact LeO.refl _)
   | (with_reducible exact LeO.none _)
   | (with_reducible refine LeO.ite ?_ ?_)
   | (with_reducible refine LeO.bind ?_ (fun _ => ?_))
   | exact ih0 _ _ _
   | exact LeO.none _
   | refine LeO.ite ?_ ?_
   | refine LeO.bind ?_ (fun _ => ?_)
set_option maxHeartbeats 8000000 in
set_option maxRecDepth 100000 in
theorem laws_toActS.calls (k : Nat) (A0 : Option Addr) (c0 : Nat) (l0 : List (S52)) (r : List (S55)) (w : World) (hr0 : Kd.C k52 w A0 l0.length l0) (hc0 : l0.length ≤ c0) (h : laws_toActS.f k l0 = some r) :
  Calls Try.prog 40 #[.slice A0 l0.length c0] w fun e w' => ∃ v0_ : Value, e = .returned (v0_) ∧ Kd.R k55 55 w' w.heap.size (fun _ => True) v0_ r ∧ Below w.heap.size w w' := by
 have hu52 := Try.underlying52
 have hu55 := Try.underlying55
 have HR0 := Aside0.mk hr0
 have HC0 := Aside0.mk hc0
 clear hr0 hc0
 have HB := Aside0.mk (Below.refl w.heap.size w)
 have H : (if 0 ≤ (l0.length : Int) then (if ((l0.length : Int) : Int).toNat ≤ 5026338869833 then (laws_toActS.l0 k l0 (List.replicate ((l0.length : Int) : Int).toNat z55) 0) else (none)) else (none)) = some r := h
 clear h
 by_cases c2 : 0 ≤ (l0.length : Int)
 ·rw [if_pos c2] at H
  have Bw := eq_true c2
  have Bv := decide_eq_true c2
  clear c2
  by_cases c3 : ((l0.length : Int) : Int).toNat ≤ 5026338869833
  ·rw [if_pos c3] at H
   have Bu := eq_true c3
   have Bt := decide_eq_true c3
   clear c3
   obtain ⟨Be, Ag⟩ : ∃ y_ : List (S55), y_ = (List.replicate ((l0.length : Int) : Int).toNat z55) := ⟨_, rfl⟩
   replace H : (laws_toActS.l0 k l0 Be 0) = some r := by first | (rw [Ag]; with_reducible exact H) | (have H2_ := (Option.bind_some _ _).symm.trans H; rw [Ag]; with_reducible exact H2_) | (have H2_ := (Option.bind_some _ _).symm.trans H; with_reducible exact H2_) | with_reducible exact H | (rw [Ag]; exact H) | exact H
   have Ny163 := Aside0.mk Ag
   clear Ag
   have H' := Aside0.mk H
   clear H
   go_enter Try.func40, Try.ntmps40
   go_wp2_with (first | ((with_reducible refine gate_dst (N := 7) rfl ?_); refine Kd.R_make k55 _ 55 rfl (N := 7) rfl 62 _ _ rfl (l0.length : Int) rfl rfl Try.underlying62 (.agg #[(.int .i64 0), (.string ⟨#[]⟩), (.string ⟨#[]⟩), (.string ⟨#[]⟩)]) 56 info55 rfl (by decide) (by omega) z55 (ok := fun _ => True) (okp := fun _ => True) (k55_mkM _ _ _ z55 ) (fun _ hk => hk) trivial (of_decide_eq_true za) (Nat.le_trans (Nat.mul_le_mul_right _ (of_decide_eq_true za : (l0.length : Int).toNat ≤ 5026338869833)) (by omega)) (Below.refl _ _) (Nat.le_refl _) ?_; intro Bo w4 Bf hb hg_ hnew_; clear hg_ hnew_; (first | rw [← Ny163.out] at Bf | (simp only [Int.reduceToNat] at Bf; rw [← Ny163.out] at Bf)); have Bm := Aside0.mk (Kd.R_lower Bf (below_size (zw HB))); replace HB := zs HB hb; clear hb Bf))
   go_loopg [4] k (fun kq v4 w' => ∃ (Ab : List (S55)) (Aa : Int), v4 = .int .i64 Aa ∧ Aside0 (laws_toActS.l0 kq l0 Ab Aa = some r) ∧ Aside0 (kq ≤ k) ∧ Aside0 (Kd.R k55 55 w' w.heap.size (fun _ => True) Bo Ab) ∧ Aside0 (Below w.heap.size w w'))
   case atStart => exact ⟨(Be), (0), zf, H', ⟨Nat.le_refl _⟩, ⟨zo Bm.out⟩, ⟨zw HB⟩⟩
   case round =>
    clear H'
    try clear c2
    try clear Bw
    try clear Bv
    try clear p2
    try clear c3
    try clear Bu
    try clear Bt
    try clear c4
    obtain ⟨Ab, Aa, rfl, HA, Bx, Ad, HB⟩ := hrel
    cases gk with
    | zero => exact absurd HA.out (by simp [laws_toActS.l0])
    | succ k1 =>
     have H := HA.out
     clear HA
     simp only [laws_toActS.l0] at H
     by_cases c6 : Aa < (l0.length : Int)
     ·rw [if_pos c6] at H
      have Bs := decide_eq_true c6
      clear c6
      by_cases c7 : 0 ≤ Aa
      ·rw [if_pos c7] at H
       have c7b0 := decide_eq_true c7
       clear c7
       replace H := Option.bind_eq_some_iff.mp H
       obtain ⟨⟨Ao, Am, Al, Ak⟩, Bz, H⟩ := H
       replace H : (if Aa < (Ab.length : Int) then (laws_toActS.l0 k1 l0 (Ab.set (Aa : Int).toNat (⟨Ao, Am, Al, Ak⟩ : S55)) (wrap64 (Aa + 1))) else (none)) = some r := H
       have A8 := Aside0.mk Bz
       clear Bz
       by_cases c9 : Aa < (Ab.length : Int)
       ·rw [if_pos c9] at H
        have c9b0 := decide_eq_true c9
        clear c9
        obtain ⟨Ax, Af⟩ : ∃ y_ : List (S55), y_ = (Ab.set (Aa : Int).toNat (⟨Ao, Am, Al, Ak⟩ : S55)) := ⟨_, rfl⟩
        replace H : (laws_toActS.l0 k1 l0 Ax (wrap64 (Aa + 1))) = some r := by first | (rw [Af]; with_reducible exact H) | (have H2_ := (Option.bind_some _ _).symm.trans H; rw [Af]; with_reducible exact H2_) | (have H2_ := (Option.bind_some _ _).symm.trans H; with_reducible exact H2_) | with_reducible exact H | (rw [Af]; exact H) | exact H
        have Ny171 := Aside0.mk Af
        clear Af
        have H' := Aside0.mk H
        clear H
        have Az : 0 ≤ (Aa : Int) := of_decide_eq_true za
        have Ay : Aa < (l0.length : Int) := of_decide_eq_true za
        obtain ⟨ad166, Br, As, Ar, Aq, Ap⟩ := at_T52 HR0.out Aa Az Ay
        cases Br
        replace As := zU HB.out As
        replace Ar := zU HB.out Ar
        replace Aq := zU HB.out Aq
        replace Ap := zU HB.out Ap
        replace Az := eq_true Az
        replace Ay := eq_true Ay
        go_wp2_with (first | ((with_reducible refine gate_callee (f := 36) rfl ?_); refine zG (some 20) Try.func36 #[.agg #[.int .i64 ((rd_T52 l0 Aa).f0), .string ((rd_T52 l0 Aa).f1), .string ((rd_T52 l0 Aa).f2), .string ((rd_T52 l0 Aa).f3)]] ?_; (with_reducible refine (laws_toAct.calls ((rd_T52 l0 Aa).f0) ((rd_T52 l0 Aa).f1) ((rd_T52 l0 Aa).f2) ((rd_T52 l0 Aa).f3) Ao Am Al Ak _ A8.out).mono ?_); rintro e Au ⟨rfl, hb⟩; refine ⟨_, rfl, ?_⟩; replace Ad := zy Ad hb; replace HB := zs HB hb; clear hb; have Bq : 0 ≤ (Aa : Int) := of_decide_eq_true za; have Bp : (Aa : Int) < ((Ab.length : Int) : Int) := of_decide_eq_true za; obtain ⟨Ac, Bl, Bk, Bj, gl10, cl10, HG10⟩ := Kd.R_form Ad.out (by omega); (first | cases Bk | (injection Bk with ea_ en_ ec_; (first | subst ea_ | (injection ea_ with ea_; subst ea_)); subst ec_; clear en_)); have GB10 := Aside0.mk Bj; have GG10 := Aside0.mk HG10; clear Bj gl10 HG10; obtain ⟨ce10, Bg, Bi, Aj, Ai⟩ := Kd.R_elem Ad.out z55 (Aa : Int) Bq Bp; obtain rfl := k55_openM Bi; have hx10_0 : Au.cell? ⟨Ac, (Aa : Int).toNat * 4, none⟩ = some (.int .i64 ((rd_T55 Ab Aa).f0)) := Aj 0 _ rfl; have hx10_1 : Au.cell? ⟨Ac, (Aa : Int).toNat * 4 + 1, none⟩ = some (.string ((rd_T55 Ab Aa).f1)) := Aj 1 _ rfl; have hx10_2 : Au.cell? ⟨Ac, (Aa : Int).toNat * 4 + 2, none⟩ = some (.string ((rd_T55 Ab Aa).f2)) := Aj 2 _ rfl; have hx10_3 : Au.cell? ⟨Ac, (Aa : Int).toNat * 4 + 3, none⟩ = some (.string ((rd_T55 Ab Aa).f3)) := Aj 3 _ rfl; have hf10_0 : Au.frozen? ⟨Ac, (Aa : Int).toNat * 4, none⟩ = false := Ai 0; have hf10_1 : Au.frozen? ⟨Ac, (Aa : Int).toNat * 4 + 1, none⟩ = false := Ai 1; have hf10_2 : Au.frozen? ⟨Ac, (Aa : Int).toNat * 4 + 2, none⟩ = false := Ai 2; have hf10_3 : Au.frozen? ⟨Ac, (Aa : Int).toNat * 4 + 3, none⟩ = false := Ai 3; clear Bg Aj Ai Bi; replace Bq := eq_true Bq; replace Bp := eq_true Bp; have HX12 := Aside0.mk (show Kd.R k55 55 Au w.heap.size (fun _ => True) (.slice (some ⟨Ac, 0, none⟩) Ab.length Bl) Ab from (zo Ad.out)); obtain ⟨ce12, Aw, Bh, Ae, Ah⟩ := Kd.R_elem HX12.out z55 (Aa : Int) (of_decide_eq_true za) (by have h_ : (Aa : Int) < ((Ab.length : Int) : Int) := of_decide_eq_true za; first | exact h_ | (have e_ := (Kd.R_reads' Ad.out).1; omega) | simpa using h_); obtain rfl := k55_openM Bh; have HP12 := Kd.R_seg HX12.out (Aa : Int) (of_decide_eq_true za) (by have h_ : (Aa : Int) < ((Ab.length : Int) : Int) := of_decide_eq_true za; first | exact h_ | (have e_ := (Kd.R_reads' Ad.out).1; omega) | simpa using h_) (seg := [.int .i64 Ao, .string Am, .string Al, .string Ak]) (j := 0) Aw Ae (show 4 ≤ 4 from by decide) (x' := (⟨Ao, Am, Al, Ak⟩ : S55)) (k55_mkM _ _ _ (⟨Ao, Am, Al, Ak⟩ : S55) ) (fun _ hk => hk); have Bd := Ae 0 _ rfl; (try simp only [show (k55).sz = 4 from rfl, Nat.mul_one, Nat.add_zero] at Bd); have hf12_0 := Ah 0; (try simp only [show (k55).sz = 4 from rfl, Nat.mul_one, Nat.add_zero] at hf12_0); have Bc := Ae 1 _ rfl; (try simp only [show (k55).sz = 4 from rfl, Nat.mul_one, Nat.add_zero] at Bc); have hf12_1 := Ah 1; (try simp only [show (k55).sz = 4 from rfl, Nat.mul_one, Nat.add_zero] at hf12_1); have Bb := Ae 2 _ rfl; (try simp only [show (k55).sz = 4 from rfl, Nat.mul_one, Nat.add_zero] at Bb); have hf12_2 := Ah 2; (try simp only [show (k55).sz = 4 from rfl, Nat.mul_one, Nat.add_zero] at hf12_2); have Ba := Ae 3 _ rfl; (try simp only [show (k55).sz = 4 from rfl, Nat.mul_one, Nat.add_zero] at Ba); have hf12_3 := Ah 3; (try simp only [show (k55).sz = 4 from rfl, Nat.mul_one, Nat.add_zero] at hf12_3); clear Aw Ae Ah Bh) | ((with_reducible refine gate_store (t := 55) (p := 21) rfl ?_); refine store_event (t := 55) (p := 21) (v := ?vo_w13) (w1 := ((((Au.setCell ⟨Ac, (Aa : Int).toNat * 4, none⟩ (.int .i64 Ao)).setCell ⟨Ac, (Aa : Int).toNat * 4 + 1, none⟩ (.string Am)).setCell ⟨Ac, (Aa : Int).toNat * 4 + 2, none⟩ (.string Al)).setCell ⟨Ac, (Aa : Int).toNat * 4 + 3, none⟩ (.string Ak))) ?hg ?ho ?hn ?hr ?_; (case ho => rfl); (case hg => rfl); (case hn => rfl); (case hr => first | (go_simp; done) | (go_simp; rfl)); intro Bn hw; have hg : Au.grownBy Bn (some Ac) := (by rw [hw]; exact HP12.2); have hp_ : Kd.R k55 55 Bn w.heap.size (fun _ => True) (.slice (some ⟨Ac, 0, none⟩) Ab.length Bl) Ax := (by rw [hw, Ny171.out]; exact HP12.1); clear HP12; replace Ad := Aside0.mk (hp_); replace HB := Aside0.mk ((by rw [hw]; exact below_set (below_set (below_set (below_set (HB.out) GB10.out) GB10.out) GB10.out) GB10.out : Below w.heap.size w Bn)); clear hg hw hp_))
        go_roundg k1
        case measure => have := Bx.out; omega
        case rel => exact ⟨(Ax), (wrap64 (Aa + 1)), zf, H', ⟨by have := Bx.out; omega⟩, ⟨zo Ad.out⟩, ⟨zw HB⟩⟩
       rw [if_neg c9] at H
       exact absurd H (by simp)
      rw [if_neg c7] at H
      exact absurd H (by simp)
     rw [if_neg c6] at H
     have Bs := decide_eq_false c6
     clear c6
     obtain rfl := Option.some.inj H
     go_wp2
     go_ret
     exact ⟨_, ze, zo Ad.out, zw HB⟩
  rw [if_neg c3] at H
  exact absurd H (by simp)
 rw [if_neg c2] at H
 exact absurd H (by simp)

/-! ### laws_eqAct: function 68 -/
def laws_eqAct.f (a0_0 : Int) (a0_1 : ByteArray) (a0_2 : ByteArray) (a0_3 : ByteArray) (a1_0 : Int) (a1_1 : ByteArray) (a1_2 : ByteArray) (a1_3 : ByteArray) : Option (Bool) := if a0_0 = a1_0 then (if a0_1.toList = a1_1.toList then (if a0_2.toList = a1_2.toList then (if a0_3.toList = a1_3.toList then (some true) else (some false)) else (some false)) else (some false)) else (some false)
set_option maxHeartbeats 8000000 in
set_option maxRecDepth 100000 in
theorem laws_eqAct.calls (a0_0 : Int) (a0_1 : ByteArray) (a0_2 : ByteArray) (a0_3 : ByteArray) (a1_0 : Int) (a1_1 : ByteArray) (a1_2 : ByteArray) (a1_3 : ByteArray) (r : Bool) (w : World) (h : laws_eqAct.f a0_0 a0_1 a0_2 a0_3 a1_0 a1_1 a1_2 a1_3 = some r) :
  Calls Try.prog 68 #[.agg #[.int .i64 a0_0, .string a0_1, .string a0_2, .string a0_3], .agg #[.int .i64 a1_0, .string a1_1, .string a1_2, .string a1_3]] w fun e w' => e = .returned (.bool r) ∧ Below w.heap.size w w' := by
 have hu55 := Try.underlying55
 have HB := Aside0.mk (Below.refl w.heap.size w)
 have H : (if a0_0 = a1_0 then (if a0_1.toList = a1_1.toList then (if a0_2.toList = a1_2.toList then (if a0_3.toList = a1_3.toList then (some true) else (some false)) else (some false)) else (some false)) else (some false)) = some r := h
 clear h
 by_cases c3 : a0_0 = a1_0
 ·rw [if_pos c3] at H
  have As : (a0_0 == a1_0) = true := beq_iff_eq.mpr c3
  have Ar : (a0_0 != a1_0) = false := bne_eq_false_iff_eq.mpr c3
  clear c3
  by_cases c4 : a0_1.toList = a1_1.toList
  ·rw [if_pos c4] at H
   have Aq : (a0_1.toList == a1_1.toList) = true := beq_iff_eq.mpr c4
   have Ap : (a0_1.toList != a1_1.toList) = false := bne_eq_false_iff_eq.mpr c4
   clear c4
   by_cases c5 : a0_2.toList = a1_2.toList
   ·rw [if_pos c5] at H
    have Ao : (a0_2.toList == a1_2.toList) = true := beq_iff_eq.mpr c5
    have Am : (a0_2.toList != a1_2.toList) = false := bne_eq_false_iff_eq.mpr c5
    clear c5
    by_cases c6 : a0_3.toList = a1_3.toList
    ·rw [if_pos c6] at H
     have Al : (a0_3.toList == a1_3.toList) = true := beq_iff_eq.mpr c6
     have Ak : (a0_3.toList != a1_3.toList) = false := bne_eq_false_iff_eq.mpr c6
     clear c6
     obtain rfl := Option.some.inj H
     go_enter Try.func68, Try.ntmps68
     go_wp2_with (first | ((with_reducible refine gate_dst (N := 2) rfl ?_); refine zx (N := 2) (cs := #[.int .i64 a0_0, .string a0_1, .string a0_2, .string a0_3]) (t := 55) ?_; intro Af hg w7 hbox hb; have Aa := Aside0.mk (hbox); have Ah := zg HB hg; have Aj := zg HB hg; replace HB := zs HB hb; clear hb hbox hg) | ((with_reducible refine gate_dst (N := 3) rfl ?_); refine zx (N := 3) (cs := #[.int .i64 a1_0, .string a1_1, .string a1_2, .string a1_3]) (t := 55) ?_; intro Ae hg w8 hbox hb; have Ad := Aside0.mk (hbox); have Ag := zg HB hg; have Ai := zg HB hg; replace HB := zs HB hb; have Ac := zl Aa hg; have Ab := zr Aa hg; replace Aa := zb Aa hb; clear hb hbox hg; have hnb9 := Ac.out; have hnc9 := Ab.out; obtain ⟨_, _, _, _, _, _, _, _⟩ := zc4 Aa; obtain ⟨_, _, _, _, _, _, _, _⟩ := zc4 Ad))
     go_ret
     exact ⟨ze, zw HB⟩
    rw [if_neg c6] at H
    have Al : (a0_3.toList == a1_3.toList) = false := beq_eq_false_iff_ne.mpr c6
    have Ak : (a0_3.toList != a1_3.toList) = true := bne_iff_ne.mpr c6
    obtain rfl := Option.some.inj H
    go_enter Try.func68, Try.ntmps68
    go_wp2_with (first | ((with_reducible refine gate_dst (N := 2) rfl ?_); refine zx (N := 2) (cs := #[.int .i64 a0_0, .string a0_1, .string a0_2, .string a0_3]) (t := 55) ?_; intro Af hg w12 hbox hb; have Aa := Aside0.mk (hbox); have Ah := zg HB hg; have Aj := zg HB hg; replace HB := zs HB hb; clear hb hbox hg) | ((with_reducible refine gate_dst (N := 3) rfl ?_); refine zx (N := 3) (cs := #[.int .i64 a1_0, .string a1_1, .string a1_2, .string a1_3]) (t := 55) ?_; intro Ae hg w13 hbox hb; have Ad := Aside0.mk (hbox); have Ag := zg HB hg; have Ai := zg HB hg; replace HB := zs HB hb; have Ac := zl Aa hg; have Ab := zr Aa hg; replace Aa := zb Aa hb; clear hb hbox hg; have hnb14 := Ac.out; have hnc14 := Ab.out; obtain ⟨_, _, _, _, _, _, _, _⟩ := zc4 Aa; obtain ⟨_, _, _, _, _, _, _, _⟩ := zc4 Ad))
    go_ret
    exact ⟨ze, zw HB⟩
   rw [if_neg c5] at H
   have Ao : (a0_2.toList == a1_2.toList) = false := beq_eq_false_iff_ne.mpr c5
   have Am : (a0_2.toList != a1_2.toList) = true := bne_iff_ne.mpr c5
   obtain rfl := Option.some.inj H
   go_enter Try.func68, Try.ntmps68
   go_wp2_with (first | ((with_reducible refine gate_dst (N := 2) rfl ?_); refine zx (N := 2) (cs := #[.int .i64 a0_0, .string a0_1, .string a0_2, .string a0_3]) (t := 55) ?_; intro Af hg w17 hbox hb; have Aa := Aside0.mk (hbox); have Ah := zg HB hg; have Aj := zg HB hg; replace HB := zs HB hb; clear hb hbox hg) | ((with_reducible refine gate_dst (N := 3) rfl ?_); refine zx (N := 3) (cs := #[.int .i64 a1_0, .string a1_1, .string a1_2, .string a1_3]) (t := 55) ?_; intro Ae hg w18 hbox hb; have Ad := Aside0.mk (hbox); have Ag := zg HB hg; have Ai := zg HB hg; replace HB := zs HB hb; have Ac := zl Aa hg; have Ab := zr Aa hg; replace Aa := zb Aa hb; clear hb hbox hg; have hnb19 := Ac.out; have hnc19 := Ab.out; obtain ⟨_, _, _, _, _, _, _, _⟩ := zc4 Aa; obtain ⟨_, _, _, _, _, _, _, _⟩ := zc4 Ad))
   go_ret
   exact ⟨ze, zw HB⟩
  rw [if_neg c4] at H
  have Aq : (a0_1.toList == a1_1.toList) = false := beq_eq_false_iff_ne.mpr c4
  have Ap : (a0_1.toList != a1_1.toList) = true := bne_iff_ne.mpr c4
  obtain rfl := Option.some.inj H
  go_enter Try.func68, Try.ntmps68
  go_wp2_with (first | ((with_reducible refine gate_dst (N := 2) rfl ?_); refine zx (N := 2) (cs := #[.int .i64 a0_0, .string a0_1, .string a0_2, .string a0_3]) (t := 55) ?_; intro Af hg w22 hbox hb; have Aa := Aside0.mk (hbox); have Ah := zg HB hg; have Aj := zg HB hg; replace HB := zs HB hb; clear hb hbox hg) | ((with_reducible refine gate_dst (N := 3) rfl ?_); refine zx (N := 3) (cs := #[.int .i64 a1_0, .string a1_1, .string a1_2, .string a1_3]) (t := 55) ?_; intro Ae hg w23 hbox hb; have Ad := Aside0.mk (hbox); have Ag := zg HB hg; have Ai := zg HB hg; replace HB := zs HB hb; have Ac := zl Aa hg; have Ab := zr Aa hg; replace Aa := zb Aa hb; clear hb hbox hg; have hnb24 := Ac.out; have hnc24 := Ab.out; obtain ⟨_, _, _, _, _, _, _, _⟩ := zc4 Aa; obtain ⟨_, _, _, _, _, _, _, _⟩ := zc4 Ad))
  go_ret
  exact ⟨ze, zw HB⟩
 rw [if_neg c3] at H
 have As : (a0_0 == a1_0) = false := beq_eq_false_iff_ne.mpr c3
 have Ar : (a0_0 != a1_0) = true := bne_iff_ne.mpr c3
 obtain rfl := Option.some.inj H
 go_enter Try.func68, Try.ntmps68
 go_wp2_with (first | ((with_reducible refine gate_dst (N := 2) rfl ?_); refine zx (N := 2) (cs := #[.int .i64 a0_0, .string a0_1, .string a0_2, .string a0_3]) (t := 55) ?_; intro Af hg w27 hbox hb; have Aa := Aside0.mk (hbox); have Ah := zg HB hg; have Aj := zg HB hg; replace HB := zs HB hb; clear hb hbox hg) | ((with_reducible refine gate_dst (N := 3) rfl ?_); refine zx (N := 3) (cs := #[.int .i64 a1_0, .string a1_1, .string a1_2, .string a1_3]) (t := 55) ?_; intro Ae hg w28 hbox hb; have Ad := Aside0.mk (hbox); have Ag := zg HB hg; have Ai := zg HB hg; replace HB := zs HB hb; have Ac := zl Aa hg; have Ab := zr Aa hg; replace Aa := zb Aa hb; clear hb hbox hg; have hnb29 := Ac.out; have hnc29 := Ab.out; obtain ⟨_, _, _, _, _, _, _, _⟩ := zc4 Aa; obtain ⟨_, _, _, _, _, _, _, _⟩ := zc4 Ad))
 go_ret
 exact ⟨ze, zw HB⟩

/-! ### laws_eqActS: function 42 -/
def laws_eqActS.l0 : Nat → List (S55) → List (S55) → Int → Option (Bool)
 | 0, _, _, _ => none
 | k + 1, x0, x1, x5 => if x5 < (x0.length : Int) then (if 0 ≤ x5 then (if x5 < (x1.length : Int) then ((laws_eqAct.f ((rd_T55 x0 x5).f0) ((rd_T55 x0 x5).f1) ((rd_T55 x0 x5).f2) ((rd_T55 x0 x5).f3) ((rd_T55 x1 x5).f0) ((rd_T55 x1 x5).f1) ((rd_T55 x1 x5).f2) ((rd_T55 x1 x5).f3)).bind fun t176 => (if t176 = true then (laws_eqActS.l0 k x0 x1 (wrap64 (x5 + 1))) else (some false))) else (none)) else (none)) else (some true)
def laws_eqActS.f (k : Nat) (l0 : List (S55)) (l1 : List (S55)) : Option (Bool) := if (l0.length : Int) = (l1.length : Int) then (laws_eqActS.l0 k l0 l1 0) else (some false)
theorem laws_eqActS.mono_l : ∀ k, (∀ y0 y1 y2, LeO (laws_eqActS.l0 k y0 y1 y2) (laws_eqActS.l0 (k + 1) y0 y1 y2))
 | 0 => fun _ _ _ r h => by simp [laws_eqActS.l0] at h
 | k + 1 => by
  have ih0 := laws_eqActS.mono_l k
  intro y0 y1 y2
  unfold laws_eqActS.l0
  repeat' first
  | (with_reducible exact ih0 _ _ _)
  | (with_reducible exact LeO.refl _)
  | (with_reducible exact LeO.none _)
  | (with_reducible refine LeO.ite ?_ ?_)
  | (with_reducible refine LeO.bind ?_ (fun _ => ?_))
  | exact ih0 _ _ _
  | exact LeO.none _
  | refine LeO.ite ?_ ?_
  | refine LeO.bind ?_ (fun _ => ?_)
theorem laws_eqActS.mono : ∀ a0 a1 k, LeO (laws_eqActS.f k a0 a1) (laws_eqActS.f (k + 1) a0 a1) := by
 intro a0 a1 k
 have ih0 := laws_eqActS.mono_l k
 unfold laws_eqActS.f
 repeat' first
   | (with_reducible exact ih0 _ _ _)
   | (with_reducible exact LeO.refl _)
   | (with_reducible exact LeO.none _)
   | (with_reducible refine LeO.ite ?_ ?_)
   | (with_reducible refine LeO.bind ?_ (fun _ => ?_))
   | exact ih0 _ _ _
   | exact LeO.none _
   | refine LeO.ite ?_ ?_
   | refine LeO.bind ?_ (fun _ => ?_)
def laws_eqActS.T6 : Bool × List (List Nat × List Nat) := (true, [([], []), ([], []), ([0, 1], [0, 1]), ([2], [2]), ([], []), ([], []), ([4, 5], [4, 5]), ([6], [6]), ([3, 7], [3, 7]), ([8], [8])])
def laws_eqActS.B6 : List Nat := [0, 0, 3, 7, 0, 0, 48, 112, 255, 511]
theorem laws_eqActS.tab6 : rtab .any (opsOf Try.f42 6) = laws_eqActS.T6 := by kernel_rfl
theorem laws_eqActS.bits6 : waitsOk laws_eqActS.T6.2 laws_eqActS.B6 = true := by kernel_rfl
abbrev q4_0 := #[o_,o_,o_,o_,o_,o_,o_,o_,o_,o_]
abbrev q4_1 := #[i_,o_,o_,o_,o_,o_,o_,o_,o_,o_]
abbrev q4_2 := #[i_,i_,o_,o_,o_,o_,o_,o_,o_,o_]
abbrev q4_3 := #[i_,i_,i_,o_,o_,o_,o_,o_,o_,o_]
abbrev q4_4 := #[i_,i_,i_,o_,i_,o_,o_,o_,o_,o_]
abbrev q4_5 := #[i_,i_,i_,o_,i_,i_,o_,o_,o_,o_]
abbrev q4_6 := #[i_,i_,i_,o_,i_,i_,i_,o_,o_,o_]
abbrev q4_7 := #[i_,i_,i_,i_,i_,i_,i_,o_,o_,o_]
abbrev q4_8 := #[i_,i_,i_,i_,i_,i_,i_,i_,o_,o_]
abbrev q4_9 := #[i_,i_,i_,i_,i_,i_,i_,i_,i_,o_]
abbrev q4_10 := #[i_,i_,i_,i_,i_,i_,i_,i_,i_,i_]
set_option maxHeartbeats 8000000 in
set_option maxRecDepth 100000 in
theorem laws_eqActS.calls (k : Nat) (A0 : Option Addr) (c0 : Nat) (l0 : List (S55)) (A1 : Option Addr) (c1 : Nat) (l1 : List (S55)) (r : Bool) (w : World) (hr0 : Kd.C k55 w A0 l0.length l0) (hc0 : l0.length ≤ c0) (hr1 : Kd.C k55 w A1 l1.length l1) (hc1 : l1.length ≤ c1) (h : laws_eqActS.f k l0 l1 = some r) :
  Calls Try.prog 42 #[.slice A0 l0.length c0, .slice A1 l1.length c1] w fun e w' => e = .returned (.bool r) ∧ Below w.heap.size w w' := by
 have hu55 := Try.underlying55
 have HR0 := Aside0.mk hr0
 have HC0 := Aside0.mk hc0
 clear hr0 hc0
 have HR1 := Aside0.mk hr1
 have HC1 := Aside0.mk hc1
 clear hr1 hc1
 have HB := Aside0.mk (Below.refl w.heap.size w)
 have H : (if (l0.length : Int) = (l1.length : Int) then (laws_eqActS.l0 k l0 l1 0) else (some false)) = some r := h
 clear h
 by_cases c3 : (l0.length : Int) = (l1.length : Int)
 ·rw [if_pos c3] at H
  have Be : ((l0.length : Int) == (l1.length : Int)) = true := beq_iff_eq.mpr c3
  have Bd : ((l0.length : Int) != (l1.length : Int)) = false := bne_eq_false_iff_eq.mpr c3
  have Bc : (l0.length == l1.length) = true := by first | simpa using c3 | (simp at c3 ⊢; omega)
  clear c3
  have H' := Aside0.mk H
  clear H
  go_enter Try.func42, Try.ntmps42
  go_wp2
  go_loopg [5] k (fun kq v5 w' => ∃ (Aa : Int), v5 = .int .i64 Aa ∧ Aside0 (laws_eqActS.l0 kq l0 l1 Aa = some r) ∧ Aside0 (kq ≤ k) ∧ Aside0 (Below w.heap.size w w'))
  case atStart => exact ⟨(0), zf, H', ⟨Nat.le_refl _⟩, ⟨zw HB⟩⟩
  case round =>
   clear H'
   try clear c1
   try clear p2
   try clear c3
   try clear Be
   try clear Bd
   try clear Bc
   obtain ⟨Aa, rfl, HA, Bh, HB⟩ := hrel
   cases gk with
   | zero => exact absurd HA.out (by simp [laws_eqActS.l0])
   | succ k1 =>
    have H := HA.out
    clear HA
    simp only [laws_eqActS.l0] at H
    by_cases c4 : Aa < (l0.length : Int)
    ·rw [if_pos c4] at H
     have Bg := decide_eq_true c4
     clear c4
     by_cases c5 : 0 ≤ Aa
     ·rw [if_pos c5] at H
      have c5b0 := decide_eq_true c5
      clear c5
      by_cases c6 : Aa < (l1.length : Int)
      ·rw [if_pos c6] at H
       have c6b0 := decide_eq_true c6
       clear c6
       replace H := Option.bind_eq_some_iff.mp H
       obtain ⟨Bf, Bi, H⟩ := H
       have A7 := Aside0.mk Bi
       clear Bi
       by_cases c8 : Bf = true
       ·subst c8
        rw [if_pos rfl] at H
        have H' := Aside0.mk H
        clear H
        try go_wp2
        replace HB := Aside0.mk (below_drew1 HB.out)
        have Az : 0 ≤ (Aa : Int) := of_decide_eq_true za
        have Ax : Aa < (l0.length : Int) := of_decide_eq_true za
        obtain ⟨Ak, Bb, Ai, Ah, Ag, Af⟩ := at_T55 HR0.out Aa Az Ax
        have Aq := Af
        have Ar := Ag
        have As := Ah
        have Au := Ai
        cases Bb
        replace Ai := zU HB.out Ai
        replace Ah := zU HB.out Ah
        replace Ag := zU HB.out Ag
        replace Af := zU HB.out Af
        replace Az := eq_true Az
        replace Ax := eq_true Ax
        have Ay : 0 ≤ (Aa : Int) := of_decide_eq_true za
        have Aw : Aa < (l1.length : Int) := of_decide_eq_true za
        obtain ⟨Aj, Ba, Ae, Ad, Ac, Ab⟩ := at_T55 HR1.out Aa Ay Aw
        have Al := Ab
        have Am := Ac
        have Ao := Ad
        have Ap := Ae
        cases Ba
        replace Ae := zU HB.out Ae
        replace Ad := zU HB.out Ad
        replace Ac := zU HB.out Ac
        replace Ab := zU HB.out Ab
        replace Ay := eq_true Ay
        replace Aw := eq_true Aw
        refine start_ (n := 10) (S := fun w' => w'.cell? (Ak.add ((Aa).toNat * 4)) = some (.int .i64 ((rd_T55 l0 Aa).f0)) ∧ w'.cell? ⟨(Ak.add ((Aa).toNat * 4)).block, (Ak.add ((Aa).toNat * 4)).off + 1, none⟩ = some (.string ((rd_T55 l0 Aa).f1)) ∧ w'.cell? ⟨(Ak.add ((Aa).toNat * 4)).block, (Ak.add ((Aa).toNat * 4)).off + 2, none⟩ = some (.string ((rd_T55 l0 Aa).f2)) ∧ w'.cell? ⟨(Ak.add ((Aa).toNat * 4)).block, (Ak.add ((Aa).toNat * 4)).off + 3, none⟩ = some (.string ((rd_T55 l0 Aa).f3)) ∧ w'.cell? (Aj.add ((Aa).toNat * 4)) = some (.int .i64 ((rd_T55 l1 Aa).f0)) ∧ w'.cell? ⟨(Aj.add ((Aa).toNat * 4)).block, (Aj.add ((Aa).toNat * 4)).off + 1, none⟩ = some (.string ((rd_T55 l1 Aa).f1)) ∧ w'.cell? ⟨(Aj.add ((Aa).toNat * 4)).block, (Aj.add ((Aa).toNat * 4)).off + 2, none⟩ = some (.string ((rd_T55 l1 Aa).f2)) ∧ w'.cell? ⟨(Aj.add ((Aa).toNat * 4)).block, (Aj.add ((Aa).toNat * 4)).off + 3, none⟩ = some (.string ((rd_T55 l1 Aa).f3))) (ds := []) q4_0 (by kernel_rfl) rfl rfl ⟨(zU HB.out Au), (zU HB.out As), (zU HB.out Ar), (zU HB.out Aq), (zU HB.out Ap), (zU HB.out Ao), (zU HB.out Am), (zU HB.out Al)⟩ (fun hHeld => ?_); refine with_tabW laws_eqActS.tab6 laws_eqActS.bits6 (fun HT_ HW_ => ?_)
        generalize wr.drew = w9 at HB Ai Ah Ag Af Ae Ad Ac Ab hHeld ⊢
        refine zP 0 (some 17) q4_1 HT_ ?_
        refine zP 1 (some 18) q4_2 HT_ ?_
        refine zP 2 (some 19) q4_3 HT_ ?_
        refine zP 4 (some 21) q4_4 HT_ ?_
        refine zP 5 (some 22) q4_5 HT_ ?_
        refine zP 6 (some 23) q4_6 HT_ ?_
        refine zT 3 (some 20) q4_7 HT_ HW_ hHeld ?_
        refine zT 7 (some 24) q4_8 HT_ HW_ hHeld ?_
        refine one_ (i := 8) (N := some 25) q4_9 rfl rfl (one_of HT_.out (by kernel_rfl)) (by decide) (fun K hK => ?_)
        refine zH Try.func68 #[.agg #[.int .i64 ((rd_T55 l0 Aa).f0), .string ((rd_T55 l0 Aa).f1), .string ((rd_T55 l0 Aa).f2), .string ((rd_T55 l0 Aa).f3)], .agg #[.int .i64 ((rd_T55 l1 Aa).f0), .string ((rd_T55 l1 Aa).f1), .string ((rd_T55 l1 Aa).f2), .string ((rd_T55 l1 Aa).f3)]] ?_
        with_reducible refine (laws_eqAct.calls ((rd_T55 l0 Aa).f0) ((rd_T55 l0 Aa).f1) ((rd_T55 l0 Aa).f2) ((rd_T55 l0 Aa).f3) ((rd_T55 l1 Aa).f0) ((rd_T55 l1 Aa).f1) ((rd_T55 l1 Aa).f2) ((rd_T55 l1 Aa).f3) true _ A7.out).mono ?_
        rintro e w10 ⟨rfl, hb⟩
        refine ⟨_, rfl, ?_⟩
        replace HB := zs HB hb
        (try clear hb)
        (try clear hb2)
        (try clear hk)
        (try clear hi)
        refine hK.out _ _ ⟨(zU HB.out Au), (zU HB.out As), (zU HB.out Ar), (zU HB.out Aq), (zU HB.out Ap), (zU HB.out Ao), (zU HB.out Am), (zU HB.out Al)⟩ (fun hHeld => ?_)
        clear hK K
        refine zN ?_
        refine zP 9 (some 26) q4_10 HT_ ?_
        refine done_ (done_of HT_.out (by kernel_rfl)) ?_
        try go_wp2
        go_roundg k1
        case measure => have := Bh.out; omega
        case rel => exact ⟨(wrap64 (Aa + 1)), zf, H', ⟨by have := Bh.out; omega⟩, ⟨zw HB⟩⟩
       replace c8 := Bool.eq_false_iff.mpr c8
       subst c8
       rw [if_neg (show ¬ (false = true) by decide)] at H
       obtain rfl := Option.some.inj H
       try go_wp2
       replace HB := Aside0.mk (below_drew1 HB.out)
       have Az : 0 ≤ (Aa : Int) := of_decide_eq_true za
       have Ax : Aa < (l0.length : Int) := of_decide_eq_true za
       obtain ⟨Ak, Bb, Ai, Ah, Ag, Af⟩ := at_T55 HR0.out Aa Az Ax
       have Aq := Af
       have Ar := Ag
       have As := Ah
       have Au := Ai
       cases Bb
       replace Ai := zU HB.out Ai
       replace Ah := zU HB.out Ah
       replace Ag := zU HB.out Ag
       replace Af := zU HB.out Af
       replace Az := eq_true Az
       replace Ax := eq_true Ax
       have Ay : 0 ≤ (Aa : Int) := of_decide_eq_true za
       have Aw : Aa < (l1.length : Int) := of_decide_eq_true za
       obtain ⟨Aj, Ba, Ae, Ad, Ac, Ab⟩ := at_T55 HR1.out Aa Ay Aw
       have Al := Ab
       have Am := Ac
       have Ao := Ad
       have Ap := Ae
       cases Ba
       replace Ae := zU HB.out Ae
       replace Ad := zU HB.out Ad
       replace Ac := zU HB.out Ac
       replace Ab := zU HB.out Ab
       replace Ay := eq_true Ay
       replace Aw := eq_true Aw
       refine start_ (n := 10) (S := fun w' => w'.cell? (Ak.add ((Aa).toNat * 4)) = some (.int .i64 ((rd_T55 l0 Aa).f0)) ∧ w'.cell? ⟨(Ak.add ((Aa).toNat * 4)).block, (Ak.add ((Aa).toNat * 4)).off + 1, none⟩ = some (.string ((rd_T55 l0 Aa).f1)) ∧ w'.cell? ⟨(Ak.add ((Aa).toNat * 4)).block, (Ak.add ((Aa).toNat * 4)).off + 2, none⟩ = some (.string ((rd_T55 l0 Aa).f2)) ∧ w'.cell? ⟨(Ak.add ((Aa).toNat * 4)).block, (Ak.add ((Aa).toNat * 4)).off + 3, none⟩ = some (.string ((rd_T55 l0 Aa).f3)) ∧ w'.cell? (Aj.add ((Aa).toNat * 4)) = some (.int .i64 ((rd_T55 l1 Aa).f0)) ∧ w'.cell? ⟨(Aj.add ((Aa).toNat * 4)).block, (Aj.add ((Aa).toNat * 4)).off + 1, none⟩ = some (.string ((rd_T55 l1 Aa).f1)) ∧ w'.cell? ⟨(Aj.add ((Aa).toNat * 4)).block, (Aj.add ((Aa).toNat * 4)).off + 2, none⟩ = some (.string ((rd_T55 l1 Aa).f2)) ∧ w'.cell? ⟨(Aj.add ((Aa).toNat * 4)).block, (Aj.add ((Aa).toNat * 4)).off + 3, none⟩ = some (.string ((rd_T55 l1 Aa).f3))) (ds := []) q4_0 (by kernel_rfl) rfl rfl ⟨(zU HB.out Au), (zU HB.out As), (zU HB.out Ar), (zU HB.out Aq), (zU HB.out Ap), (zU HB.out Ao), (zU HB.out Am), (zU HB.out Al)⟩ (fun hHeld => ?_); refine with_tabW laws_eqActS.tab6 laws_eqActS.bits6 (fun HT_ HW_ => ?_)
       generalize wr.drew = w11 at HB Ai Ah Ag Af Ae Ad Ac Ab hHeld ⊢
       refine zP 0 (some 17) q4_1 HT_ ?_
       refine zP 1 (some 18) q4_2 HT_ ?_
       refine zP 2 (some 19) q4_3 HT_ ?_
       refine zP 4 (some 21) q4_4 HT_ ?_
       refine zP 5 (some 22) q4_5 HT_ ?_
       refine zP 6 (some 23) q4_6 HT_ ?_
       refine zT 3 (some 20) q4_7 HT_ HW_ hHeld ?_
       refine zT 7 (some 24) q4_8 HT_ HW_ hHeld ?_
       refine one_ (i := 8) (N := some 25) q4_9 rfl rfl (one_of HT_.out (by kernel_rfl)) (by decide) (fun K hK => ?_)
       refine zH Try.func68 #[.agg #[.int .i64 ((rd_T55 l0 Aa).f0), .string ((rd_T55 l0 Aa).f1), .string ((rd_T55 l0 Aa).f2), .string ((rd_T55 l0 Aa).f3)], .agg #[.int .i64 ((rd_T55 l1 Aa).f0), .string ((rd_T55 l1 Aa).f1), .string ((rd_T55 l1 Aa).f2), .string ((rd_T55 l1 Aa).f3)]] ?_
       with_reducible refine (laws_eqAct.calls ((rd_T55 l0 Aa).f0) ((rd_T55 l0 Aa).f1) ((rd_T55 l0 Aa).f2) ((rd_T55 l0 Aa).f3) ((rd_T55 l1 Aa).f0) ((rd_T55 l1 Aa).f1) ((rd_T55 l1 Aa).f2) ((rd_T55 l1 Aa).f3) false _ A7.out).mono ?_
       rintro e w12 ⟨rfl, hb⟩
       refine ⟨_, rfl, ?_⟩
       replace HB := zs HB hb
       (try clear hb)
       (try clear hb2)
       (try clear hk)
       (try clear hi)
       refine hK.out _ _ ⟨(zU HB.out Au), (zU HB.out As), (zU HB.out Ar), (zU HB.out Aq), (zU HB.out Ap), (zU HB.out Ao), (zU HB.out Am), (zU HB.out Al)⟩ (fun hHeld => ?_)
       clear hK K
       refine zN ?_
       refine zP 9 (some 26) q4_10 HT_ ?_
       refine done_ (done_of HT_.out (by kernel_rfl)) ?_
       try go_wp2
       go_ret
       exact ⟨ze, zw HB⟩
      rw [if_neg c6] at H
      exact absurd H (by simp)
     rw [if_neg c5] at H
     exact absurd H (by simp)
    rw [if_neg c4] at H
    have Bg := decide_eq_false c4
    clear c4
    obtain rfl := Option.some.inj H
    go_wp2
    go_ret
    exact ⟨ze, zw HB⟩
 rw [if_neg c3] at H
 have Be : ((l0.length : Int) == (l1.length : Int)) = false := beq_eq_false_iff_ne.mpr c3
 have Bd : ((l0.length : Int) != (l1.length : Int)) = true := bne_iff_ne.mpr c3
 have Bc : (l0.length == l1.length) = false := by first | simpa using c3 | (simp at c3 ⊢; omega)
 obtain rfl := Option.some.inj H
 go_enter Try.func42, Try.ntmps42
 go_wp2
 go_ret
 exact ⟨ze, zw HB⟩

end Go.Proofs.Ytdiecogmaiglaaa.PFnExactCutActs
