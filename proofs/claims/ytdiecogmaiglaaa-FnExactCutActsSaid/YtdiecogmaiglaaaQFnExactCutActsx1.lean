import Derived.Test.YtdiecogmaiglaaaQFnExactCutActsx0
namespace Go.Proofs.Ytdiecogmaiglaaa.PFnExactCutActs
open Go.RowKit Go.Proofs.YtdiecogmaiglaaaW.PrintWords Go.Proofs.YtdiecogmaiglaaaW.PrintLast Go.Proofs.YtdiecogmaiglaaaW.PrintMore
attribute [local go_sem] max2_int min2_int max_two min_two max_three min_three max_four min_four   -- for this text's walks alone
set_option linter.unusedVariables false
set_option linter.unusedSimpArgs false

/-! ### laws_szFile: function 74 -/
def laws_szFile.f (a0_0 : ByteArray) (a0_1 : ByteArray) (a0_2 : Int) (a1 : Int) : Option (Int) := if (wrap64 (a1 - (a0_0.size : Int))) < 0 then (some (-1)) else (if (wrap64 ((wrap64 (a1 - (a0_0.size : Int))) - (a0_1.size : Int))) < 0 then (some (-1)) else (some (wrap64 ((wrap64 (a1 - (a0_0.size : Int))) - (a0_1.size : Int)))))
set_option maxHeartbeats 8000000 in
set_option maxRecDepth 100000 in
theorem laws_szFile.calls (a0_0 : ByteArray) (a0_1 : ByteArray) (a0_2 : Int) (a1 : Int) (r : Int) (w : World) (h : laws_szFile.f a0_0 a0_1 a0_2 a1 = some r) :
  Calls Try.prog 74 #[.agg #[.string a0_0, .string a0_1, .int .i64 a0_2], .int .i64 a1] w fun e w' => e = .returned (.int .i64 r) ∧ Below w.heap.size w w' := by
 have hu94 := Try.underlying94
 have HB := Aside0.mk (Below.refl w.heap.size w)
 have H : (if (wrap64 (a1 - (a0_0.size : Int))) < 0 then (some (-1)) else (if (wrap64 ((wrap64 (a1 - (a0_0.size : Int))) - (a0_1.size : Int))) < 0 then (some (-1)) else (some (wrap64 ((wrap64 (a1 - (a0_0.size : Int))) - (a0_1.size : Int)))))) = some r := h
 clear h
 by_cases c3 : (wrap64 (a1 - (a0_0.size : Int))) < 0
 ·rw [if_pos c3] at H
  have Af := decide_eq_true c3
  clear c3
  obtain rfl := Option.some.inj H
  go_enter Try.func74, Try.ntmps74
  go_wp2_with (first | ((with_reducible refine gate_dst (N := 2) rfl ?_); refine zx (N := 2) (cs := #[.string a0_0, .string a0_1, .int .i64 a0_2]) (t := 94) ?_; intro Ab hg w4 hbox hb; have Aa := Aside0.mk (hbox); have Ac := zg HB hg; have Ad := zg HB hg; replace HB := zs HB hb; clear hb hbox hg; obtain ⟨_, _, _, _, _, _⟩ := zc3 Aa))
  go_ret
  exact ⟨ze, zw HB⟩
 rw [if_neg c3] at H
 have Af := decide_eq_false c3
 clear c3
 by_cases c6 : (wrap64 ((wrap64 (a1 - (a0_0.size : Int))) - (a0_1.size : Int))) < 0
 ·rw [if_pos c6] at H
  have Ae := decide_eq_true c6
  clear c6
  obtain rfl := Option.some.inj H
  go_enter Try.func74, Try.ntmps74
  go_wp2_with (first | ((with_reducible refine gate_dst (N := 2) rfl ?_); refine zx (N := 2) (cs := #[.string a0_0, .string a0_1, .int .i64 a0_2]) (t := 94) ?_; intro Ab hg w7 hbox hb; have Aa := Aside0.mk (hbox); have Ac := zg HB hg; have Ad := zg HB hg; replace HB := zs HB hb; clear hb hbox hg; obtain ⟨_, _, _, _, _, _⟩ := zc3 Aa))
  go_ret
  exact ⟨ze, zw HB⟩
 rw [if_neg c6] at H
 have Ae := decide_eq_false c6
 clear c6
 obtain rfl := Option.some.inj H
 go_enter Try.func74, Try.ntmps74
 go_wp2_with (first | ((with_reducible refine gate_dst (N := 2) rfl ?_); refine zx (N := 2) (cs := #[.string a0_0, .string a0_1, .int .i64 a0_2]) (t := 94) ?_; intro Ab hg w9 hbox hb; have Aa := Aside0.mk (hbox); have Ac := zg HB hg; have Ad := zg HB hg; replace HB := zs HB hb; clear hb hbox hg; obtain ⟨_, _, _, _, _, _⟩ := zc3 Aa))
 go_ret
 exact ⟨ze, zw HB⟩

/-! ### laws_szFileS: function 47 -/
def laws_szFileS.l0 : Nat → List (S94) → Int → Int → Option (Int)
 | 0, _, _, _ => none
 | k + 1, x0, x1, x5 => if x5 < (x0.length : Int) then (if 0 ≤ x5 then ((laws_szFile.f ((rd_T94 x0 x5).f0) ((rd_T94 x0 x5).f1) ((rd_T94 x0 x5).f2) x1).bind fun t103 => (if t103 < 0 then (some (-1)) else (laws_szFileS.l0 k x0 t103 (wrap64 (x5 + 1))))) else (none)) else (some x1)
def laws_szFileS.f (k : Nat) (l0 : List (S94)) (a1 : Int) : Option (Int) := if (wrap64 (a1 - (l0.length : Int))) < 0 then (some (-1)) else (laws_szFileS.l0 k l0 (wrap64 (a1 - (l0.length : Int))) 0)
theorem laws_szFileS.mono_l : ∀ k, (∀ y0 y1 y2, LeO (laws_szFileS.l0 k y0 y1 y2) (laws_szFileS.l0 (k + 1) y0 y1 y2))
 | 0 => fun _ _ _ r h => by simp [laws_szFileS.l0] at h
 | k + 1 => by
  have ih0 := laws_szFileS.mono_l k
  intro y0 y1 y2
  unfold laws_szFileS.l0
  repeat' first
  | (with_reducible exact ih0 _ _ _)
  | (with_reducible exact LeO.refl _)
  | (with_reducible exact LeO.none _)
  | (with_reducible refine LeO.ite ?_ ?_)
  | (with_reducible refine LeO.bind ?_ (fun _ => ?_))
  | exact ih0 _ _ _
  | exact LeO.none _
  | refine LeO.ite ?_ ?_
  | refine LeO.bind ?_ (fun _ => ?_)
theorem laws_szFileS.mono : ∀ a0 a1 k, LeO (laws_szFileS.f k a0 a1) (laws_szFileS.f (k + 1) a0 a1) := by
 intro a0 a1 k
 have ih0 := laws_szFileS.mono_l k
 unfold laws_szFileS.f
 repeat' first
   | (with_reducible exact ih0 _ _ _)
   | (with_reducible exact LeO.refl _)
   | (with_reducible exact LeO.none _)
   | (with_reducible refine LeO.ite ?_ ?_)
   | (with_reducible refine LeO.bind ?_ (fun _ => ?_))
   | exact ih0 _ _ _
   | exact LeO.none _
   | refine LeO.ite ?_ ?_
   | refine LeO.bind ?_ (fun _ => ?_)
set_option maxHeartbeats 8000000 in
set_option maxRecDepth 100000 in
theorem laws_szFileS.calls (k : Nat) (A0 : Option Addr) (c0 : Nat) (l0 : List (S94)) (a1 : Int) (r : Int) (w : World) (hr0 : Kd.C k94 w A0 l0.length l0) (hc0 : l0.length ≤ c0) (h : laws_szFileS.f k l0 a1 = some r) :
  Calls Try.prog 47 #[.slice A0 l0.length c0, .int .i64 a1] w fun e w' => e = .returned (.int .i64 r) ∧ Below w.heap.size w w' := by
 have hu94 := Try.underlying94
 have HR0 := Aside0.mk hr0
 have HC0 := Aside0.mk hc0
 clear hr0 hc0
 have HB := Aside0.mk (Below.refl w.heap.size w)
 have H : (if (wrap64 (a1 - (l0.length : Int))) < 0 then (some (-1)) else (laws_szFileS.l0 k l0 (wrap64 (a1 - (l0.length : Int))) 0)) = some r := h
 clear h
 by_cases c3 : (wrap64 (a1 - (l0.length : Int))) < 0
 ·rw [if_pos c3] at H
  have Aj := decide_eq_true c3
  clear c3
  obtain rfl := Option.some.inj H
  go_enter Try.func47, Try.ntmps47
  go_wp2
  go_ret
  exact ⟨ze, zw HB⟩
 rw [if_neg c3] at H
 have Aj := decide_eq_false c3
 clear c3
 have H' := Aside0.mk H
 clear H
 go_enter Try.func47, Try.ntmps47
 go_wp2
 go_loopg [1, 5] k (fun kq v1 v5 w' => ∃ (Ae : Int) (Aa : Int), v1 = .int .i64 Ae ∧ v5 = .int .i64 Aa ∧ Aside0 (laws_szFileS.l0 kq l0 Ae Aa = some r) ∧ Aside0 (kq ≤ k) ∧ Aside0 (Below w.heap.size w w'))
 case atStart => exact ⟨(wrap64 (a1 - (l0.length : Int))), (0), zf, zf, H', ⟨Nat.le_refl _⟩, ⟨zw HB⟩⟩
 case round =>
  clear H'
  try clear p2
  try clear c3
  try clear Aj
  obtain ⟨Ae, Aa, rfl, rfl, HA, Ao, HB⟩ := hrel
  cases gk with
  | zero => exact absurd HA.out (by simp [laws_szFileS.l0])
  | succ k1 =>
   have H := HA.out
   clear HA
   simp only [laws_szFileS.l0] at H
   by_cases c4 : Aa < (l0.length : Int)
   ·rw [if_pos c4] at H
    have Am := decide_eq_true c4
    clear c4
    by_cases c5 : 0 ≤ Aa
    ·rw [if_pos c5] at H
     have c5b0 := decide_eq_true c5
     clear c5
     replace H := Option.bind_eq_some_iff.mp H
     obtain ⟨Ah, Ap, H⟩ := H
     have A6 := Aside0.mk Ap
     clear Ap
     by_cases c7 : Ah < 0
     ·rw [if_pos c7] at H
      have Al := decide_eq_true c7
      clear c7
      obtain rfl := Option.some.inj H
      have Ag : 0 ≤ (Aa : Int) := of_decide_eq_true za
      have Af : Aa < (l0.length : Int) := of_decide_eq_true za
      obtain ⟨Ak, Ai, Ad, Ac, Ab⟩ := at_T94 HR0.out Aa Ag Af
      cases Ai
      replace Ad := zU HB.out Ad
      replace Ac := zU HB.out Ac
      replace Ab := zU HB.out Ab
      replace Ag := eq_true Ag
      replace Af := eq_true Af
      go_wp2_with (first | ((with_reducible refine gate_callee (f := 74) rfl ?_); refine zG (some 23) Try.func74 #[.agg #[.string ((rd_T94 l0 Aa).f0), .string ((rd_T94 l0 Aa).f1), .int .i64 ((rd_T94 l0 Aa).f2)], .int .i64 Ae] ?_; (with_reducible refine (laws_szFile.calls ((rd_T94 l0 Aa).f0) ((rd_T94 l0 Aa).f1) ((rd_T94 l0 Aa).f2) Ae Ah _ A6.out).mono ?_); rintro e w8 ⟨rfl, hb⟩; refine ⟨_, rfl, ?_⟩; replace HB := zs HB hb; clear hb))
      go_ret
      exact ⟨ze, zw HB⟩
     rw [if_neg c7] at H
     have Al := decide_eq_false c7
     clear c7
     have H' := Aside0.mk H
     clear H
     have Ag : 0 ≤ (Aa : Int) := of_decide_eq_true za
     have Af : Aa < (l0.length : Int) := of_decide_eq_true za
     obtain ⟨Ak, Ai, Ad, Ac, Ab⟩ := at_T94 HR0.out Aa Ag Af
     cases Ai
     replace Ad := zU HB.out Ad
     replace Ac := zU HB.out Ac
     replace Ab := zU HB.out Ab
     replace Ag := eq_true Ag
     replace Af := eq_true Af
     go_wp2_with (first | ((with_reducible refine gate_callee (f := 74) rfl ?_); refine zG (some 23) Try.func74 #[.agg #[.string ((rd_T94 l0 Aa).f0), .string ((rd_T94 l0 Aa).f1), .int .i64 ((rd_T94 l0 Aa).f2)], .int .i64 Ae] ?_; (with_reducible refine (laws_szFile.calls ((rd_T94 l0 Aa).f0) ((rd_T94 l0 Aa).f1) ((rd_T94 l0 Aa).f2) Ae Ah _ A6.out).mono ?_); rintro e w9 ⟨rfl, hb⟩; refine ⟨_, rfl, ?_⟩; replace HB := zs HB hb; clear hb))
     go_roundg k1
     case measure => have := Ao.out; omega
     case rel => exact ⟨(Ah), (wrap64 (Aa + 1)), zf, zf, H', ⟨by have := Ao.out; omega⟩, ⟨zw HB⟩⟩
    rw [if_neg c5] at H
    exact absurd H (by simp)
   rw [if_neg c4] at H
   have Am := decide_eq_false c4
   clear c4
   obtain rfl := Option.some.inj H
   go_wp2
   go_ret
   exact ⟨ze, zw HB⟩

/-! ### laws_szDisk: function 12 -/
def laws_szDisk.f (k : Nat) (l0_0 : List (S94)) (a1 : Int) : Option (Int) := (laws_szFileS.f k l0_0 a1).bind fun t105 => (if t105 < 0 then (some (-1)) else (some t105))
theorem laws_szDisk.mono : ∀ a0 a1 k, LeO (laws_szDisk.f k a0 a1) (laws_szDisk.f (k + 1) a0 a1) := by
 intro a0 a1 k
 unfold laws_szDisk.f
 repeat' first
   | (with_reducible exact laws_szFileS.mono _ _ _)
   | (with_reducible exact LeO.refl _)
   | (with_reducible exact LeO.none _)
   | (with_reducible refine LeO.ite ?_ ?_)
   | (with_reducible refine LeO.bind ?_ (fun _ => ?_))
   | exact laws_szFileS.mono _ _ _
   | exact LeO.none _
   | refine LeO.ite ?_ ?_
   | refine LeO.bind ?_ (fun _ => ?_)
set_option maxHeartbeats 8000000 in
set_option maxRecDepth 100000 in
theorem laws_szDisk.calls (k : Nat) (A0_0 : Option Addr) (c0_0 : Nat) (l0_0 : List (S94)) (a1 : Int) (r : Int) (w : World) (hr0_0 : Kd.C k94 w A0_0 l0_0.length l0_0) (hc0_0 : l0_0.length ≤ c0_0) (h : laws_szDisk.f k l0_0 a1 = some r) :
  Calls Try.prog 12 #[.agg #[.slice A0_0 l0_0.length c0_0], .int .i64 a1] w fun e w' => e = .returned (.int .i64 r) ∧ Below w.heap.size w w' := by
 have hu24 := Try.underlying24
 have HR0_0 := Aside0.mk hr0_0
 have Ac := Aside0.mk hc0_0
 clear hr0_0 hc0_0
 have HB := Aside0.mk (Below.refl w.heap.size w)
 have H : ((laws_szFileS.f k l0_0 a1).bind fun Ab => (if Ab < 0 then (some (-1)) else (some Ab))) = some r := h
 clear h
 replace H := Option.bind_eq_some_iff.mp H
 obtain ⟨Ab, Ah, H⟩ := H
 have A3 := Aside0.mk Ah
 clear Ah
 by_cases c4 : Ab < 0
 ·rw [if_pos c4] at H
  have Ag := decide_eq_true c4
  clear c4
  obtain rfl := Option.some.inj H
  go_enter Try.func12, Try.ntmps12
  go_wp2_with (first | ((with_reducible refine gate_dst (N := 2) rfl ?_); refine zx (N := 2) (cs := #[.slice A0_0 l0_0.length c0_0]) (t := 24) ?_; intro Ad hg w5 hbox hb; have Aa := Aside0.mk (hbox); have Ae := zg HB hg; have Af := zg HB hg; replace HB := zs HB hb; clear hb hbox hg; obtain ⟨_, _⟩ := zc1 Aa) | ((with_reducible refine gate_callee (f := 47) rfl ?_); refine zG (some 8) Try.func47 #[.slice A0_0 l0_0.length c0_0, .int .i64 a1] ?_; (with_reducible refine (laws_szFileS.calls k _ _ l0_0 a1 Ab _ ?side1 ?side2 A3.out).mono ?_); (case side1 => exact zI (Kd.C_below HR0_0.out HB.out)); (case side2 => exact Ac.out); rintro e w7 ⟨rfl, hb⟩; refine ⟨_, rfl, ?_⟩; replace Aa := zb Aa hb; replace HB := zs HB hb; clear hb))
  go_ret
  exact ⟨ze, zw HB⟩
 rw [if_neg c4] at H
 have Ag := decide_eq_false c4
 clear c4
 obtain rfl := Option.some.inj H
 go_enter Try.func12, Try.ntmps12
 go_wp2_with (first | ((with_reducible refine gate_dst (N := 2) rfl ?_); refine zx (N := 2) (cs := #[.slice A0_0 l0_0.length c0_0]) (t := 24) ?_; intro Ad hg w8 hbox hb; have Aa := Aside0.mk (hbox); have Ae := zg HB hg; have Af := zg HB hg; replace HB := zs HB hb; clear hb hbox hg; obtain ⟨_, _⟩ := zc1 Aa) | ((with_reducible refine gate_callee (f := 47) rfl ?_); refine zG (some 8) Try.func47 #[.slice A0_0 l0_0.length c0_0, .int .i64 a1] ?_; (with_reducible refine (laws_szFileS.calls k _ _ l0_0 a1 Ab _ ?side1 ?side2 A3.out).mono ?_); (case side1 => exact zI (Kd.C_below HR0_0.out HB.out)); (case side2 => exact Ac.out); rintro e w10 ⟨rfl, hb⟩; refine ⟨_, rfl, ?_⟩; replace Aa := zb Aa hb; replace HB := zs HB hb; clear hb))
 go_ret
 exact ⟨ze, zw HB⟩

/-! ### laws_toFile: function 75 -/
def laws_toFile.f (a0_0 : ByteArray) (a0_1 : ByteArray) (a0_2 : Int) : Option (ByteArray × ByteArray × Int) := some (a0_0, a0_1, a0_2)
set_option maxHeartbeats 8000000 in
set_option maxRecDepth 100000 in
theorem laws_toFile.calls (a0_0 : ByteArray) (a0_1 : ByteArray) (a0_2 : Int) (r1 : ByteArray) (r2 : ByteArray) (r3 : Int) (w : World) (h : laws_toFile.f a0_0 a0_1 a0_2 = some (r1, r2, r3)) :
  Calls Try.prog 75 #[.agg #[.string a0_0, .string a0_1, .int .i64 a0_2]] w fun e w' => e = .returned (.agg #[.string r1, .string r2, .int .i64 r3]) ∧ Below w.heap.size w w' := by
 have hu94 := Try.underlying94
 have hu45 := Try.underlying45
 have HB := Aside0.mk (Below.refl w.heap.size w)
 have H : (some (a0_0, a0_1, a0_2)) = some (r1, r2, r3) := h
 clear h
 simp only [Option.some.injEq, Prod.mk.injEq] at H
 obtain ⟨rfl, rfl, rfl⟩ := H
 go_enter Try.func75, Try.ntmps75
 go_wp2_with (first | ((with_reducible refine gate_dst (N := 1) rfl ?_); refine zx (N := 1) (cs := #[.string a0_0, .string a0_1, .int .i64 a0_2]) (t := 94) ?_; intro gb106 hg w2 hbox hb; have Aa := Aside0.mk (hbox); have GW106 := zg HB hg; have GE106 := zg HB hg; replace HB := zs HB hb; clear hb hbox hg) | ((with_reducible refine gate_dst (N := 2) rfl ?_); refine zx (N := 2) (cs := #[.string (⟨#[]⟩ : ByteArray), .string (⟨#[]⟩ : ByteArray), .int .i64 0]) (t := 45) ?_; intro Ai hg w3 hbox hb; have Ab := Aside0.mk (hbox); have GW107 := zg HB hg; have GE107 := zg HB hg; replace HB := zs HB hb; have Ah := zl Aa hg; have Af := zr Aa hg; replace Aa := zb Aa hb; clear hb hbox hg) | ((with_reducible refine gate_dst (N := 3) rfl ?_); refine zx (N := 3) (cs := #[.string (⟨#[]⟩ : ByteArray), .string (⟨#[]⟩ : ByteArray), .int .i64 0]) (t := 45) ?_; intro gb108 hg w4 hbox hb; have Aj := Aside0.mk (hbox); have GW108 := zg HB hg; have GE108 := zg HB hg; replace HB := zs HB hb; have Ag := zl Aa hg; have Ad := zr Aa hg; replace Aa := zb Aa hb; have Ae := zl Ab hg; have Ac := zr Ab hg; replace Ab := zb Ab hb; clear hb hbox hg; have hnb5 := Ah.out; have hnc5 := Af.out; have hnb6 := Ag.out; have hnc6 := Ad.out; obtain ⟨_, _, _, _, _, _⟩ := zc3 Aa; have hnb8 := Ac.out; have hnc8 := Ae.out; obtain ⟨_, _, _, _, _, _⟩ := zc3 Aj; obtain ⟨_, _, _, _, _, _⟩ := zc3 Ab))
 refine bodyPost_ret (results_cell_row rfl _ _ Ai 45 #[.string a0_0, .string a0_1, .int .i64 a0_2] (0, 0) _ rfl (zj Ab) Try.underlying45 rfl (by kernel_rfl)) rfl ?_
 exact ⟨ze, zw HB⟩

/-! ### laws_toFileS: function 50 -/
def laws_toFileS.l0 : Nat → List (S94) → List (S45) → Int → Option ((List (S45)))
 | 0, _, _, _ => none
 | k + 1, x0, x3, x4 => if x4 < (x0.length : Int) then (if 0 ≤ x4 then ((laws_toFile.f ((rd_T94 x0 x4).f0) ((rd_T94 x0 x4).f1) ((rd_T94 x0 x4).f2)).bind fun bt113 => (if x4 < (x3.length : Int) then (laws_toFileS.l0 k x0 (x3.set (x4 : Int).toNat (⟨bt113.1, bt113.2.1, bt113.2.2⟩ : S45)) (wrap64 (x4 + 1))) else (none))) else (none)) else (some x3)
def laws_toFileS.f (k : Nat) (l0 : List (S94)) : Option ((List (S45))) := if 0 ≤ (l0.length : Int) then (if ((l0.length : Int) : Int).toNat ≤ 7036874417766 then (laws_toFileS.l0 k l0 (List.replicate ((l0.length : Int) : Int).toNat z45) 0) else (none)) else (none)
theorem laws_toFileS.mono_l : ∀ k, (∀ y0 y1 y2, LeO (laws_toFileS.l0 k y0 y1 y2) (laws_toFileS.l0 (k + 1) y0 y1 y2))
 | 0 => fun _ _ _ r h => by simp [laws_toFileS.l0] at h
 | k + 1 => by
  have ih0 := laws_toFileS.mono_l k
  intro y0 y1 y2
  unfold laws_toFileS.l0
  repeat' first
  | (with_reducible exact ih0 _ _ _)
  | (with_reducible exact LeO.refl _)
  | (with_reducible exact LeO.none _)
  | (with_reducible refine LeO.ite ?_ ?_)
  | (with_reducible refine LeO.bind ?_ (fun _ => ?_))
  | exact ih0 _ _ _
  | exact LeO.none _
  | refine LeO.ite ?_ ?_
  | refine LeO.bind ?_ (fun _ => ?_)
theorem laws_toFileS.mono : ∀ a0 k, LeO (laws_toFileS.f k a0) (laws_toFileS.f (k + 1) a0) := by
 intro a0 k
 have ih0 := laws_toFileS.mono_l k
 unfold laws_toFileS.f
 repeat' first
   | (with_reducible exact ih0 _ _ _)
   | (with_reducible exact LeO.refl _)
   | (with_reducible exact LeO.none _)
   | (with_reducible refine LeO.ite ?_ ?_)
   | (with_reducible refine LeO.bind ?_ (fun _ => ?_))
   | exact ih0 _ _ _
   | exact LeO.none _
   | refine LeO.ite ?_ ?_
   | refine LeO.bind ?_ (fun _ => ?_)
set_option maxHeartbeats 8000000 in
set_option maxRecDepth 100000 in
theorem laws_toFileS.calls (k : Nat) (A0 : Option Addr) (c0 : Nat) (l0 : List (S94)) (r : List (S45)) (w : World) (hr0 : Kd.C k94 w A0 l0.length l0) (hc0 : l0.length ≤ c0) (h : laws_toFileS.f k l0 = some r) :
  Calls Try.prog 50 #[.slice A0 l0.length c0] w fun e w' => ∃ v0_ : Value, e = .returned (v0_) ∧ Kd.R k45 45 w' w.heap.size (fun _ => True) v0_ r ∧ Below w.heap.size w w' := by
 have hu94 := Try.underlying94
 have hu45 := Try.underlying45
 have HR0 := Aside0.mk hr0
 have HC0 := Aside0.mk hc0
 clear hr0 hc0
 have HB := Aside0.mk (Below.refl w.heap.size w)
 have H : (if 0 ≤ (l0.length : Int) then (if ((l0.length : Int) : Int).toNat ≤ 7036874417766 then (laws_toFileS.l0 k l0 (List.replicate ((l0.length : Int) : Int).toNat z45) 0) else (none)) else (none)) = some r := h
 clear h
 by_cases c2 : 0 ≤ (l0.length : Int)
 ·rw [if_pos c2] at H
  have Bt := eq_true c2
  have Bs := decide_eq_true c2
  clear c2
  by_cases c3 : ((l0.length : Int) : Int).toNat ≤ 7036874417766
  ·rw [if_pos c3] at H
   have Br := eq_true c3
   have Bq := decide_eq_true c3
   clear c3
   obtain ⟨Bb, Af⟩ : ∃ y_ : List (S45), y_ = (List.replicate ((l0.length : Int) : Int).toNat z45) := ⟨_, rfl⟩
   replace H : (laws_toFileS.l0 k l0 Bb 0) = some r := by first | (rw [Af]; with_reducible exact H) | (have H2_ := (Option.bind_some _ _).symm.trans H; rw [Af]; with_reducible exact H2_) | (have H2_ := (Option.bind_some _ _).symm.trans H; with_reducible exact H2_) | with_reducible exact H | (rw [Af]; exact H) | exact H
   have Ny109 := Aside0.mk Af
   clear Af
   have H' := Aside0.mk H
   clear H
   go_enter Try.func50, Try.ntmps50
   go_wp2_with (first | ((with_reducible refine gate_dst (N := 7) rfl ?_); refine Kd.R_make k45 _ 45 rfl (N := 7) rfl 27 _ _ rfl (l0.length : Int) rfl rfl Try.underlying27 (.agg #[(.string ⟨#[]⟩), (.string ⟨#[]⟩), (.int .i64 0)]) 40 info45 rfl (by decide) (by omega) z45 (ok := fun _ => True) (okp := fun _ => True) (k45_mkM _ _ _ z45 ) (fun _ hk => hk) trivial (of_decide_eq_true za) (Nat.le_trans (Nat.mul_le_mul_right _ (of_decide_eq_true za : (l0.length : Int).toNat ≤ 7036874417766)) (by omega)) (Below.refl _ _) (Nat.le_refl _) ?_; intro Bl w4 Bc hb hg_ hnew_; clear hg_ hnew_; (first | rw [← Ny109.out] at Bc | (simp only [Int.reduceToNat] at Bc; rw [← Ny109.out] at Bc)); have Bj := Aside0.mk (Kd.R_lower Bc (below_size (zw HB))); replace HB := zs HB hb; clear hb Bc))
   go_loopg [4] k (fun kq v4 w' => ∃ (Ab : List (S45)) (Aa : Int), v4 = .int .i64 Aa ∧ Aside0 (laws_toFileS.l0 kq l0 Ab Aa = some r) ∧ Aside0 (kq ≤ k) ∧ Aside0 (Kd.R k45 45 w' w.heap.size (fun _ => True) Bl Ab) ∧ Aside0 (Below w.heap.size w w'))
   case atStart => exact ⟨(Bb), (0), zf, H', ⟨Nat.le_refl _⟩, ⟨zo Bj.out⟩, ⟨zw HB⟩⟩
   case round =>
    clear H'
    try clear c2
    try clear Bt
    try clear Bs
    try clear p2
    try clear c3
    try clear Br
    try clear Bq
    try clear c5
    obtain ⟨Ab, Aa, rfl, HA, Bu, Ad, HB⟩ := hrel
    cases gk with
    | zero => exact absurd HA.out (by simp [laws_toFileS.l0])
    | succ k1 =>
     have H := HA.out
     clear HA
     simp only [laws_toFileS.l0] at H
     by_cases c6 : Aa < (l0.length : Int)
     ·rw [if_pos c6] at H
      have Bp := decide_eq_true c6
      clear c6
      by_cases c7 : 0 ≤ Aa
      ·rw [if_pos c7] at H
       have c7b0 := decide_eq_true c7
       clear c7
       replace H := Option.bind_eq_some_iff.mp H
       obtain ⟨⟨Aj, Ai, Ah⟩, Bv, H⟩ := H
       replace H : (if Aa < (Ab.length : Int) then (laws_toFileS.l0 k1 l0 (Ab.set (Aa : Int).toNat (⟨Aj, Ai, Ah⟩ : S45)) (wrap64 (Aa + 1))) else (none)) = some r := H
       have A8 := Aside0.mk Bv
       clear Bv
       by_cases c9 : Aa < (Ab.length : Int)
       ·rw [if_pos c9] at H
        have c9b0 := decide_eq_true c9
        clear c9
        obtain ⟨Au, Ae⟩ : ∃ y_ : List (S45), y_ = (Ab.set (Aa : Int).toNat (⟨Aj, Ai, Ah⟩ : S45)) := ⟨_, rfl⟩
        replace H : (laws_toFileS.l0 k1 l0 Au (wrap64 (Aa + 1))) = some r := by first | (rw [Ae]; with_reducible exact H) | (have H2_ := (Option.bind_some _ _).symm.trans H; rw [Ae]; with_reducible exact H2_) | (have H2_ := (Option.bind_some _ _).symm.trans H; with_reducible exact H2_) | with_reducible exact H | (rw [Ae]; exact H) | exact H
        have Ny116 := Aside0.mk Ae
        clear Ae
        have H' := Aside0.mk H
        clear H
        have Ax : 0 ≤ (Aa : Int) := of_decide_eq_true za
        have Aw : Aa < (l0.length : Int) := of_decide_eq_true za
        obtain ⟨ad112, Bo, Am, Al, Ak⟩ := at_T94 HR0.out Aa Ax Aw
        cases Bo
        replace Am := zU HB.out Am
        replace Al := zU HB.out Al
        replace Ak := zU HB.out Ak
        replace Ax := eq_true Ax
        replace Aw := eq_true Aw
        go_wp2_with (first | ((with_reducible refine gate_callee (f := 75) rfl ?_); refine zG (some 20) Try.func75 #[.agg #[.string ((rd_T94 l0 Aa).f0), .string ((rd_T94 l0 Aa).f1), .int .i64 ((rd_T94 l0 Aa).f2)]] ?_; (with_reducible refine (laws_toFile.calls ((rd_T94 l0 Aa).f0) ((rd_T94 l0 Aa).f1) ((rd_T94 l0 Aa).f2) Aj Ai Ah _ A8.out).mono ?_); rintro e Ar ⟨rfl, hb⟩; refine ⟨_, rfl, ?_⟩; replace Ad := zy Ad hb; replace HB := zs HB hb; clear hb; have Bn : 0 ≤ (Aa : Int) := of_decide_eq_true za; have Bm : (Aa : Int) < ((Ab.length : Int) : Int) := of_decide_eq_true za; obtain ⟨Ac, Bi, Bh, Bg, gl10, cl10, HG10⟩ := Kd.R_form Ad.out (by omega); (first | cases Bh | (injection Bh with ea_ en_ ec_; (first | subst ea_ | (injection ea_ with ea_; subst ea_)); subst ec_; clear en_)); have GB10 := Aside0.mk Bg; have GG10 := Aside0.mk HG10; clear Bg gl10 HG10; obtain ⟨ce10, Bd, Bf, Aq, Ap⟩ := Kd.R_elem Ad.out z45 (Aa : Int) Bn Bm; obtain rfl := k45_openM Bf; have hx10_0 : Ar.cell? ⟨Ac, (Aa : Int).toNat * 3, none⟩ = some (.string ((rd_T45 Ab Aa).f0)) := Aq 0 _ rfl; have hx10_1 : Ar.cell? ⟨Ac, (Aa : Int).toNat * 3 + 1, none⟩ = some (.string ((rd_T45 Ab Aa).f1)) := Aq 1 _ rfl; have hx10_2 : Ar.cell? ⟨Ac, (Aa : Int).toNat * 3 + 2, none⟩ = some (.int .i64 ((rd_T45 Ab Aa).f2)) := Aq 2 _ rfl; have hf10_0 : Ar.frozen? ⟨Ac, (Aa : Int).toNat * 3, none⟩ = false := Ap 0; have hf10_1 : Ar.frozen? ⟨Ac, (Aa : Int).toNat * 3 + 1, none⟩ = false := Ap 1; have hf10_2 : Ar.frozen? ⟨Ac, (Aa : Int).toNat * 3 + 2, none⟩ = false := Ap 2; clear Bd Aq Ap Bf; replace Bn := eq_true Bn; replace Bm := eq_true Bm; have HX12 := Aside0.mk (show Kd.R k45 45 Ar w.heap.size (fun _ => True) (.slice (some ⟨Ac, 0, none⟩) Ab.length Bi) Ab from (zo Ad.out)); obtain ⟨ce12, As, Be, Ag, Ao⟩ := Kd.R_elem HX12.out z45 (Aa : Int) (of_decide_eq_true za) (by have h_ : (Aa : Int) < ((Ab.length : Int) : Int) := of_decide_eq_true za; first | exact h_ | (have e_ := (Kd.R_reads' Ad.out).1; omega) | simpa using h_); obtain rfl := k45_openM Be; have HP12 := Kd.R_seg HX12.out (Aa : Int) (of_decide_eq_true za) (by have h_ : (Aa : Int) < ((Ab.length : Int) : Int) := of_decide_eq_true za; first | exact h_ | (have e_ := (Kd.R_reads' Ad.out).1; omega) | simpa using h_) (seg := [.string Aj, .string Ai, .int .i64 Ah]) (j := 0) As Ag (show 3 ≤ 3 from by decide) (x' := (⟨Aj, Ai, Ah⟩ : S45)) (k45_mkM _ _ _ (⟨Aj, Ai, Ah⟩ : S45) ) (fun _ hk => hk); have Ba := Ag 0 _ rfl; (try simp only [show (k45).sz = 3 from rfl, Nat.mul_one, Nat.add_zero] at Ba); have hf12_0 := Ao 0; (try simp only [show (k45).sz = 3 from rfl, Nat.mul_one, Nat.add_zero] at hf12_0); have Az := Ag 1 _ rfl; (try simp only [show (k45).sz = 3 from rfl, Nat.mul_one, Nat.add_zero] at Az); have hf12_1 := Ao 1; (try simp only [show (k45).sz = 3 from rfl, Nat.mul_one, Nat.add_zero] at hf12_1); have Ay := Ag 2 _ rfl; (try simp only [show (k45).sz = 3 from rfl, Nat.mul_one, Nat.add_zero] at Ay); have hf12_2 := Ao 2; (try simp only [show (k45).sz = 3 from rfl, Nat.mul_one, Nat.add_zero] at hf12_2); clear As Ag Ao Be) | ((with_reducible refine gate_store (t := 45) (p := 21) rfl ?_); refine store_event (t := 45) (p := 21) (v := ?vo_w13) (w1 := (((Ar.setCell ⟨Ac, (Aa : Int).toNat * 3, none⟩ (.string Aj)).setCell ⟨Ac, (Aa : Int).toNat * 3 + 1, none⟩ (.string Ai)).setCell ⟨Ac, (Aa : Int).toNat * 3 + 2, none⟩ (.int .i64 Ah))) ?hg ?ho ?hn ?hr ?_; (case ho => rfl); (case hg => rfl); (case hn => rfl); (case hr => first | (go_simp; done) | (go_simp; rfl)); intro Bk hw; have hg : Ar.grownBy Bk (some Ac) := (by rw [hw]; exact HP12.2); have hp_ : Kd.R k45 45 Bk w.heap.size (fun _ => True) (.slice (some ⟨Ac, 0, none⟩) Ab.length Bi) Au := (by rw [hw, Ny116.out]; exact HP12.1); clear HP12; replace Ad := Aside0.mk (hp_); replace HB := Aside0.mk ((by rw [hw]; exact below_set (below_set (below_set (HB.out) GB10.out) GB10.out) GB10.out : Below w.heap.size w Bk)); clear hg hw hp_))
        go_roundg k1
        case measure => have := Bu.out; omega
        case rel => exact ⟨(Au), (wrap64 (Aa + 1)), zf, H', ⟨by have := Bu.out; omega⟩, ⟨zo Ad.out⟩, ⟨zw HB⟩⟩
       rw [if_neg c9] at H
       exact absurd H (by simp)
      rw [if_neg c7] at H
      exact absurd H (by simp)
     rw [if_neg c6] at H
     have Bp := decide_eq_false c6
     clear c6
     obtain rfl := Option.some.inj H
     go_wp2
     go_ret
     exact ⟨_, ze, zo Ad.out, zw HB⟩
  rw [if_neg c3] at H
  exact absurd H (by simp)
 rw [if_neg c2] at H
 exact absurd H (by simp)

/-! ### laws_toDisk: function 14 -/
def laws_toDisk.f (k : Nat) (l0_0 : List (S94)) : Option ((List (S45))) := (laws_toFileS.f k l0_0).bind fun t120 => (some t120)
theorem laws_toDisk.mono : ∀ a0 k, LeO (laws_toDisk.f k a0) (laws_toDisk.f (k + 1) a0) := by
 intro a0 k
 unfold laws_toDisk.f
 repeat' first
   | (with_reducible exact laws_toFileS.mono _ _)
   | (with_reducible exact LeO.refl _)
   | (with_reducible exact LeO.none _)
   | (with_reducible refine LeO.ite ?_ ?_)
   | (with_reducible refine LeO.bind ?_ (fun _ => ?_))
   | exact laws_toFileS.mono _ _
   | exact LeO.none _
   | refine LeO.ite ?_ ?_
   | refine LeO.bind ?_ (fun _ => ?_)
set_option maxHeartbeats 8000000 in
set_option maxRecDepth 100000 in
theorem laws_toDisk.calls (k : Nat) (A0_0 : Option Addr) (c0_0 : Nat) (l0_0 : List (S94)) (r : List (S45)) (w : World) (hr0_0 : Kd.C k94 w A0_0 l0_0.length l0_0) (hc0_0 : l0_0.length ≤ c0_0) (h : laws_toDisk.f k l0_0 = some r) :
  Calls Try.prog 14 #[.agg #[.slice A0_0 l0_0.length c0_0]] w fun e w' => ∃ v0_ : Value, e = .returned (.agg #[v0_]) ∧ Kd.R k45 45 w' w.heap.size (fun _ => True) v0_ r ∧ Below w.heap.size w w' := by
 have hu24 := Try.underlying24
 have hu29 := Try.underlying29
 have HR0_0 := Aside0.mk hr0_0
 have Aq := Aside0.mk hc0_0
 clear hr0_0 hc0_0
 have HB := Aside0.mk (Below.refl w.heap.size w)
 have H : ((laws_toFileS.f k l0_0).bind fun Ad => (some Ad)) = some r := h
 clear h
 replace H := Option.bind_eq_some_iff.mp H
 obtain ⟨Ad, Au, H⟩ := H
 have A2 := Aside0.mk Au
 clear Au
 obtain rfl := Option.some.inj H
 go_enter Try.func14, Try.ntmps14
 go_wp2_with (first | ((with_reducible refine gate_dst (N := 1) rfl ?_); refine zx (N := 1) (cs := #[.slice A0_0 l0_0.length c0_0]) (t := 24) ?_; intro gb117 hg w3 hbox hb; have Aa := Aside0.mk (hbox); have GW117 := zg HB hg; have GE117 := zg HB hg; replace HB := zs HB hb; clear hb hbox hg) | ((with_reducible refine gate_dst (N := 2) rfl ?_); refine zx (N := 2) (cs := #[.slice none 0 0]) (t := 29) ?_; intro Ak hg w4 hbox hb; have Ab := Aside0.mk (hbox); have GW118 := zg HB hg; have GE118 := zg HB hg; replace HB := zs HB hb; have Aj := zl Aa hg; have Ah := zr Aa hg; replace Aa := zb Aa hb; clear hb hbox hg) | ((with_reducible refine gate_dst (N := 3) rfl ?_); refine zx (N := 3) (cs := #[.slice none 0 0]) (t := 29) ?_; intro Ap hg w5 hbox hb; have Ac := Aside0.mk (hbox); have GW119 := zg HB hg; have GE119 := zg HB hg; replace HB := zs HB hb; have Ai := zl Aa hg; have Af := zr Aa hg; replace Aa := zb Aa hb; have Ag := zl Ab hg; have Ae := zr Ab hg; replace Ab := zb Ab hb; clear hb hbox hg; have hnb6 := Aj.out; have hnc6 := Ah.out; have hnb7 := Ai.out; have hnc7 := Af.out; obtain ⟨_, _⟩ := zc1 Aa) | ((with_reducible refine gate_callee (f := 50) rfl ?_); refine zG (some 6) Try.func50 #[.slice A0_0 l0_0.length c0_0] ?_; (with_reducible refine (laws_toFileS.calls k _ _ l0_0 Ad _ ?side1 ?side2 A2.out).mono ?_); (case side1 => exact zI (Kd.C_below HR0_0.out HB.out)); (case side2 => exact Aq.out); rintro e w9 ⟨v121, rfl, As, hb⟩; refine ⟨_, rfl, ?_⟩; have Al := Aside0.mk (Kd.R_lower As (below_size (zw HB))); replace Aa := zb Aa hb; replace Ab := zb Ab hb; replace Ac := zb Ac hb; replace HB := zs HB hb; clear As hb; obtain ⟨Ao, Am, Ar⟩ := Kd.R_slice Al.out; subst Ar; have hnb11 := Ae.out; have hnc11 := Ag.out; obtain ⟨_, _⟩ := zc1 Ac; obtain ⟨_, _⟩ := zc1 Ab))
 refine bodyPost_ret (results_cell_row rfl _ _ Ak 29 #[.slice Ao Ad.length Am] (0, 0) _ rfl (zj Ab) Try.underlying29 rfl (by kernel_rfl)) rfl ?_
 exact ⟨_, ze, zo (Kd.R_mono (Kd.R_far (p := ⟨Ak, 0, none⟩) (Kd.R_far (p := ⟨Ap, 0, none⟩) (Kd.R_types (Kd.R_types Al.out Ac.out (by decide)) Ab.out (by decide)) (fun _ hk => hk.1.2) (.slice Ao Ad.length Am)) (fun _ hk => hk.2) (.slice Ao Ad.length Am)) (fun _ hk => trivial)), zw HB⟩

/-! ### laws_eqFile: function 76 -/
def laws_eqFile.f (a0_0 : ByteArray) (a0_1 : ByteArray) (a0_2 : Int) (a1_0 : ByteArray) (a1_1 : ByteArray) (a1_2 : Int) : Option (Bool) := if a0_0.toList = a1_0.toList then (if a0_1.toList = a1_1.toList then (if a0_2 = a1_2 then (some true) else (some false)) else (some false)) else (some false)
set_option maxHeartbeats 8000000 in
set_option maxRecDepth 100000 in
theorem laws_eqFile.calls (a0_0 : ByteArray) (a0_1 : ByteArray) (a0_2 : Int) (a1_0 : ByteArray) (a1_1 : ByteArray) (a1_2 : Int) (r : Bool) (w : World) (h : laws_eqFile.f a0_0 a0_1 a0_2 a1_0 a1_1 a1_2 = some r) :
  Calls Try.prog 76 #[.agg #[.string a0_0, .string a0_1, .int .i64 a0_2], .agg #[.string a1_0, .string a1_1, .int .i64 a1_2]] w fun e w' => e = .returned (.bool r) ∧ Below w.heap.size w w' := by
 have hu45 := Try.underlying45
 have HB := Aside0.mk (Below.refl w.heap.size w)
 have H : (if a0_0.toList = a1_0.toList then (if a0_1.toList = a1_1.toList then (if a0_2 = a1_2 then (some true) else (some false)) else (some false)) else (some false)) = some r := h
 clear h
 by_cases c3 : a0_0.toList = a1_0.toList
 ·rw [if_pos c3] at H
  have Aq : (a0_0.toList == a1_0.toList) = true := beq_iff_eq.mpr c3
  have Ap : (a0_0.toList != a1_0.toList) = false := bne_eq_false_iff_eq.mpr c3
  clear c3
  by_cases c4 : a0_1.toList = a1_1.toList
  ·rw [if_pos c4] at H
   have Ao : (a0_1.toList == a1_1.toList) = true := beq_iff_eq.mpr c4
   have Am : (a0_1.toList != a1_1.toList) = false := bne_eq_false_iff_eq.mpr c4
   clear c4
   by_cases c5 : a0_2 = a1_2
   ·rw [if_pos c5] at H
    have Al : (a0_2 == a1_2) = true := beq_iff_eq.mpr c5
    have Ak : (a0_2 != a1_2) = false := bne_eq_false_iff_eq.mpr c5
    clear c5
    obtain rfl := Option.some.inj H
    go_enter Try.func76, Try.ntmps76
    go_wp2_with (first | ((with_reducible refine gate_dst (N := 2) rfl ?_); refine zx (N := 2) (cs := #[.string a0_0, .string a0_1, .int .i64 a0_2]) (t := 45) ?_; intro Af hg w6 hbox hb; have Aa := Aside0.mk (hbox); have Ah := zg HB hg; have Aj := zg HB hg; replace HB := zs HB hb; clear hb hbox hg) | ((with_reducible refine gate_dst (N := 3) rfl ?_); refine zx (N := 3) (cs := #[.string a1_0, .string a1_1, .int .i64 a1_2]) (t := 45) ?_; intro Ae hg w7 hbox hb; have Ad := Aside0.mk (hbox); have Ag := zg HB hg; have Ai := zg HB hg; replace HB := zs HB hb; have Ac := zl Aa hg; have Ab := zr Aa hg; replace Aa := zb Aa hb; clear hb hbox hg; have hnb8 := Ac.out; have hnc8 := Ab.out; obtain ⟨_, _, _, _, _, _⟩ := zc3 Aa; obtain ⟨_, _, _, _, _, _⟩ := zc3 Ad))
    go_ret
    exact ⟨ze, zw HB⟩
   rw [if_neg c5] at H
   have Al : (a0_2 == a1_2) = false := beq_eq_false_iff_ne.mpr c5
   have Ak : (a0_2 != a1_2) = true := bne_iff_ne.mpr c5
   obtain rfl := Option.some.inj H
   go_enter Try.func76, Try.ntmps76
   go_wp2_with (first | ((with_reducible refine gate_dst (N := 2) rfl ?_); refine zx (N := 2) (cs := #[.string a0_0, .string a0_1, .int .i64 a0_2]) (t := 45) ?_; intro Af hg w11 hbox hb; have Aa := Aside0.mk (hbox); have Ah := zg HB hg; have Aj := zg HB hg; replace HB := zs HB hb; clear hb hbox hg) | ((with_reducible refine gate_dst (N := 3) rfl ?_); refine zx (N := 3) (cs := #[.string a1_0, .string a1_1, .int .i64 a1_2]) (t := 45) ?_; intro Ae hg w12 hbox hb; have Ad := Aside0.mk (hbox); have Ag := zg HB hg; have Ai := zg HB hg; replace HB := zs HB hb; have Ac := zl Aa hg; have Ab := zr Aa hg; replace Aa := zb Aa hb; clear hb hbox hg; have hnb13 := Ac.out; have hnc13 := Ab.out; obtain ⟨_, _, _, _, _, _⟩ := zc3 Aa; obtain ⟨_, _, _, _, _, _⟩ := zc3 Ad))
   go_ret
   exact ⟨ze, zw HB⟩
  rw [if_neg c4] at H
  have Ao : (a0_1.toList == a1_1.toList) = false := beq_eq_false_iff_ne.mpr c4
  have Am : (a0_1.toList != a1_1.toList) = true := bne_iff_ne.mpr c4
  obtain rfl := Option.some.inj H
  go_enter Try.func76, Try.ntmps76
  go_wp2_with (first | ((with_reducible refine gate_dst (N := 2) rfl ?_); refine zx (N := 2) (cs := #[.string a0_0, .string a0_1, .int .i64 a0_2]) (t := 45) ?_; intro Af hg w16 hbox hb; have Aa := Aside0.mk (hbox); have Ah := zg HB hg; have Aj := zg HB hg; replace HB := zs HB hb; clear hb hbox hg) | ((with_reducible refine gate_dst (N := 3) rfl ?_); refine zx (N := 3) (cs := #[.string a1_0, .string a1_1, .int .i64 a1_2]) (t := 45) ?_; intro Ae hg w17 hbox hb; have Ad := Aside0.mk (hbox); have Ag := zg HB hg; have Ai := zg HB hg; replace HB := zs HB hb; have Ac := zl Aa hg; have Ab := zr Aa hg; replace Aa := zb Aa hb; clear hb hbox hg; have hnb18 := Ac.out; have hnc18 := Ab.out; obtain ⟨_, _, _, _, _, _⟩ := zc3 Aa; obtain ⟨_, _, _, _, _, _⟩ := zc3 Ad))
  go_ret
  exact ⟨ze, zw HB⟩
 rw [if_neg c3] at H
 have Aq : (a0_0.toList == a1_0.toList) = false := beq_eq_false_iff_ne.mpr c3
 have Ap : (a0_0.toList != a1_0.toList) = true := bne_iff_ne.mpr c3
 obtain rfl := Option.some.inj H
 go_enter Try.func76, Try.ntmps76
 go_wp2_with (first | ((with_reducible refine gate_dst (N := 2) rfl ?_); refine zx (N := 2) (cs := #[.string a0_0, .string a0_1, .int .i64 a0_2]) (t := 45) ?_; intro Af hg w21 hbox hb; have Aa := Aside0.mk (hbox); have Ah := zg HB hg; have Aj := zg HB hg; replace HB := zs HB hb; clear hb hbox hg) | ((with_reducible refine gate_dst (N := 3) rfl ?_); refine zx (N := 3) (cs := #[.string a1_0, .string a1_1, .int .i64 a1_2]) (t := 45) ?_; intro Ae hg w22 hbox hb; have Ad := Aside0.mk (hbox); have Ag := zg HB hg; have Ai := zg HB hg; replace HB := zs HB hb; have Ac := zl Aa hg; have Ab := zr Aa hg; replace Aa := zb Aa hb; clear hb hbox hg; have hnb23 := Ac.out; have hnc23 := Ab.out; obtain ⟨_, _, _, _, _, _⟩ := zc3 Aa; obtain ⟨_, _, _, _, _, _⟩ := zc3 Ad))
 go_ret
 exact ⟨ze, zw HB⟩

/-! ### laws_eqFileS: function 52 -/
def laws_eqFileS.l0 : Nat → List (S45) → List (S45) → Int → Option (Bool)
 | 0, _, _, _ => none
 | k + 1, x0, x1, x5 => if x5 < (x0.length : Int) then (if 0 ≤ x5 then (if x5 < (x1.length : Int) then ((laws_eqFile.f ((rd_T45 x0 x5).f0) ((rd_T45 x0 x5).f1) ((rd_T45 x0 x5).f2) ((rd_T45 x1 x5).f0) ((rd_T45 x1 x5).f1) ((rd_T45 x1 x5).f2)).bind fun t127 => (if t127 = true then (laws_eqFileS.l0 k x0 x1 (wrap64 (x5 + 1))) else (some false))) else (none)) else (none)) else (some true)
def laws_eqFileS.f (k : Nat) (l0 : List (S45)) (l1 : List (S45)) : Option (Bool) := if (l0.length : Int) = (l1.length : Int) then (laws_eqFileS.l0 k l0 l1 0) else (some false)
theorem laws_eqFileS.mono_l : ∀ k, (∀ y0 y1 y2, LeO (laws_eqFileS.l0 k y0 y1 y2) (laws_eqFileS.l0 (k + 1) y0 y1 y2))
 | 0 => fun _ _ _ r h => by simp [laws_eqFileS.l0] at h
 | k + 1 => by
  have ih0 := laws_eqFileS.mono_l k
  intro y0 y1 y2
  unfold laws_eqFileS.l0
  repeat' first
  | (with_reducible exact ih0 _ _ _)
  | (with_reducible exact LeO.refl _)
  | (with_reducible exact LeO.none _)
  | (with_reducible refine LeO.ite ?_ ?_)
  | (with_reducible refine LeO.bind ?_ (fun _ => ?_))
  | exact ih0 _ _ _
  | exact LeO.none _
  | refine LeO.ite ?_ ?_
  | refine LeO.bind ?_ (fun _ => ?_)
theorem laws_eqFileS.mono : ∀ a0 a1 k, LeO (laws_eqFileS.f k a0 a1) (laws_eqFileS.f (k + 1) a0 a1) := by
 intro a0 a1 k
 have ih0 := laws_eqFileS.mono_l k
 unfold laws_eqFileS.f
 repeat' first
   | (with_reducible exact ih0 _ _ _)
   | (with_reducible exact LeO.refl _)
   | (with_reducible exact LeO.none _)
   | (with_reducible refine LeO.ite ?_ ?_)
   | (with_reducible refine LeO.bind ?_ (fun _ => ?_))
   | exact ih0 _ _ _
   | exact LeO.none _
   | refine LeO.ite ?_ ?_
   | refine LeO.bind ?_ (fun _ => ?_)
def laws_eqFileS.T6 : Bool × List (List Nat × List Nat) := (true, [([], []), ([], []), ([0, 1], [0, 1]), ([2], [2]), ([], []), ([], []), ([4, 5], [4, 5]), ([6], [6]), ([3, 7], [3, 7]), ([8], [8])])
def laws_eqFileS.B6 : List Nat := [0, 0, 3, 7, 0, 0, 48, 112, 255, 511]
theorem laws_eqFileS.tab6 : rtab .any (opsOf Try.f52 6) = laws_eqFileS.T6 := by kernel_rfl
theorem laws_eqFileS.bits6 : waitsOk laws_eqFileS.T6.2 laws_eqFileS.B6 = true := by kernel_rfl
abbrev q1_0 := #[o_,o_,o_,o_,o_,o_,o_,o_,o_,o_]
abbrev q1_1 := #[i_,o_,o_,o_,o_,o_,o_,o_,o_,o_]
abbrev q1_2 := #[i_,i_,o_,o_,o_,o_,o_,o_,o_,o_]
abbrev q1_3 := #[i_,i_,i_,o_,o_,o_,o_,o_,o_,o_]
abbrev q1_4 := #[i_,i_,i_,o_,i_,o_,o_,o_,o_,o_]
abbrev q1_5 := #[i_,i_,i_,o_,i_,i_,o_,o_,o_,o_]
abbrev q1_6 := #[i_,i_,i_,o_,i_,i_,i_,o_,o_,o_]
abbrev q1_7 := #[i_,i_,i_,i_,i_,i_,i_,o_,o_,o_]
abbrev q1_8 := #[i_,i_,i_,i_,i_,i_,i_,i_,o_,o_]
abbrev q1_9 := #[i_,i_,i_,i_,i_,i_,i_,i_,i_,o_]
abbrev q1_10 := #[i_,i_,i_,i_,i_,i_,i_,i_,i_,i_]
set_option maxHeartbeats 8000000 in
set_option maxRecDepth 100000 in
theorem laws_eqFileS.calls (k : Nat) (A0 : Option Addr) (c0 : Nat) (l0 : List (S45)) (A1 : Option Addr) (c1 : Nat) (l1 : List (S45)) (r : Bool) (w : World) (hr0 : Kd.C k45 w A0 l0.length l0) (hc0 : l0.length ≤ c0) (hr1 : Kd.C k45 w A1 l1.length l1) (hc1 : l1.length ≤ c1) (h : laws_eqFileS.f k l0 l1 = some r) :
  Calls Try.prog 52 #[.slice A0 l0.length c0, .slice A1 l1.length c1] w fun e w' => e = .returned (.bool r) ∧ Below w.heap.size w w' := by
 have hu45 := Try.underlying45
 have HR0 := Aside0.mk hr0
 have HC0 := Aside0.mk hc0
 clear hr0 hc0
 have HR1 := Aside0.mk hr1
 have HC1 := Aside0.mk hc1
 clear hr1 hc1
 have HB := Aside0.mk (Below.refl w.heap.size w)
 have H : (if (l0.length : Int) = (l1.length : Int) then (laws_eqFileS.l0 k l0 l1 0) else (some false)) = some r := h
 clear h
 by_cases c3 : (l0.length : Int) = (l1.length : Int)
 ·rw [if_pos c3] at H
  have Ba : ((l0.length : Int) == (l1.length : Int)) = true := beq_iff_eq.mpr c3
  have Az : ((l0.length : Int) != (l1.length : Int)) = false := bne_eq_false_iff_eq.mpr c3
  have Ay : (l0.length == l1.length) = true := by first | simpa using c3 | (simp at c3 ⊢; omega)
  clear c3
  have H' := Aside0.mk H
  clear H
  go_enter Try.func52, Try.ntmps52
  go_wp2
  go_loopg [5] k (fun kq v5 w' => ∃ (Aa : Int), v5 = .int .i64 Aa ∧ Aside0 (laws_eqFileS.l0 kq l0 l1 Aa = some r) ∧ Aside0 (kq ≤ k) ∧ Aside0 (Below w.heap.size w w'))
  case atStart => exact ⟨(0), zf, H', ⟨Nat.le_refl _⟩, ⟨zw HB⟩⟩
  case round =>
   clear H'
   try clear c1
   try clear p2
   try clear c3
   try clear Ba
   try clear Az
   try clear Ay
   obtain ⟨Aa, rfl, HA, Bd, HB⟩ := hrel
   cases gk with
   | zero => exact absurd HA.out (by simp [laws_eqFileS.l0])
   | succ k1 =>
    have H := HA.out
    clear HA
    simp only [laws_eqFileS.l0] at H
    by_cases c4 : Aa < (l0.length : Int)
    ·rw [if_pos c4] at H
     have Bc := decide_eq_true c4
     clear c4
     by_cases c5 : 0 ≤ Aa
     ·rw [if_pos c5] at H
      have c5b0 := decide_eq_true c5
      clear c5
      by_cases c6 : Aa < (l1.length : Int)
      ·rw [if_pos c6] at H
       have c6b0 := decide_eq_true c6
       clear c6
       replace H := Option.bind_eq_some_iff.mp H
       obtain ⟨Bb, Be, H⟩ := H
       have A7 := Aside0.mk Be
       clear Be
       by_cases c8 : Bb = true
       ·subst c8
        rw [if_pos rfl] at H
        have H' := Aside0.mk H
        clear H
        try go_wp2
        replace HB := Aside0.mk (below_drew1 HB.out)
        have Au : 0 ≤ (Aa : Int) := of_decide_eq_true za
        have Ar : Aa < (l0.length : Int) := of_decide_eq_true za
        obtain ⟨Ai, Ax, Ag, Af, Ae⟩ := at_T45 HR0.out Aa Au Ar
        have Am := Ae
        have Ao := Af
        have Ap := Ag
        cases Ax
        replace Ag := zU HB.out Ag
        replace Af := zU HB.out Af
        replace Ae := zU HB.out Ae
        replace Au := eq_true Au
        replace Ar := eq_true Ar
        have As : 0 ≤ (Aa : Int) := of_decide_eq_true za
        have Aq : Aa < (l1.length : Int) := of_decide_eq_true za
        obtain ⟨Ah, Aw, Ad, Ac, Ab⟩ := at_T45 HR1.out Aa As Aq
        have Aj := Ab
        have Ak := Ac
        have Al := Ad
        cases Aw
        replace Ad := zU HB.out Ad
        replace Ac := zU HB.out Ac
        replace Ab := zU HB.out Ab
        replace As := eq_true As
        replace Aq := eq_true Aq
        refine start_ (n := 10) (S := fun w' => w'.cell? (Ai.add ((Aa).toNat * 3)) = some (.string ((rd_T45 l0 Aa).f0)) ∧ w'.cell? ⟨(Ai.add ((Aa).toNat * 3)).block, (Ai.add ((Aa).toNat * 3)).off + 1, none⟩ = some (.string ((rd_T45 l0 Aa).f1)) ∧ w'.cell? ⟨(Ai.add ((Aa).toNat * 3)).block, (Ai.add ((Aa).toNat * 3)).off + 2, none⟩ = some (.int .i64 ((rd_T45 l0 Aa).f2)) ∧ w'.cell? (Ah.add ((Aa).toNat * 3)) = some (.string ((rd_T45 l1 Aa).f0)) ∧ w'.cell? ⟨(Ah.add ((Aa).toNat * 3)).block, (Ah.add ((Aa).toNat * 3)).off + 1, none⟩ = some (.string ((rd_T45 l1 Aa).f1)) ∧ w'.cell? ⟨(Ah.add ((Aa).toNat * 3)).block, (Ah.add ((Aa).toNat * 3)).off + 2, none⟩ = some (.int .i64 ((rd_T45 l1 Aa).f2))) (ds := []) q1_0 (by kernel_rfl) rfl rfl ⟨(zU HB.out Ap), (zU HB.out Ao), (zU HB.out Am), (zU HB.out Al), (zU HB.out Ak), (zU HB.out Aj)⟩ (fun hHeld => ?_); refine with_tabW laws_eqFileS.tab6 laws_eqFileS.bits6 (fun HT_ HW_ => ?_)
        generalize wr.drew = w9 at HB Ag Af Ae Ad Ac Ab hHeld ⊢
        refine zP 0 (some 17) q1_1 HT_ ?_
        refine zP 1 (some 18) q1_2 HT_ ?_
        refine zP 2 (some 19) q1_3 HT_ ?_
        refine zP 4 (some 21) q1_4 HT_ ?_
        refine zP 5 (some 22) q1_5 HT_ ?_
        refine zP 6 (some 23) q1_6 HT_ ?_
        refine zT 3 (some 20) q1_7 HT_ HW_ hHeld ?_
        refine zT 7 (some 24) q1_8 HT_ HW_ hHeld ?_
        refine one_ (i := 8) (N := some 25) q1_9 rfl rfl (one_of HT_.out (by kernel_rfl)) (by decide) (fun K hK => ?_)
        refine zH Try.func76 #[.agg #[.string ((rd_T45 l0 Aa).f0), .string ((rd_T45 l0 Aa).f1), .int .i64 ((rd_T45 l0 Aa).f2)], .agg #[.string ((rd_T45 l1 Aa).f0), .string ((rd_T45 l1 Aa).f1), .int .i64 ((rd_T45 l1 Aa).f2)]] ?_
        with_reducible refine (laws_eqFile.calls ((rd_T45 l0 Aa).f0) ((rd_T45 l0 Aa).f1) ((rd_T45 l0 Aa).f2) ((rd_T45 l1 Aa).f0) ((rd_T45 l1 Aa).f1) ((rd_T45 l1 Aa).f2) true _ A7.out).mono ?_
        rintro e w10 ⟨rfl, hb⟩
        refine ⟨_, rfl, ?_⟩
        replace HB := zs HB hb
        (try clear hb)
        (try clear hb2)
        (try clear hk)
        (try clear hi)
        refine hK.out _ _ ⟨(zU HB.out Ap), (zU HB.out Ao), (zU HB.out Am), (zU HB.out Al), (zU HB.out Ak), (zU HB.out Aj)⟩ (fun hHeld => ?_)
        clear hK K
        refine zN ?_
        refine zP 9 (some 26) q1_10 HT_ ?_
        refine done_ (done_of HT_.out (by kernel_rfl)) ?_
        try go_wp2
        go_roundg k1
        case measure => have := Bd.out; omega
        case rel => exact ⟨(wrap64 (Aa + 1)), zf, H', ⟨by have := Bd.out; omega⟩, ⟨zw HB⟩⟩
       replace c8 := Bool.eq_false_iff.mpr c8
       subst c8
       rw [if_neg (show ¬ (false = true) by decide)] at H
       obtain rfl := Option.some.inj H
       try go_wp2
       replace HB := Aside0.mk (below_drew1 HB.out)
       have Au : 0 ≤ (Aa : Int) := of_decide_eq_true za
       have Ar : Aa < (l0.length : Int) := of_decide_eq_true za
       obtain ⟨Ai, Ax, Ag, Af, Ae⟩ := at_T45 HR0.out Aa Au Ar
       have Am := Ae
       have Ao := Af
       have Ap := Ag
       cases Ax
       replace Ag := zU HB.out Ag
       replace Af := zU HB.out Af
       replace Ae := zU HB.out Ae
       replace Au := eq_true Au
       replace Ar := eq_true Ar
       have As : 0 ≤ (Aa : Int) := of_decide_eq_true za
       have Aq : Aa < (l1.length : Int) := of_decide_eq_true za
       obtain ⟨Ah, Aw, Ad, Ac, Ab⟩ := at_T45 HR1.out Aa As Aq
       have Aj := Ab
       have Ak := Ac
       have Al := Ad
       cases Aw
       replace Ad := zU HB.out Ad
       replace Ac := zU HB.out Ac
       replace Ab := zU HB.out Ab
       replace As := eq_true As
       replace Aq := eq_true Aq
       refine start_ (n := 10) (S := fun w' => w'.cell? (Ai.add ((Aa).toNat * 3)) = some (.string ((rd_T45 l0 Aa).f0)) ∧ w'.cell? ⟨(Ai.add ((Aa).toNat * 3)).block, (Ai.add ((Aa).toNat * 3)).off + 1, none⟩ = some (.string ((rd_T45 l0 Aa).f1)) ∧ w'.cell? ⟨(Ai.add ((Aa).toNat * 3)).block, (Ai.add ((Aa).toNat * 3)).off + 2, none⟩ = some (.int .i64 ((rd_T45 l0 Aa).f2)) ∧ w'.cell? (Ah.add ((Aa).toNat * 3)) = some (.string ((rd_T45 l1 Aa).f0)) ∧ w'.cell? ⟨(Ah.add ((Aa).toNat * 3)).block, (Ah.add ((Aa).toNat * 3)).off + 1, none⟩ = some (.string ((rd_T45 l1 Aa).f1)) ∧ w'.cell? ⟨(Ah.add ((Aa).toNat * 3)).block, (Ah.add ((Aa).toNat * 3)).off + 2, none⟩ = some (.int .i64 ((rd_T45 l1 Aa).f2))) (ds := []) q1_0 (by kernel_rfl) rfl rfl ⟨(zU HB.out Ap), (zU HB.out Ao), (zU HB.out Am), (zU HB.out Al), (zU HB.out Ak), (zU HB.out Aj)⟩ (fun hHeld => ?_); refine with_tabW laws_eqFileS.tab6 laws_eqFileS.bits6 (fun HT_ HW_ => ?_)
       generalize wr.drew = w11 at HB Ag Af Ae Ad Ac Ab hHeld ⊢
       refine zP 0 (some 17) q1_1 HT_ ?_
       refine zP 1 (some 18) q1_2 HT_ ?_
       refine zP 2 (some 19) q1_3 HT_ ?_
       refine zP 4 (some 21) q1_4 HT_ ?_
       refine zP 5 (some 22) q1_5 HT_ ?_
       refine zP 6 (some 23) q1_6 HT_ ?_
       refine zT 3 (some 20) q1_7 HT_ HW_ hHeld ?_
       refine zT 7 (some 24) q1_8 HT_ HW_ hHeld ?_
       refine one_ (i := 8) (N := some 25) q1_9 rfl rfl (one_of HT_.out (by kernel_rfl)) (by decide) (fun K hK => ?_)
       refine zH Try.func76 #[.agg #[.string ((rd_T45 l0 Aa).f0), .string ((rd_T45 l0 Aa).f1), .int .i64 ((rd_T45 l0 Aa).f2)], .agg #[.string ((rd_T45 l1 Aa).f0), .string ((rd_T45 l1 Aa).f1), .int .i64 ((rd_T45 l1 Aa).f2)]] ?_
       with_reducible refine (laws_eqFile.calls ((rd_T45 l0 Aa).f0) ((rd_T45 l0 Aa).f1) ((rd_T45 l0 Aa).f2) ((rd_T45 l1 Aa).f0) ((rd_T45 l1 Aa).f1) ((rd_T45 l1 Aa).f2) false _ A7.out).mono ?_
       rintro e w12 ⟨rfl, hb⟩
       refine ⟨_, rfl, ?_⟩
       replace HB := zs HB hb
       (try clear hb)
       (try clear hb2)
       (try clear hk)
       (try clear hi)
       refine hK.out _ _ ⟨(zU HB.out Ap), (zU HB.out Ao), (zU HB.out Am), (zU HB.out Al), (zU HB.out Ak), (zU HB.out Aj)⟩ (fun hHeld => ?_)
       clear hK K
       refine zN ?_
       refine zP 9 (some 26) q1_10 HT_ ?_
       refine done_ (done_of HT_.out (by kernel_rfl)) ?_
       try go_wp2
       go_ret
       exact ⟨ze, zw HB⟩
      rw [if_neg c6] at H
      exact absurd H (by simp)
     rw [if_neg c5] at H
     exact absurd H (by simp)
    rw [if_neg c4] at H
    have Bc := decide_eq_false c4
    clear c4
    obtain rfl := Option.some.inj H
    go_wp2
    go_ret
    exact ⟨ze, zw HB⟩
 rw [if_neg c3] at H
 have Ba : ((l0.length : Int) == (l1.length : Int)) = false := beq_eq_false_iff_ne.mpr c3
 have Az : ((l0.length : Int) != (l1.length : Int)) = true := bne_iff_ne.mpr c3
 have Ay : (l0.length == l1.length) = false := by first | simpa using c3 | (simp at c3 ⊢; omega)
 obtain rfl := Option.some.inj H
 go_enter Try.func52, Try.ntmps52
 go_wp2
 go_ret
 exact ⟨ze, zw HB⟩

end Go.Proofs.Ytdiecogmaiglaaa.PFnExactCutActs
