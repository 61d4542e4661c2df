import Derived.Test.YtdiecogmaiglaaaQFnExactCutActsx0
import Derived.Test.YtdiecogmaiglaaaQFnExactCutActsx1
namespace Go.Proofs.Ytdiecogmaiglaaa.PFnExactCutActs
open Go.RowKit Go.Proofs.YtdiecogmaiglaaaW.PrintWords Go.Proofs.YtdiecogmaiglaaaW.PrintLast Go.Proofs.YtdiecogmaiglaaaW.PrintMore
attribute [local go_sem] max2_int min2_int max_two min_two max_three min_three max_four min_four   -- for this text's walks alone
set_option linter.unusedVariables false
set_option linter.unusedSimpArgs false

/-! ### laws_eqDisk: function 16 -/
def laws_eqDisk.f (k : Nat) (l0_0 : List (S45)) (l1_0 : List (S45)) : Option (Bool) := (laws_eqFileS.f k l0_0 l1_0).bind fun t130 => (if t130 = true then (some true) else (some false))
theorem laws_eqDisk.mono : ∀ a0 a1 k, LeO (laws_eqDisk.f k a0 a1) (laws_eqDisk.f (k + 1) a0 a1) := by
 intro a0 a1 k
 unfold laws_eqDisk.f
 repeat' first
   | (with_reducible exact laws_eqFileS.mono _ _ _)
   | (with_reducible exact LeO.refl _)
   | (with_reducible exact LeO.none _)
   | (with_reducible refine LeO.ite ?_ ?_)
   | (with_reducible refine LeO.bind ?_ (fun _ => ?_))
   | exact laws_eqFileS.mono _ _ _
   | exact LeO.none _
   | refine LeO.ite ?_ ?_
   | refine LeO.bind ?_ (fun _ => ?_)
set_option maxHeartbeats 8000000 in
set_option maxRecDepth 100000 in
theorem laws_eqDisk.calls (k : Nat) (A0_0 : Option Addr) (c0_0 : Nat) (l0_0 : List (S45)) (A1_0 : Option Addr) (c1_0 : Nat) (l1_0 : List (S45)) (r : Bool) (w : World) (hr0_0 : Kd.C k45 w A0_0 l0_0.length l0_0) (hc0_0 : l0_0.length ≤ c0_0) (hr1_0 : Kd.C k45 w A1_0 l1_0.length l1_0) (hc1_0 : l1_0.length ≤ c1_0) (h : laws_eqDisk.f k l0_0 l1_0 = some r) :
  Calls Try.prog 16 #[.agg #[.slice A0_0 l0_0.length c0_0], .agg #[.slice A1_0 l1_0.length c1_0]] w fun e w' => e = .returned (.bool r) ∧ Below w.heap.size w w' := by
 have hu29 := Try.underlying29
 have HR0_0 := Aside0.mk hr0_0
 have Af := Aside0.mk hc0_0
 clear hr0_0 hc0_0
 have HR1_0 := Aside0.mk hr1_0
 have Ae := Aside0.mk hc1_0
 clear hr1_0 hc1_0
 have HB := Aside0.mk (Below.refl w.heap.size w)
 have H : ((laws_eqFileS.f k l0_0 l1_0).bind fun Ag => (if Ag = true then (some true) else (some false))) = some r := h
 clear h
 replace H := Option.bind_eq_some_iff.mp H
 obtain ⟨Ag, Ao, H⟩ := H
 have A3 := Aside0.mk Ao
 clear Ao
 by_cases c4 : Ag = true
 ·subst c4
  rw [if_pos rfl] at H
  obtain rfl := Option.some.inj H
  go_enter Try.func16, Try.ntmps16
  go_wp2_with (first | ((with_reducible refine gate_dst (N := 2) rfl ?_); refine zx (N := 2) (cs := #[.slice A0_0 l0_0.length c0_0]) (t := 29) ?_; intro Ai hg w5 hbox hb; have Aa := Aside0.mk (hbox); have Ak := zg HB hg; have Am := zg HB hg; replace HB := zs HB hb; clear hb hbox hg) | ((with_reducible refine gate_dst (N := 3) rfl ?_); refine zx (N := 3) (cs := #[.slice A1_0 l1_0.length c1_0]) (t := 29) ?_; intro Ah hg w6 hbox hb; have Ad := Aside0.mk (hbox); have Aj := zg HB hg; have Al := zg HB hg; replace HB := zs HB hb; have Ac := zl Aa hg; have Ab := zr Aa hg; replace Aa := zb Aa hb; clear hb hbox hg; have hnb7 := Ac.out; have hnc7 := Ab.out; obtain ⟨_, _⟩ := zc1 Aa; obtain ⟨_, _⟩ := zc1 Ad) | ((with_reducible refine gate_callee (f := 52) rfl ?_); refine zG (some 9) Try.func52 #[.slice A0_0 l0_0.length c0_0, .slice A1_0 l1_0.length c1_0] ?_; (with_reducible refine (laws_eqFileS.calls k _ _ l0_0 _ _ l1_0 true _ ?side1 ?side2 ?side3 ?side4 A3.out).mono ?_); (case side1 => exact zI (Kd.C_below HR0_0.out HB.out)); (case side2 => exact Af.out); (case side3 => exact zI (Kd.C_below HR1_0.out HB.out)); (case side4 => exact Ae.out); rintro e w10 ⟨rfl, hb⟩; refine ⟨_, rfl, ?_⟩; replace Aa := zb Aa hb; replace Ad := zb Ad hb; replace HB := zs HB hb; clear hb))
  go_ret
  exact ⟨ze, zw HB⟩
 replace c4 := Bool.eq_false_iff.mpr c4
 subst c4
 rw [if_neg (show ¬ (false = true) by decide)] at H
 obtain rfl := Option.some.inj H
 go_enter Try.func16, Try.ntmps16
 go_wp2_with (first | ((with_reducible refine gate_dst (N := 2) rfl ?_); refine zx (N := 2) (cs := #[.slice A0_0 l0_0.length c0_0]) (t := 29) ?_; intro Ai hg w11 hbox hb; have Aa := Aside0.mk (hbox); have Ak := zg HB hg; have Am := zg HB hg; replace HB := zs HB hb; clear hb hbox hg) | ((with_reducible refine gate_dst (N := 3) rfl ?_); refine zx (N := 3) (cs := #[.slice A1_0 l1_0.length c1_0]) (t := 29) ?_; intro Ah hg w12 hbox hb; have Ad := Aside0.mk (hbox); have Aj := zg HB hg; have Al := zg HB hg; replace HB := zs HB hb; have Ac := zl Aa hg; have Ab := zr Aa hg; replace Aa := zb Aa hb; clear hb hbox hg; have hnb13 := Ac.out; have hnc13 := Ab.out; obtain ⟨_, _⟩ := zc1 Aa; obtain ⟨_, _⟩ := zc1 Ad) | ((with_reducible refine gate_callee (f := 52) rfl ?_); refine zG (some 9) Try.func52 #[.slice A0_0 l0_0.length c0_0, .slice A1_0 l1_0.length c1_0] ?_; (with_reducible refine (laws_eqFileS.calls k _ _ l0_0 _ _ l1_0 false _ ?side1 ?side2 ?side3 ?side4 A3.out).mono ?_); (case side1 => exact zI (Kd.C_below HR0_0.out HB.out)); (case side2 => exact Af.out); (case side3 => exact zI (Kd.C_below HR1_0.out HB.out)); (case side4 => exact Ae.out); rintro e w16 ⟨rfl, hb⟩; refine ⟨_, rfl, ?_⟩; replace Aa := zb Aa hb; replace Ad := zb Ad hb; replace HB := zs HB hb; clear hb))
 go_ret
 exact ⟨ze, zw HB⟩

/-! ### laws_toIntS: function 29 -/
def laws_toIntS.l0 : Nat → List Int → List Int → Int → Option (List Int)
 | 0, _, _, _ => none
 | k + 1, x0, x3, x4 => if x4 < (x0.length : Int) then (if 0 ≤ x4 then (if x4 < (x3.length : Int) then (laws_toIntS.l0 k x0 (x3.set (x4 : Int).toNat (rd x0 x4)) (wrap64 (x4 + 1))) else (none)) else (none)) else (some x3)
def laws_toIntS.f (k : Nat) (l0 : List Int) : Option (List Int) := if 0 ≤ (l0.length : Int) then (if ((l0.length : Int) : Int).toNat ≤ 35184372088832 then (laws_toIntS.l0 k l0 (List.replicate ((l0.length : Int) : Int).toNat 0) 0) else (none)) else (none)
theorem laws_toIntS.mono_l : ∀ k, (∀ y0 y1 y2, LeO (laws_toIntS.l0 k y0 y1 y2) (laws_toIntS.l0 (k + 1) y0 y1 y2))
 | 0 => fun _ _ _ r h => by simp [laws_toIntS.l0] at h
 | k + 1 => by
  have ih0 := laws_toIntS.mono_l k
  intro y0 y1 y2
  unfold laws_toIntS.l0
  repeat' first
  | (with_reducible exact ih0 _ _ _)
  | (with_reducible exact LeO.refl _)
  | (with_reducible exact LeO.none _)
  | (with_reducible refine LeO.ite ?_ ?_)
  | (with_reducible refine LeO.bind ?_ (fun _ => ?_))
  | exact ih0 _ _ _
  | exact LeO.none _
  | refine LeO.ite ?_ ?_
  | refine LeO.bind ?_ (fun _ => ?_)
theorem laws_toIntS.mono : ∀ a0 k, LeO (laws_toIntS.f k a0) (laws_toIntS.f (k + 1) a0) := by
 intro a0 k
 have ih0 := laws_toIntS.mono_l k
 unfold laws_toIntS.f
 repeat' first
   | (with_reducible exact ih0 _ _ _)
   | (with_reducible exact LeO.refl _)
   | (with_reducible exact LeO.none _)
   | (with_reducible refine LeO.ite ?_ ?_)
   | (with_reducible refine LeO.bind ?_ (fun _ => ?_))
   | exact ih0 _ _ _
   | exact LeO.none _
   | refine LeO.ite ?_ ?_
   | refine LeO.bind ?_ (fun _ => ?_)
set_option maxHeartbeats 8000000 in
set_option maxRecDepth 100000 in
theorem laws_toIntS.calls (k : Nat) (A0 : Option Addr) (c0 : Nat) (l0 : List Int) (r : List Int) (w : World) (hr0 : Kd.C (Kd.int .i64) w A0 l0.length l0) (hc0 : l0.length ≤ c0) (h : laws_toIntS.f k l0 = some r) :
  Calls Try.prog 29 #[.slice A0 l0.length c0] w fun e w' => ∃ v0_ : Value, e = .returned (v0_) ∧ Kd.R (Kd.int .i64) 3 w' w.heap.size (fun _ => True) v0_ r ∧ Below w.heap.size w w' := by
 have HR0 := Aside0.mk hr0
 have HC0 := Aside0.mk hc0
 clear hr0 hc0
 have HB := Aside0.mk (Below.refl w.heap.size w)
 have H : (if 0 ≤ (l0.length : Int) then (if ((l0.length : Int) : Int).toNat ≤ 35184372088832 then (laws_toIntS.l0 k l0 (List.replicate ((l0.length : Int) : Int).toNat 0) 0) else (none)) else (none)) = some r := h
 clear h
 by_cases c2 : 0 ≤ (l0.length : Int)
 ·rw [if_pos c2] at H
  have Ax := eq_true c2
  have Aw := decide_eq_true c2
  clear c2
  by_cases c3 : ((l0.length : Int) : Int).toNat ≤ 35184372088832
  ·rw [if_pos c3] at H
   have Au := eq_true c3
   have As := decide_eq_true c3
   clear c3
   obtain ⟨Aj, Ac⟩ : ∃ y_ : List Int, y_ = (List.replicate ((l0.length : Int) : Int).toNat 0) := ⟨_, rfl⟩
   replace H : (laws_toIntS.l0 k l0 Aj 0) = some r := by first | (rw [Ac]; with_reducible exact H) | (have H2_ := (Option.bind_some _ _).symm.trans H; rw [Ac]; with_reducible exact H2_) | (have H2_ := (Option.bind_some _ _).symm.trans H; with_reducible exact H2_) | with_reducible exact H | (rw [Ac]; exact H) | exact H
   have Ny131 := Aside0.mk Ac
   clear Ac
   have H' := Aside0.mk H
   clear H
   go_enter Try.func29, Try.ntmps29
   go_wp2_with (first | ((with_reducible refine gate_dst (N := 7) rfl ?_); refine Kd.R_make (Kd.int .i64) _ 3 rfl (N := 7) rfl 39 _ _ rfl (l0.length : Int) rfl rfl Try.underlying39 (.int .i64 0) 8 info3 rfl (by decide) (by omega) 0 (ok := fun _ => True) (okp := fun _ => True) rfl (fun _ hk => hk) trivial (of_decide_eq_true za) (Nat.le_trans (Nat.mul_le_mul_right _ (of_decide_eq_true za : (l0.length : Int).toNat ≤ 35184372088832)) (by omega)) (Below.refl _ _) (Nat.le_refl _) ?_; intro Ao w4 Ak hb hg_ hnew_; clear hg_ hnew_; (first | rw [← Ny131.out] at Ak | (simp only [Int.reduceToNat] at Ak; rw [← Ny131.out] at Ak)); have Al := Aside0.mk (Kd.R_lower Ak (below_size (zw HB))); replace HB := zs HB hb; clear hb Ak))
   go_loopg [4] k (fun kq v4 w' => ∃ (Ad : List Int) (Aa : Int), v4 = .int .i64 Aa ∧ Aside0 (laws_toIntS.l0 kq l0 Ad Aa = some r) ∧ Aside0 (kq ≤ k) ∧ Aside0 (Kd.R (Kd.int .i64) 3 w' w.heap.size (fun _ => True) Ao Ad) ∧ Aside0 (Below w.heap.size w w'))
   case atStart => exact ⟨(Aj), (0), zf, H', ⟨Nat.le_refl _⟩, ⟨zo Al.out⟩, ⟨zw HB⟩⟩
   case round =>
    clear H'
    try clear c2
    try clear Ax
    try clear Aw
    try clear p2
    try clear c3
    try clear Au
    try clear As
    obtain ⟨Ad, Aa, rfl, HA, Ba, Af, HB⟩ := hrel
    cases gk with
    | zero => exact absurd HA.out (by simp [laws_toIntS.l0])
    | succ k1 =>
     have H := HA.out
     clear HA
     simp only [laws_toIntS.l0] at H
     by_cases c6 : Aa < (l0.length : Int)
     ·rw [if_pos c6] at H
      have Ar := decide_eq_true c6
      clear c6
      by_cases c7 : 0 ≤ Aa
      ·rw [if_pos c7] at H
       have c7b0 := decide_eq_true c7
       clear c7
       by_cases c8 : Aa < (Ad.length : Int)
       ·rw [if_pos c8] at H
        have c8b0 := decide_eq_true c8
        clear c8
        obtain ⟨Ag, Ab⟩ : ∃ y_ : List Int, y_ = (Ad.set (Aa : Int).toNat (rd l0 Aa)) := ⟨_, rfl⟩
        replace H : (laws_toIntS.l0 k1 l0 Ag (wrap64 (Aa + 1))) = some r := by first | (rw [Ab]; with_reducible exact H) | (have H2_ := (Option.bind_some _ _).symm.trans H; rw [Ab]; with_reducible exact H2_) | (have H2_ := (Option.bind_some _ _).symm.trans H; with_reducible exact H2_) | with_reducible exact H | (rw [Ab]; exact H) | exact H
        have Ny135 := Aside0.mk Ab
        clear Ab
        have H' := Aside0.mk H
        clear H
        have Ai : 0 ≤ (Aa : Int) := of_decide_eq_true za
        have Ah : Aa < (l0.length : Int) := of_decide_eq_true za
        obtain ⟨ad134, Aq, Ae⟩ := Kd.at_int HR0.out Aa Ai Ah
        cases Aq
        replace Ae := zU HB.out Ae
        replace Ai := eq_true Ai
        replace Ah := eq_true Ah
        have p9 : 0 ≤ (Aa : Int) := of_decide_eq_true za
        have q9 : (Aa : Int) < ((Ad.length : Int) : Int) := of_decide_eq_true za
        obtain ⟨Ap, Bb, Az, Ay, gl9, cl9, HG9⟩ := Kd.R_form Af.out (by omega)
        (first | cases Az | (injection Az with ea_ en_ ec_; (first | subst ea_ | (injection ea_ with ea_; subst ea_)); subst ec_; clear en_))
        have GB9 := Aside0.mk Ay
        have GG9 := Aside0.mk HG9
        clear Ay gl9 HG9
        obtain ⟨hx9_0, hf9_0⟩ := Kd.R_celln 0 Af.out (Aa : Int) p9 q9
        replace p9 := eq_true p9
        replace q9 := eq_true q9
        have HP10 := Kd.R_putg Af.out (Aa : Int) (rd l0 Aa)
        go_wp2_with (first | ((with_reducible refine gate_store (t := 3) (p := 20) rfl ?_); refine store_event (t := 3) (p := 20) (v := ?vo_w11) (w1 := (wr.setCell ⟨Ap, (Aa : Int).toNat, none⟩ (.int .i64 (rd l0 Aa)))) ?hg ?ho ?hn ?hr ?_; (case ho => rfl); (case hg => rfl); (case hn => rfl); (case hr => first | (go_simp; done) | (go_simp; rfl)); intro Am hw; have hg : wr.grownBy Am (some Ap) := (by rw [hw]; exact HP10.2); have hp_ : Kd.R (Kd.int .i64) 3 Am w.heap.size (fun _ => True) (.slice (some ⟨Ap, 0, none⟩) Ad.length Bb) Ag := (by rw [hw, Ny135.out]; exact HP10.1); clear HP10; replace Af := Aside0.mk (hp_); replace HB := Aside0.mk ((by rw [hw]; exact below_set (HB.out) GB9.out : Below w.heap.size w Am)); clear hg hw hp_))
        go_roundg k1
        case measure => have := Ba.out; omega
        case rel => exact ⟨(Ag), (wrap64 (Aa + 1)), zf, H', ⟨by have := Ba.out; omega⟩, ⟨zo Af.out⟩, ⟨zw HB⟩⟩
       rw [if_neg c8] at H
       exact absurd H (by simp)
      rw [if_neg c7] at H
      exact absurd H (by simp)
     rw [if_neg c6] at H
     have Ar := decide_eq_false c6
     clear c6
     obtain rfl := Option.some.inj H
     go_wp2
     go_ret
     exact ⟨_, ze, zo Af.out, zw HB⟩
  rw [if_neg c3] at H
  exact absurd H (by simp)
 rw [if_neg c2] at H
 exact absurd H (by simp)

/-! ### laws_eqIntS: function 30 -/
def laws_eqIntS.l0 : Nat → List Int → List Int → Int → Option (Bool)
 | 0, _, _, _ => none
 | k + 1, x0, x1, x5 => if x5 < (x0.length : Int) then (if 0 ≤ x5 then (if x5 < (x1.length : Int) then (if (rd x0 x5) = (rd x1 x5) then (laws_eqIntS.l0 k x0 x1 (wrap64 (x5 + 1))) else (some false)) else (none)) else (none)) else (some true)
def laws_eqIntS.f (k : Nat) (l0 : List Int) (l1 : List Int) : Option (Bool) := if (l0.length : Int) = (l1.length : Int) then (laws_eqIntS.l0 k l0 l1 0) else (some false)
theorem laws_eqIntS.mono_l : ∀ k, (∀ y0 y1 y2, LeO (laws_eqIntS.l0 k y0 y1 y2) (laws_eqIntS.l0 (k + 1) y0 y1 y2))
 | 0 => fun _ _ _ r h => by simp [laws_eqIntS.l0] at h
 | k + 1 => by
  have ih0 := laws_eqIntS.mono_l k
  intro y0 y1 y2
  unfold laws_eqIntS.l0
  repeat' first
  | (with_reducible exact ih0 _ _ _)
  | (with_reducible exact LeO.refl _)
  | (with_reducible exact LeO.none _)
  | (with_reducible refine LeO.ite ?_ ?_)
  | (with_reducible refine LeO.bind ?_ (fun _ => ?_))
  | exact ih0 _ _ _
  | exact LeO.none _
  | refine LeO.ite ?_ ?_
  | refine LeO.bind ?_ (fun _ => ?_)
theorem laws_eqIntS.mono : ∀ a0 a1 k, LeO (laws_eqIntS.f k a0 a1) (laws_eqIntS.f (k + 1) a0 a1) := by
 intro a0 a1 k
 have ih0 := laws_eqIntS.mono_l k
 unfold laws_eqIntS.f
 repeat' first
   | (with_reducible exact ih0 _ _ _)
   | (with_reducible exact LeO.refl _)
   | (with_reducible exact LeO.none _)
   | (with_reducible refine LeO.ite ?_ ?_)
   | (with_reducible refine LeO.bind ?_ (fun _ => ?_))
   | exact ih0 _ _ _
   | exact LeO.none _
   | refine LeO.ite ?_ ?_
   | refine LeO.bind ?_ (fun _ => ?_)
set_option maxHeartbeats 8000000 in
set_option maxRecDepth 100000 in
theorem laws_eqIntS.calls (k : Nat) (A0 : Option Addr) (c0 : Nat) (l0 : List Int) (A1 : Option Addr) (c1 : Nat) (l1 : List Int) (r : Bool) (w : World) (hr0 : Kd.C (Kd.int .i64) w A0 l0.length l0) (hc0 : l0.length ≤ c0) (hr1 : Kd.C (Kd.int .i64) w A1 l1.length l1) (hc1 : l1.length ≤ c1) (h : laws_eqIntS.f k l0 l1 = some r) :
  Calls Try.prog 30 #[.slice A0 l0.length c0, .slice A1 l1.length c1] w fun e w' => e = .returned (.bool r) ∧ Drawn0 w w' := by
 have HR0 := Aside0.mk hr0
 have HC0 := Aside0.mk hc0
 clear hr0 hc0
 have HR1 := Aside0.mk hr1
 have HC1 := Aside0.mk hc1
 clear hr1 hc1
 have H : (if (l0.length : Int) = (l1.length : Int) then (laws_eqIntS.l0 k l0 l1 0) else (some false)) = some r := h
 clear h
 by_cases c3 : (l0.length : Int) = (l1.length : Int)
 ·rw [if_pos c3] at H
  have Al : ((l0.length : Int) == (l1.length : Int)) = true := beq_iff_eq.mpr c3
  have Ak : ((l0.length : Int) != (l1.length : Int)) = false := bne_eq_false_iff_eq.mpr c3
  have Aj : (l0.length == l1.length) = true := by first | simpa using c3 | (simp at c3 ⊢; omega)
  clear c3
  have H' := Aside0.mk H
  clear H
  go_enter Try.func30, Try.ntmps30
  go_wp2
  repeat (go_quiet (fail); try go_wp2)
  go_loopg [5] k (fun kq v5 w' => ∃ (Aa : Int), v5 = .int .i64 Aa ∧ Aside0 (laws_eqIntS.l0 kq l0 l1 Aa = some r) ∧ Aside0 (kq ≤ k) ∧ Drawn0 w w')
  case atStart => exact ⟨(0), zf, H', ⟨Nat.le_refl _⟩, by repeat (first | exact Drawn0.refl _ | apply Drawn0.step)⟩
  case round =>
   clear H'
   try clear c1
   try clear p2
   try clear c3
   try clear Al
   try clear Ak
   try clear Aj
   obtain ⟨Aa, rfl, HA, As, ⟨m1, rfl⟩⟩ := hrel
   cases gk with
   | zero => exact absurd HA.out (by simp [laws_eqIntS.l0])
   | succ k1 =>
    have H := HA.out
    clear HA
    simp only [laws_eqIntS.l0] at H
    by_cases c4 : Aa < (l0.length : Int)
    ·rw [if_pos c4] at H
     have Ar := decide_eq_true c4
     clear c4
     by_cases c5 : 0 ≤ Aa
     ·rw [if_pos c5] at H
      have c5b0 := decide_eq_true c5
      clear c5
      by_cases c6 : Aa < (l1.length : Int)
      ·rw [if_pos c6] at H
       have c6b0 := decide_eq_true c6
       clear c6
       by_cases c7 : (rd l0 Aa) = (rd l1 Aa)
       ·rw [if_pos c7] at H
        have Aq : ((rd l0 Aa) == (rd l1 Aa)) = true := beq_iff_eq.mpr c7
        have Ap : ((rd l0 Aa) != (rd l1 Aa)) = false := bne_eq_false_iff_eq.mpr c7
        clear c7
        have H' := Aside0.mk H
        clear H
        have Ae : 0 ≤ (Aa : Int) := of_decide_eq_true za
        have Ac : Aa < (l0.length : Int) := of_decide_eq_true za
        obtain ⟨Ao, Ai, Ag⟩ := Kd.at_int HR0.out Aa Ae Ac
        cases Ai
        replace Ae := eq_true Ae
        replace Ac := eq_true Ac
        have Ad : 0 ≤ (Aa : Int) := of_decide_eq_true za
        have Ab : Aa < (l1.length : Int) := of_decide_eq_true za
        obtain ⟨Am, Ah, Af⟩ := Kd.at_int HR1.out Aa Ad Ab
        cases Ah
        replace Ad := eq_true Ad
        replace Ab := eq_true Ab
        go_wp2
        repeat (go_quiet (fail); try go_wp2)
        go_roundg k1
        case measure => have := As.out; omega
        case rel => exact ⟨(wrap64 (Aa + 1)), zf, H', ⟨by have := As.out; omega⟩, by repeat (first | exact Drawn0.refl _ | apply Drawn0.step)⟩
       rw [if_neg c7] at H
       have Aq : ((rd l0 Aa) == (rd l1 Aa)) = false := beq_eq_false_iff_ne.mpr c7
       have Ap : ((rd l0 Aa) != (rd l1 Aa)) = true := bne_iff_ne.mpr c7
       obtain rfl := Option.some.inj H
       have Ae : 0 ≤ (Aa : Int) := of_decide_eq_true za
       have Ac : Aa < (l0.length : Int) := of_decide_eq_true za
       obtain ⟨Ao, Ai, Ag⟩ := Kd.at_int HR0.out Aa Ae Ac
       cases Ai
       replace Ae := eq_true Ae
       replace Ac := eq_true Ac
       have Ad : 0 ≤ (Aa : Int) := of_decide_eq_true za
       have Ab : Aa < (l1.length : Int) := of_decide_eq_true za
       obtain ⟨Am, Ah, Af⟩ := Kd.at_int HR1.out Aa Ad Ab
       cases Ah
       replace Ad := eq_true Ad
       replace Ab := eq_true Ab
       go_wp2
       repeat (go_quiet (fail); try go_wp2)
       go_ret
       exact ⟨by first | rfl | (simp; done) | (simp [*]; done), by repeat (first | exact Drawn0.refl _ | apply Drawn0.step)⟩
      rw [if_neg c6] at H
      exact absurd H (by simp)
     rw [if_neg c5] at H
     exact absurd H (by simp)
    rw [if_neg c4] at H
    have Ar := decide_eq_false c4
    clear c4
    obtain rfl := Option.some.inj H
    go_wp2
    repeat (go_quiet (fail); try go_wp2)
    go_ret
    exact ⟨by first | rfl | (simp; done) | (simp [*]; done), by repeat (first | exact Drawn0.refl _ | apply Drawn0.step)⟩
 rw [if_neg c3] at H
 have Al : ((l0.length : Int) == (l1.length : Int)) = false := beq_eq_false_iff_ne.mpr c3
 have Ak : ((l0.length : Int) != (l1.length : Int)) = true := bne_iff_ne.mpr c3
 have Aj : (l0.length == l1.length) = false := by first | simpa using c3 | (simp at c3 ⊢; omega)
 obtain rfl := Option.some.inj H
 go_enter Try.func30, Try.ntmps30
 go_wp2
 repeat (go_quiet (fail); try go_wp2)
 go_ret
 exact ⟨by first | rfl | (simp; done) | (simp [*]; done), by repeat (first | exact Drawn0.refl _ | apply Drawn0.step)⟩

/-! ### laws_markText: function 69 -/
def laws_markText.l0 : Nat → Int → ByteArray → Option (ByteArray)
 | 0, _, _ => none
 | k + 1, x0, x3 => if x0 > 0 then ((some (([(wrap64 (48 + (Int.tmod x0 10))) % 256] : List Int) : List Int)).bind fun y138 => (if (strOfNums y138).size + x3.size ≤ 9223372036854775807 then (laws_markText.l0 k (wrap64 (Int.tdiv x0 10)) ((strOfNums y138) ++ x3)) else (none))) else (if 1 + x3.size ≤ 9223372036854775807 then (some ((⟨#[109]⟩ : ByteArray) ++ x3)) else (none))
def laws_markText.f (k : Nat) (a0 : Int) : Option (ByteArray) := if a0 ≤ 0 then (some (⟨#[109, 48]⟩ : ByteArray)) else (laws_markText.l0 k a0 (⟨#[]⟩ : ByteArray))
theorem laws_markText.mono_l : ∀ k, (∀ y0 y1, LeO (laws_markText.l0 k y0 y1) (laws_markText.l0 (k + 1) y0 y1))
 | 0 => fun _ _ r h => by simp [laws_markText.l0] at h
 | k + 1 => by
  have ih0 := laws_markText.mono_l k
  intro y0 y1
  unfold laws_markText.l0
  repeat' first
  | (with_reducible exact ih0 _ _)
  | (with_reducible exact LeO.refl _)
  | (with_reducible exact LeO.none _)
  | (with_reducible refine LeO.ite ?_ ?_)
  | (with_reducible refine LeO.bind ?_ (fun _ => ?_))
  | exact ih0 _ _
  | exact LeO.none _
  | refine LeO.ite ?_ ?_
  | refine LeO.bind ?_ (fun _ => ?_)
theorem laws_markText.mono : ∀ a0 k, LeO (laws_markText.f k a0) (laws_markText.f (k + 1) a0) := by
 intro a0 k
 have ih0 := laws_markText.mono_l k
 unfold laws_markText.f
 repeat' first
   | (with_reducible exact ih0 _ _)
   | (with_reducible exact LeO.refl _)
   | (with_reducible exact LeO.none _)
   | (with_reducible refine LeO.ite ?_ ?_)
   | (with_reducible refine LeO.bind ?_ (fun _ => ?_))
   | exact ih0 _ _
   | exact LeO.none _
   | refine LeO.ite ?_ ?_
   | refine LeO.bind ?_ (fun _ => ?_)
set_option maxHeartbeats 8000000 in
set_option maxRecDepth 100000 in
theorem laws_markText.calls (k : Nat) (a0 : Int) (r : ByteArray) (w : World) (h : laws_markText.f k a0 = some r) :
  Calls Try.prog 69 #[.int .i64 a0] w fun e w' => e = .returned (.string r) ∧ Below w.heap.size w w' := by
 have HB := Aside0.mk (Below.refl w.heap.size w)
 have H : (if a0 ≤ 0 then (some (⟨#[109, 48]⟩ : ByteArray)) else (laws_markText.l0 k a0 (⟨#[]⟩ : ByteArray))) = some r := h
 clear h
 by_cases c2 : a0 ≤ 0
 ·rw [if_pos c2] at H
  have Af := decide_eq_true c2
  clear c2
  obtain rfl := Option.some.inj H
  go_enter Try.func69, Try.ntmps69
  go_wp2
  go_ret
  exact ⟨ze, zw HB⟩
 rw [if_neg c2] at H
 have Af := decide_eq_false c2
 clear c2
 have H' := Aside0.mk H
 clear H
 go_enter Try.func69, Try.ntmps69
 go_wp2
 go_loopg [0, 3] k (fun kq v0 v3 w' => ∃ (Aa : Int) (Ab : ByteArray), v0 = .int .i64 Aa ∧ v3 = .string Ab ∧ Aside0 (laws_markText.l0 kq Aa Ab = some r) ∧ Aside0 (kq ≤ k) ∧ Aside0 (Below w.heap.size w w'))
 case atStart => exact ⟨(a0), ((⟨#[]⟩ : ByteArray)), zf, zf, H', ⟨Nat.le_refl _⟩, ⟨zw HB⟩⟩
 case round =>
  clear H'
  try clear c2
  try clear Af
  try clear p2
  obtain ⟨Aa, Ab, rfl, rfl, HA, Ai, HB⟩ := hrel
  cases gk with
  | zero => exact absurd HA.out (by simp [laws_markText.l0])
  | succ k1 =>
   have H := HA.out
   clear HA
   simp only [laws_markText.l0] at H
   by_cases c3 : Aa > 0
   ·rw [if_pos c3] at H
    have Ah : decide (0 < Aa) = true := decide_eq_true c3
    clear c3
    obtain ⟨Ad, Ac⟩ : ∃ y_ : List Int, y_ = (([(wrap64 (48 + (Int.tmod Aa 10))) % 256] : List Int)) := ⟨_, rfl⟩
    replace H : (if (strOfNums Ad).size + Ab.size ≤ 9223372036854775807 then (laws_markText.l0 k1 (wrap64 (Int.tdiv Aa 10)) ((strOfNums Ad) ++ Ab)) else (none)) = some r := by first | (rw [Ac]; with_reducible exact H) | (have H2_ := (Option.bind_some _ _).symm.trans H; rw [Ac]; with_reducible exact H2_) | (have H2_ := (Option.bind_some _ _).symm.trans H; with_reducible exact H2_) | with_reducible exact H | (rw [Ac]; exact H) | exact H
    have Ny138 := Aside0.mk Ac
    clear Ac
    by_cases c4 : (strOfNums Ad).size + Ab.size ≤ 9223372036854775807
    ·rw [if_pos c4] at H
     have c4b0 := eq_true c4
     have c4b1 := decide_eq_true c4
     try have c4b2 : (9223372036854775807 < (strOfNums Ad).size + Ab.size) = False := eq_false (Nat.not_lt.2 c4)
     have H' := Aside0.mk H
     clear H
     go_wp2_with (first | ((with_reducible refine gate_dst (N := 12) rfl ?_); refine Kd.R_lit (Kd.int .u8) _ 5 ?hg (N := 12) ?hd (xs := ([(wrap64 (48 + (Int.tmod Aa 10))) % 256] : List Int)) (inner := [.int .u8 ((wrap64 (48 + (Int.tmod Aa 10))) % 256)]) (ok := fun _ => True) (okp := fun _ => True) ?hr ?hp (fun _ hk => hk) trivial (Below.refl _ _) (Nat.le_refl _) (by simp) ?_; (case hd => rfl); (case hg => rfl); (case hr => first | (go_simp; done) | (go_simp; rfl)); (case hp => exact (Reps.one (show Kd.M (Kd.int .u8) _ _ _ ((wrap64 (48 + (Int.tmod Aa 10))) % 256) [.int .u8 ((wrap64 (48 + (Int.tmod Aa 10))) % 256)] from rfl) (Reps.none _ _))); intro v139 w5 Ae hb hg_ hnew_; clear hg_ hnew_; (first | rw [← Ny138.out] at Ae | (simp only [Int.reduceToNat] at Ae; rw [← Ny138.out] at Ae)); have Ag := Aside0.mk (Kd.R_lower Ae (below_size (zw HB))); replace HB := zs HB hb; clear hb Ae; have hcv7 := own_string (P := Try.prog) Try.underlying36 Try.underlying5 Try.underlying9 (Kd.own_of_R Ag.out)))
     go_roundg k1
     case measure => have := Ai.out; omega
     case rel => exact ⟨(wrap64 (Int.tdiv Aa 10)), ((strOfNums Ad) ++ Ab), zf, zf, H', ⟨by have := Ai.out; omega⟩, ⟨zw HB⟩⟩
    rw [if_neg c4] at H
    exact absurd H (by simp)
   rw [if_neg c3] at H
   have Ah : decide (0 < Aa) = false := decide_eq_false c3
   clear c3
   by_cases c8 : 1 + Ab.size ≤ 9223372036854775807
   ·rw [if_pos c8] at H
    have c8b0 := eq_true c8
    have c8b1 := decide_eq_true c8
    try have c8b2 : (9223372036854775807 < 1 + Ab.size) = False := eq_false (Nat.not_lt.2 c8)
    obtain rfl := Option.some.inj H
    go_wp2
    go_ret
    exact ⟨ze, zw HB⟩
   rw [if_neg c8] at H
   exact absurd H (by simp)

/-! ### laws_markFileS: function 62 -/
def laws_markFileS.l0 : Nat → List (S45) → Int → Int → Option (Int × (List (S45)))
 | 0, _, _, _ => none
 | k + 1, x0, x1, x5 => if x5 < (x0.length : Int) then ((laws_markText.f k x1).bind fun t141 => (if 0 ≤ x5 then ((some (x0.set (x5 : Int).toNat (⟨t141, (rd_T45 x0 x5).f1, (rd_T45 x0 x5).f2⟩ : S45) : List (S45))).bind fun y142 => ((laws_markText.f k (wrap64 (x1 + 1))).bind fun t143 => ((some (y142.set (x5 : Int).toNat (⟨(rd_T45 y142 x5).f0, t143, (rd_T45 y142 x5).f2⟩ : S45) : List (S45))).bind fun y144 => (laws_markFileS.l0 k (y144.set (x5 : Int).toNat (⟨(rd_T45 y144 x5).f0, (rd_T45 y144 x5).f1, wrap64 ((wrap64 (x1 + 1)) + 1)⟩ : S45)) (wrap64 ((wrap64 ((wrap64 (x1 + 1)) + 1)) + 1)) (wrap64 (x5 + 1)))))) else (none))) else (some (x1, x0))
def laws_markFileS.f (k : Nat) (l0 : List (S45)) (a1 : Int) : Option (Int × (List (S45))) := laws_markFileS.l0 k l0 a1 0
theorem laws_markFileS.mono_l : ∀ k, (∀ y0 y1 y2, LeO (laws_markFileS.l0 k y0 y1 y2) (laws_markFileS.l0 (k + 1) y0 y1 y2))
 | 0 => fun _ _ _ r h => by simp [laws_markFileS.l0] at h
 | k + 1 => by
  have ih0 := laws_markFileS.mono_l k
  intro y0 y1 y2
  unfold laws_markFileS.l0
  repeat' first
  | (with_reducible exact ih0 _ _ _)
  | (with_reducible exact laws_markText.mono _ _)
  | (with_reducible exact LeO.refl _)
  | (with_reducible exact LeO.none _)
  | (with_reducible refine LeO.ite ?_ ?_)
  | (with_reducible refine LeO.bind ?_ (fun _ => ?_))
  | exact ih0 _ _ _
  | exact laws_markText.mono _ _
  | exact LeO.none _
  | refine LeO.ite ?_ ?_
  | refine LeO.bind ?_ (fun _ => ?_)
theorem laws_markFileS.mono : ∀ a0 a1 k, LeO (laws_markFileS.f k a0 a1) (laws_markFileS.f (k + 1) a0 a1) := by
 intro a0 a1 k
 have ih0 := laws_markFileS.mono_l k
 unfold laws_markFileS.f
 repeat' first
   | (with_reducible exact ih0 _ _ _)
   | (with_reducible exact laws_markText.mono _ _)
   | (with_reducible exact LeO.refl _)
   | (with_reducible exact LeO.none _)
   | (with_reducible refine LeO.ite ?_ ?_)
   | (with_reducible refine LeO.bind ?_ (fun _ => ?_))
   | exact ih0 _ _ _
   | exact laws_markText.mono _ _
   | exact LeO.none _
   | refine LeO.ite ?_ ?_
   | refine LeO.bind ?_ (fun _ => ?_)
set_option maxHeartbeats 8000000 in
set_option maxRecDepth 100000 in
theorem laws_markFileS.calls (k : Nat) (P0_ : Nat → Prop) (u9000_ : Value) (l0 : List (S45)) (a1 : Int) (r1 : Int) (r2 : List (S45)) (w0 w : World) (hB : Below w0.heap.size w0 w) (ho0 : Kd.R k45 45 w w0.heap.size P0_ u9000_ l0) (h : laws_markFileS.f k l0 a1 = some (r1, r2)) :
  Calls Try.prog 62 #[u9000_, .int .i64 a1] w fun e w' => e = .returned (.int .i64 r1) ∧ Kd.R k45 45 w' w0.heap.size (fun k_ => (P0_ k_ ∨ w.heap.size ≤ k_)) u9000_ r2 ∧ Below w0.heap.size w0 w' ∧ Kept w w' (fun k_ => P0_ k_) := by
 have Cc := Aside0.mk (show Kd.R k45 45 w w0.heap.size (fun k_ => (P0_ k_ ∨ w.heap.size ≤ k_)) u9000_ l0 from Kd.R_mono ho0 (fun k_ hk => (.inl hk)))
 have HK := Aside0.mk (Kept.refl w (fun k_ => P0_ k_))
 have HW0 := Aside0.mk hB.size
 have HB := Aside0.mk hB
 clear hB
 have H : (laws_markFileS.l0 k l0 a1 0) = some (r1, r2) := h
 clear h
 have H' := Aside0.mk H
 clear H
 go_enter Try.func62, Try.ntmps62
 go_wp2
 go_loopg [1, 5] k (fun kq v1 v5 w' => ∃ (Ab : List (S45)) (Ae : Int) (Aa : Int), v1 = .int .i64 Ae ∧ v5 = .int .i64 Aa ∧ Aside0 (laws_markFileS.l0 kq Ab Ae Aa = some (r1, r2)) ∧ Aside0 (kq ≤ k) ∧ Aside0 (Kd.R k45 45 w' w0.heap.size (fun k_ => (P0_ k_ ∨ w.heap.size ≤ k_)) u9000_ Ab) ∧ Aside0 (Kept w w' (fun k_ => P0_ k_)) ∧ Aside0 (Below w0.heap.size w0 w'))
 case atStart => exact ⟨(l0), (a1), (0), zf, zf, H', ⟨Nat.le_refl _⟩, ⟨zo Cc.out⟩, ⟨by repeat (first | (with_reducible first | exact HK.out | apply Kept.alloc | apply Kept.drewN | apply Kept.drew) | exact HK.out)⟩, ⟨zw HB⟩⟩
 case round =>
  clear H'
  try clear p2
  obtain ⟨Ab, Ae, Aa, rfl, rfl, HA, B8, Ac, HK, HB⟩ := hrel
  cases gk with
  | zero => exact absurd HA.out (by simp [laws_markFileS.l0])
  | succ k1 =>
   have H := HA.out
   clear HA
   simp only [laws_markFileS.l0] at H
   by_cases c3 : Aa < (Ab.length : Int)
   ·rw [if_pos c3] at H
    have Bw := decide_eq_true c3
    clear c3
    replace H := Option.bind_eq_some_iff.mp H
    obtain ⟨Al, Cb, H⟩ := H
    have A4 := Aside0.mk Cb
    clear Cb
    by_cases c5 : 0 ≤ Aa
    ·rw [if_pos c5] at H
     have c5b0 := decide_eq_true c5
     clear c5
     obtain ⟨Ag, Ak⟩ : ∃ y_ : List (S45), y_ = (Ab.set (Aa : Int).toNat (⟨Al, (rd_T45 Ab Aa).f1, (rd_T45 Ab Aa).f2⟩ : S45)) := ⟨_, rfl⟩
     replace H : ((laws_markText.f k1 (wrap64 (Ae + 1))).bind fun Ah => ((some (Ag.set (Aa : Int).toNat (⟨(rd_T45 Ag Aa).f0, Ah, (rd_T45 Ag Aa).f2⟩ : S45) : List (S45))).bind fun Ad => (laws_markFileS.l0 k1 (Ad.set (Aa : Int).toNat (⟨(rd_T45 Ad Aa).f0, (rd_T45 Ad Aa).f1, wrap64 ((wrap64 (Ae + 1)) + 1)⟩ : S45)) (wrap64 ((wrap64 ((wrap64 (Ae + 1)) + 1)) + 1)) (wrap64 (Aa + 1))))) = some (r1, r2) := by first | (rw [Ak]; with_reducible exact H) | (have H2_ := (Option.bind_some _ _).symm.trans H; rw [Ak]; with_reducible exact H2_) | (have H2_ := (Option.bind_some _ _).symm.trans H; with_reducible exact H2_) | with_reducible exact H | (rw [Ak]; exact H) | exact H
     have Ny142 := Aside0.mk Ak
     clear Ak
     replace H := Option.bind_eq_some_iff.mp H
     obtain ⟨Ah, Ca, H⟩ := H
     have A7 := Aside0.mk Ca
     clear Ca
     obtain ⟨Ad, Aj⟩ : ∃ y_ : List (S45), y_ = (Ag.set (Aa : Int).toNat (⟨(rd_T45 Ag Aa).f0, Ah, (rd_T45 Ag Aa).f2⟩ : S45)) := ⟨_, rfl⟩
     replace H : (laws_markFileS.l0 k1 (Ad.set (Aa : Int).toNat (⟨(rd_T45 Ad Aa).f0, (rd_T45 Ad Aa).f1, wrap64 ((wrap64 (Ae + 1)) + 1)⟩ : S45)) (wrap64 ((wrap64 ((wrap64 (Ae + 1)) + 1)) + 1)) (wrap64 (Aa + 1))) = some (r1, r2) := by first | (rw [Aj]; with_reducible exact H) | (have H2_ := (Option.bind_some _ _).symm.trans H; rw [Aj]; with_reducible exact H2_) | (have H2_ := (Option.bind_some _ _).symm.trans H; with_reducible exact H2_) | with_reducible exact H | (rw [Aj]; exact H) | exact H
     have Ny144 := Aside0.mk Aj
     clear Aj
     obtain ⟨Bi, Ai⟩ : ∃ y_ : List (S45), y_ = (Ad.set (Aa : Int).toNat (⟨(rd_T45 Ad Aa).f0, (rd_T45 Ad Aa).f1, wrap64 ((wrap64 (Ae + 1)) + 1)⟩ : S45)) := ⟨_, rfl⟩
     replace H : (laws_markFileS.l0 k1 Bi (wrap64 ((wrap64 ((wrap64 (Ae + 1)) + 1)) + 1)) (wrap64 (Aa + 1))) = some (r1, r2) := by first | (rw [Ai]; with_reducible exact H) | (have H2_ := (Option.bind_some _ _).symm.trans H; rw [Ai]; with_reducible exact H2_) | (have H2_ := (Option.bind_some _ _).symm.trans H; with_reducible exact H2_) | with_reducible exact H | (rw [Ai]; exact H) | exact H
     have Ny145 := Aside0.mk Ai
     clear Ai
     have H' := Aside0.mk H
     clear H
     obtain ⟨Ao10, Am, Bv⟩ := Kd.R_slice Ac.out
     subst Bv
     go_wp2_with (first | ((with_reducible refine gate_callee (f := 69) rfl ?_); refine zG (some 15) Try.func69 #[.int .i64 Ae] ?_; (with_reducible refine (laws_markText.calls k1 Ae Al _ A4.out).mono ?_); rintro e Au ⟨rfl, hb⟩; refine ⟨_, rfl, ?_⟩; replace Ac := zy Ac hb; replace HK := Aside0.mk (Kept.below (S := (fun k_ => P0_ k_)) (by repeat (first | (with_reducible first | exact HK.out | apply Kept.alloc | apply Kept.drewN | apply Kept.drew) | exact HK.out)) hb); replace HB := zs HB hb; clear hb; have p6 : 0 ≤ (Aa : Int) := of_decide_eq_true za; have q6 : (Aa : Int) < ((Ab.length : Int) : Int) := of_decide_eq_true za; obtain ⟨Af, co6, B2, B1, gl6, cl6, HG6⟩ := Kd.R_form Ac.out (by omega); (first | cases B2 | (injection B2 with ea_ en_ ec_; (first | subst ea_ | (injection ea_ with ea_; subst ea_)); subst ec_; clear en_)); have GB6 := Aside0.mk B1; have GG6 := Aside0.mk HG6; clear B1 gl6 HG6; have HMgo6 := Aside0.mk (show (P0_ Af ∨ w.heap.size ≤ Af) from (Ac.out.1 _ rfl)); obtain ⟨ce6, Bt, B0, Bb, Ay⟩ := Kd.R_elem Ac.out z45 (Aa : Int) p6 q6; obtain rfl := k45_openM B0; have hx6_0 : Au.cell? ⟨Af, (Aa : Int).toNat * 3, none⟩ = some (.string ((rd_T45 Ab Aa).f0)) := Bb 0 _ rfl; have hx6_1 : Au.cell? ⟨Af, (Aa : Int).toNat * 3 + 1, none⟩ = some (.string ((rd_T45 Ab Aa).f1)) := Bb 1 _ rfl; have hx6_2 : Au.cell? ⟨Af, (Aa : Int).toNat * 3 + 2, none⟩ = some (.int .i64 ((rd_T45 Ab Aa).f2)) := Bb 2 _ rfl; have hf6_0 : Au.frozen? ⟨Af, (Aa : Int).toNat * 3, none⟩ = false := Ay 0; have hf6_1 : Au.frozen? ⟨Af, (Aa : Int).toNat * 3 + 1, none⟩ = false := Ay 1; have hf6_2 : Au.frozen? ⟨Af, (Aa : Int).toNat * 3 + 2, none⟩ = false := Ay 2; clear Bt Bb Ay B0; replace p6 := eq_true p6; replace q6 := eq_true q6; have HX12 := Aside0.mk (show Kd.R k45 45 Au w0.heap.size (fun k_ => (P0_ k_ ∨ w.heap.size ≤ k_)) (.slice (some ⟨Af, 0, none⟩) Ab.length Am) Ab from (zo Ac.out)); obtain ⟨ce12, Bh, Bo, Ar, Be⟩ := Kd.R_elem HX12.out z45 (Aa : Int) (of_decide_eq_true za) (by have h_ : (Aa : Int) < ((Ab.length : Int) : Int) := of_decide_eq_true za; first | exact h_ | (have e_ := (Kd.R_reads' Ac.out).1; omega) | simpa using h_); obtain rfl := k45_openM Bo; have HP12 := Kd.R_seg HX12.out (Aa : Int) (of_decide_eq_true za) (by have h_ : (Aa : Int) < ((Ab.length : Int) : Int) := of_decide_eq_true za; first | exact h_ | (have e_ := (Kd.R_reads' Ac.out).1; omega) | simpa using h_) (seg := [.string Al]) (j := 0) Bh Ar (show 1 ≤ 3 from by decide) (x' := (⟨Al, (rd_T45 Ab Aa).f1, (rd_T45 Ab Aa).f2⟩ : S45)) (k45_mkM _ _ _ (⟨Al, (rd_T45 Ab Aa).f1, (rd_T45 Ab Aa).f2⟩ : S45) ) (fun _ hk => hk); have Bl := Ar 0 _ rfl; (try simp only [show (k45).sz = 3 from rfl, Nat.mul_one, Nat.add_zero] at Bl); have hf12_0 := Be 0; (try simp only [show (k45).sz = 3 from rfl, Nat.mul_one, Nat.add_zero] at hf12_0); clear Bh Ar Be Bo) | ((with_reducible refine gate_store (t := 9) (p := 17) rfl ?_); refine store_event (t := 9) (p := 17) (v := ?vo_w13) (w1 := (Au.setCell ⟨Af, (Aa : Int).toNat * 3, none⟩ (.string Al))) ?hg ?ho ?hn ?hr ?_; (case ho => rfl); (case hg => rfl); (case hn => rfl); (case hr => first | (go_simp; done) | (go_simp; rfl)); intro Bq hw; have hg : Au.grownBy Bq (some Af) := (by rw [hw]; exact HP12.2); have hp_ : Kd.R k45 45 Bq w0.heap.size (fun k_ => (P0_ k_ ∨ w.heap.size ≤ k_)) (.slice (some ⟨Af, 0, none⟩) Ab.length Am) Ag := (by rw [hw, Ny142.out]; exact HP12.1); clear HP12; replace HB := Aside0.mk ((by rw [hw]; exact below_set (HB.out) GB6.out : Below w0.heap.size w0 Bq)); replace HK := Aside0.mk (Kept.of_grown (S := (fun k_ => P0_ k_)) hg (by repeat (first | (with_reducible first | exact HK.out | apply Kept.alloc | apply Kept.drewN | apply Kept.drew) | exact HK.out)) (fun k_ e_ => (Ac.out.1 k_ e_))); replace Ac := Aside0.mk (hp_); clear hg hw hp_) | ((with_reducible refine gate_callee (f := 69) rfl ?_); refine zG (some 23) Try.func69 #[.int .i64 (wrap64 (Ae + 1))] ?_; (with_reducible refine (laws_markText.calls k1 (wrap64 (Ae + 1)) Ah _ A7.out).mono ?_); rintro e As ⟨rfl, hb⟩; refine ⟨_, rfl, ?_⟩; replace Ac := zy Ac hb; replace HK := Aside0.mk (Kept.below (S := (fun k_ => P0_ k_)) (by repeat (first | (with_reducible first | exact HK.out | apply Kept.alloc | apply Kept.drewN | apply Kept.drew) | exact HK.out)) hb); replace HB := zs HB hb; clear hb; have p8 : 0 ≤ (Aa : Int) := of_decide_eq_true za; have q8 : (Aa : Int) < ((Ab.length : Int) : Int) := of_decide_eq_true za; obtain ⟨ce8, Bs, Bz, Ba, Ax⟩ := Kd.R_elem Ac.out z45 (Aa : Int) p8 q8; obtain rfl := k45_openM Bz; have hx8_0 : As.cell? ⟨Af, (Aa : Int).toNat * 3, none⟩ = some (.string ((rd_T45 Ag Aa).f0)) := Ba 0 _ rfl; have hx8_1 : As.cell? ⟨Af, (Aa : Int).toNat * 3 + 1, none⟩ = some (.string ((rd_T45 Ag Aa).f1)) := Ba 1 _ rfl; have hx8_2 : As.cell? ⟨Af, (Aa : Int).toNat * 3 + 2, none⟩ = some (.int .i64 ((rd_T45 Ag Aa).f2)) := Ba 2 _ rfl; have hf8_0 : As.frozen? ⟨Af, (Aa : Int).toNat * 3, none⟩ = false := Ax 0; have hf8_1 : As.frozen? ⟨Af, (Aa : Int).toNat * 3 + 1, none⟩ = false := Ax 1; have hf8_2 : As.frozen? ⟨Af, (Aa : Int).toNat * 3 + 2, none⟩ = false := Ax 2; clear Bs Ba Ax Bz; replace p8 := eq_true p8; replace q8 := eq_true q8; have HX15 := Aside0.mk (show Kd.R k45 45 As w0.heap.size (fun k_ => (P0_ k_ ∨ w.heap.size ≤ k_)) (.slice (some ⟨Af, 0, none⟩) Ab.length Am) Ag from (zo Ac.out)); obtain ⟨ce15, Bg, Bn, Aq, Bd⟩ := Kd.R_elem HX15.out z45 (Aa : Int) (of_decide_eq_true za) (by have h_ : (Aa : Int) < ((Ab.length : Int) : Int) := of_decide_eq_true za; first | exact h_ | (have e_ := (Kd.R_reads' Ac.out).1; omega) | simpa using h_); obtain rfl := k45_openM Bn; have HP15 := Kd.R_seg HX15.out (Aa : Int) (of_decide_eq_true za) (by have h_ : (Aa : Int) < ((Ab.length : Int) : Int) := of_decide_eq_true za; first | exact h_ | (have e_ := (Kd.R_reads' Ac.out).1; omega) | simpa using h_) (seg := [.string Ah]) (j := 1) Bg Aq (show 2 ≤ 3 from by decide) (x' := (⟨(rd_T45 Ag Aa).f0, Ah, (rd_T45 Ag Aa).f2⟩ : S45)) (k45_mkM _ _ _ (⟨(rd_T45 Ag Aa).f0, Ah, (rd_T45 Ag Aa).f2⟩ : S45) ) (fun _ hk => hk); have Bk := Aq 1 _ rfl; (try simp only [show (k45).sz = 3 from rfl, Nat.mul_one, Nat.add_zero] at Bk); have hf15_1 := Bd 1; (try simp only [show (k45).sz = 3 from rfl, Nat.mul_one, Nat.add_zero] at hf15_1); clear Bg Aq Bd Bn) | ((with_reducible refine gate_store (t := 9) (p := 25) rfl ?_); refine store_event (t := 9) (p := 25) (v := ?vo_w16) (w1 := (As.setCell ⟨Af, (Aa : Int).toNat * 3 + 1, none⟩ (.string Ah))) ?hg ?ho ?hn ?hr ?_; (case ho => rfl); (case hg => rfl); (case hn => rfl); (case hr => first | (go_simp; done) | (go_simp; rfl)); intro Ao hw; have hg : As.grownBy Ao (some Af) := (by rw [hw]; exact HP15.2); have hp_ : Kd.R k45 45 Ao w0.heap.size (fun k_ => (P0_ k_ ∨ w.heap.size ≤ k_)) (.slice (some ⟨Af, 0, none⟩) Ab.length Am) Ad := (by rw [hw, Ny144.out]; exact HP15.1); clear HP15; replace HB := Aside0.mk ((by rw [hw]; exact below_set (HB.out) GB6.out : Below w0.heap.size w0 Ao)); replace HK := Aside0.mk (Kept.of_grown (S := (fun k_ => P0_ k_)) hg (by repeat (first | (with_reducible first | exact HK.out | apply Kept.alloc | apply Kept.drewN | apply Kept.drew) | exact HK.out)) (fun k_ e_ => (Ac.out.1 k_ e_))); replace Ac := Aside0.mk (hp_); clear hg hw hp_; have p9 : 0 ≤ (Aa : Int) := of_decide_eq_true za; have q9 : (Aa : Int) < ((Ab.length : Int) : Int) := of_decide_eq_true za; obtain ⟨ce9, Br, Bx, Az, Aw⟩ := Kd.R_elem Ac.out z45 (Aa : Int) p9 q9; obtain rfl := k45_openM Bx; have hx9_0 : Ao.cell? ⟨Af, (Aa : Int).toNat * 3, none⟩ = some (.string ((rd_T45 Ad Aa).f0)) := Az 0 _ rfl; have hx9_1 : Ao.cell? ⟨Af, (Aa : Int).toNat * 3 + 1, none⟩ = some (.string ((rd_T45 Ad Aa).f1)) := Az 1 _ rfl; have hx9_2 : Ao.cell? ⟨Af, (Aa : Int).toNat * 3 + 2, none⟩ = some (.int .i64 ((rd_T45 Ad Aa).f2)) := Az 2 _ rfl; have hf9_0 : Ao.frozen? ⟨Af, (Aa : Int).toNat * 3, none⟩ = false := Aw 0; have hf9_1 : Ao.frozen? ⟨Af, (Aa : Int).toNat * 3 + 1, none⟩ = false := Aw 1; have hf9_2 : Ao.frozen? ⟨Af, (Aa : Int).toNat * 3 + 2, none⟩ = false := Aw 2; clear Br Az Aw Bx; replace p9 := eq_true p9; replace q9 := eq_true q9; have HX17 := Aside0.mk (show Kd.R k45 45 Ao w0.heap.size (fun k_ => (P0_ k_ ∨ w.heap.size ≤ k_)) (.slice (some ⟨Af, 0, none⟩) Ab.length Am) Ad from (zo Ac.out)); obtain ⟨ce17, Bf, Bm, Ap, Bc⟩ := Kd.R_elem HX17.out z45 (Aa : Int) (of_decide_eq_true za) (by have h_ : (Aa : Int) < ((Ab.length : Int) : Int) := of_decide_eq_true za; first | exact h_ | (have e_ := (Kd.R_reads' Ac.out).1; omega) | simpa using h_); obtain rfl := k45_openM Bm; have HP17 := Kd.R_seg HX17.out (Aa : Int) (of_decide_eq_true za) (by have h_ : (Aa : Int) < ((Ab.length : Int) : Int) := of_decide_eq_true za; first | exact h_ | (have e_ := (Kd.R_reads' Ac.out).1; omega) | simpa using h_) (seg := [.int .i64 (wrap64 ((wrap64 (Ae + 1)) + 1))]) (j := 2) Bf Ap (show 3 ≤ 3 from by decide) (x' := (⟨(rd_T45 Ad Aa).f0, (rd_T45 Ad Aa).f1, wrap64 ((wrap64 (Ae + 1)) + 1)⟩ : S45)) (k45_mkM _ _ _ (⟨(rd_T45 Ad Aa).f0, (rd_T45 Ad Aa).f1, wrap64 ((wrap64 (Ae + 1)) + 1)⟩ : S45) ) (fun _ hk => hk); have Bj := Ap 2 _ rfl; (try simp only [show (k45).sz = 3 from rfl, Nat.mul_one, Nat.add_zero] at Bj); have hf17_2 := Bc 2; (try simp only [show (k45).sz = 3 from rfl, Nat.mul_one, Nat.add_zero] at hf17_2); clear Bf Ap Bc Bm) | ((with_reducible refine gate_store (t := 3) (p := 32) rfl ?_); refine store_event (t := 3) (p := 32) (v := ?vo_w18) (w1 := (Ao.setCell ⟨Af, (Aa : Int).toNat * 3 + 2, none⟩ (.int .i64 (wrap64 ((wrap64 (Ae + 1)) + 1))))) ?hg ?ho ?hn ?hr ?_; (case ho => rfl); (case hg => rfl); (case hn => rfl); (case hr => first | (go_simp; done) | (go_simp; rfl)); intro Bp hw; have hg : Ao.grownBy Bp (some Af) := (by rw [hw]; exact HP17.2); have hp_ : Kd.R k45 45 Bp w0.heap.size (fun k_ => (P0_ k_ ∨ w.heap.size ≤ k_)) (.slice (some ⟨Af, 0, none⟩) Ab.length Am) Bi := (by rw [hw, Ny145.out]; exact HP17.1); clear HP17; replace HB := Aside0.mk ((by rw [hw]; exact below_set (HB.out) GB6.out : Below w0.heap.size w0 Bp)); replace HK := Aside0.mk (Kept.of_grown (S := (fun k_ => P0_ k_)) hg (by repeat (first | (with_reducible first | exact HK.out | apply Kept.alloc | apply Kept.drewN | apply Kept.drew) | exact HK.out)) (fun k_ e_ => (Ac.out.1 k_ e_))); replace Ac := Aside0.mk (hp_); clear hg hw hp_))
     go_roundg k1
     case measure => have := B8.out; omega
     case rel => exact ⟨(Bi), (wrap64 ((wrap64 ((wrap64 (Ae + 1)) + 1)) + 1)), (wrap64 (Aa + 1)), zf, zf, H', ⟨by have := B8.out; omega⟩, ⟨zo Ac.out⟩, ⟨by repeat (first | (with_reducible first | exact HK.out | apply Kept.alloc | apply Kept.drewN | apply Kept.drew) | exact HK.out)⟩, ⟨zw HB⟩⟩
    rw [if_neg c5] at H
    exact absurd H (by simp)
   rw [if_neg c3] at H
   have Bw := decide_eq_false c3
   clear c3
   simp only [Option.some.injEq, Prod.mk.injEq] at H
   obtain ⟨rfl, rfl⟩ := H
   obtain ⟨Ao19, co19, Bu⟩ := Kd.R_slice Ac.out
   subst Bu
   go_wp2
   go_ret
   exact ⟨ze, zo Ac.out, zw HB, by repeat (first | (with_reducible first | exact HK.out | apply Kept.alloc | apply Kept.drewN | apply Kept.drew) | exact HK.out)⟩

/-! ### laws_markDisk: function 31 -/
def laws_markDisk.f (k : Nat) (l0_0 : List (S45)) (a1 : Int) : Option (Int × (List (S45))) := (laws_markFileS.f k l0_0 a1).bind fun bt147 => (some (bt147.1, bt147.2))
theorem laws_markDisk.mono : ∀ a0 a1 k, LeO (laws_markDisk.f k a0 a1) (laws_markDisk.f (k + 1) a0 a1) := by
 intro a0 a1 k
 unfold laws_markDisk.f
 repeat' first
   | (with_reducible exact laws_markFileS.mono _ _ _)
   | (with_reducible exact LeO.refl _)
   | (with_reducible exact LeO.none _)
   | (with_reducible refine LeO.ite ?_ ?_)
   | (with_reducible refine LeO.bind ?_ (fun _ => ?_))
   | exact laws_markFileS.mono _ _ _
   | exact LeO.none _
   | refine LeO.ite ?_ ?_
   | refine LeO.bind ?_ (fun _ => ?_)
set_option maxHeartbeats 8000000 in
set_option maxRecDepth 100000 in
theorem laws_markDisk.calls (k : Nat) (P0_0_ : Nat → Prop) (u9000_ : Value) (l0_0 : List (S45)) (a1 : Int) (r1 : Int) (r2 : List (S45)) (w0 w : World) (hB : Below w0.heap.size w0 w) (ho0_0 : Kd.R k45 45 w w0.heap.size P0_0_ u9000_ l0_0) (h : laws_markDisk.f k l0_0 a1 = some (r1, r2)) :
  Calls Try.prog 31 #[.agg #[u9000_], .int .i64 a1] w fun e w' => e = .returned (.int .i64 r1) ∧ Kd.R k45 45 w' w0.heap.size (fun k_ => (P0_0_ k_ ∨ w.heap.size ≤ k_)) u9000_ r2 ∧ Below w0.heap.size w0 w' ∧ Kept w w' (fun k_ => P0_0_ k_) := by
 have hu29 := Try.underlying29
 have Aa := Aside0.mk (show Kd.R k45 45 w w0.heap.size (fun k_ => (P0_0_ k_ ∨ w.heap.size ≤ k_)) u9000_ l0_0 from Kd.R_mono ho0_0 (fun k_ hk => (.inl hk)))
 have HK := Aside0.mk (Kept.refl w (fun k_ => P0_0_ k_))
 have HW0 := Aside0.mk hB.size
 have HB := Aside0.mk hB
 clear hB
 have H : ((laws_markFileS.f k l0_0 a1).bind fun Ad => (some (Ad.1, Ad.2))) = some (r1, r2) := h
 clear h
 replace H := Option.bind_eq_some_iff.mp H
 obtain ⟨⟨Ag, Af⟩, Ak, H⟩ := H
 replace H : (some (Ag, Af)) = some (r1, r2) := H
 have A3 := Aside0.mk Ak
 clear Ak
 simp only [Option.some.injEq, Prod.mk.injEq] at H
 obtain ⟨rfl, rfl⟩ := H
 obtain ⟨Ai, Ah, Al⟩ := Kd.R_slice Aa.out
 subst Al
 go_enter Try.func31, Try.ntmps31
 go_wp2_with (first | ((with_reducible refine gate_dst (N := 2) rfl ?_); refine zx (N := 2) (cs := #[.slice Ai l0_0.length Ah]) (t := 29) ?_; intro Ac hg w5 hbox hb; replace Aa := zy Aa hb; have Ab := Aside0.mk (hbox); have Ae := Aside0.mk ((by rw [hg]; exact (by first | exact HK.out.1 | exact (show Kept w _ (fun k_ => P0_0_ k_) from by repeat (first | (with_reducible first | exact HK.out | apply Kept.alloc | apply Kept.drewN | apply Kept.drew) | exact HK.out)).1) : w.heap.size ≤ Ac)); replace HK := Aside0.mk (Kept.below (S := (fun k_ => P0_0_ k_)) (by repeat (first | (with_reducible first | exact HK.out | apply Kept.alloc | apply Kept.drewN | apply Kept.drew) | exact HK.out)) hb); have GE146 := Aside0.mk ((by rw [hg]; exact (below_size (zw HB)) : w0.heap.size ≤ Ac)); replace HB := zs HB hb; clear hb hbox hg; obtain ⟨_, _⟩ := zc1 Ab) | ((with_reducible refine gate_callee (f := 62) rfl ?_); refine zG (some 8) Try.func62 #[.slice Ai l0_0.length Ah, .int .i64 a1] ?_; (with_reducible refine (laws_markFileS.calls k (fun k_ => some k_ = (.slice Ai l0_0.length Ah : Value).ownBlock) (.slice Ai l0_0.length Ah) l0_0 a1 Ag Af w0 _ ?side1 ?side2 A3.out).mono ?_); (case side1 => exact zw HB); (case side2 => exact Kd.R_tight rfl Aa.out); rintro e w7 ⟨rfl, Aj, hb, hkp⟩; refine ⟨_, rfl, ?_⟩; replace Ab := Aside0.mk (blk_kept (zk Ab) hkp (fun hs_ => (fun e_ => (Kd.R_ne Aa.out Ab.out (by decide)) e_) hs_)); replace HK := Aside0.mk (Kept.then_ (S := (fun k_ => P0_0_ k_)) (by repeat (first | (with_reducible first | exact HK.out | apply Kept.alloc | apply Kept.drewN | apply Kept.drew | refine Kept.setCell ?_ (.inr Ae.out) _) | exact HK.out)) hkp (fun k_ hs_ => (fun e_ => (Aa.out.1 k_ e_.symm)) hs_)); replace Aa := Aside0.mk (Kd.R_reok rfl Aj (fun k_ e_ => Aa.out.1 k_ e_)); replace HB := Aside0.mk (hb); (try clear hb); (try clear hkp); (try clear Aj)))
 go_ret
 exact ⟨ze, zo Aa.out, zw HB, by repeat (first | (with_reducible first | exact HK.out | apply Kept.alloc | apply Kept.drewN | apply Kept.drew | refine Kept.setCell ?_ (.inr Ae.out) _) | exact HK.out)⟩

/-! ### laws_markIntS: function 32 -/
def laws_markIntS.l0 : Nat → List Int → Int → Int → Option (Int × List Int)
 | 0, _, _, _ => none
 | k + 1, x0, x1, x5 => if x5 < (x0.length : Int) then (if 0 ≤ x5 then (laws_markIntS.l0 k (x0.set (x5 : Int).toNat x1) (wrap64 (x1 + 1)) (wrap64 (x5 + 1))) else (none)) else (some (x1, x0))
def laws_markIntS.f (k : Nat) (l0 : List Int) (a1 : Int) : Option (Int × List Int) := laws_markIntS.l0 k l0 a1 0
theorem laws_markIntS.mono_l : ∀ k, (∀ y0 y1 y2, LeO (laws_markIntS.l0 k y0 y1 y2) (laws_markIntS.l0 (k + 1) y0 y1 y2))
 | 0 => fun _ _ _ r h => by simp [laws_markIntS.l0] at h
 | k + 1 => by
  have ih0 := laws_markIntS.mono_l k
  intro y0 y1 y2
  unfold laws_markIntS.l0
  repeat' first
  | (with_reducible exact ih0 _ _ _)
  | (with_reducible exact LeO.refl _)
  | (with_reducible exact LeO.none _)
  | (with_reducible refine LeO.ite ?_ ?_)
  | (with_reducible refine LeO.bind ?_ (fun _ => ?_))
  | exact ih0 _ _ _
  | exact LeO.none _
  | refine LeO.ite ?_ ?_
  | refine LeO.bind ?_ (fun _ => ?_)
theorem laws_markIntS.mono : ∀ a0 a1 k, LeO (laws_markIntS.f k a0 a1) (laws_markIntS.f (k + 1) a0 a1) := by
 intro a0 a1 k
 have ih0 := laws_markIntS.mono_l k
 unfold laws_markIntS.f
 repeat' first
   | (with_reducible exact ih0 _ _ _)
   | (with_reducible exact LeO.refl _)
   | (with_reducible exact LeO.none _)
   | (with_reducible refine LeO.ite ?_ ?_)
   | (with_reducible refine LeO.bind ?_ (fun _ => ?_))
   | exact ih0 _ _ _
   | exact LeO.none _
   | refine LeO.ite ?_ ?_
   | refine LeO.bind ?_ (fun _ => ?_)
set_option maxHeartbeats 8000000 in
set_option maxRecDepth 100000 in
theorem laws_markIntS.calls (k : Nat) (P0_ : Nat → Prop) (u9000_ : Value) (l0 : List Int) (a1 : Int) (r1 : Int) (r2 : List Int) (w0 w : World) (hB : Below w0.heap.size w0 w) (ho0 : Kd.R (Kd.int .i64) 3 w w0.heap.size P0_ u9000_ l0) (h : laws_markIntS.f k l0 a1 = some (r1, r2)) :
  Calls Try.prog 32 #[u9000_, .int .i64 a1] w fun e w' => e = .returned (.int .i64 r1) ∧ Kd.R (Kd.int .i64) 3 w' w0.heap.size (fun k_ => (P0_ k_ ∨ w.heap.size ≤ k_)) u9000_ r2 ∧ Below w0.heap.size w0 w' ∧ Kept w w' (fun k_ => P0_ k_) := by
 have Ap := Aside0.mk (show Kd.R (Kd.int .i64) 3 w w0.heap.size (fun k_ => (P0_ k_ ∨ w.heap.size ≤ k_)) u9000_ l0 from Kd.R_mono ho0 (fun k_ hk => (.inl hk)))
 have HK := Aside0.mk (Kept.refl w (fun k_ => P0_ k_))
 have HW0 := Aside0.mk hB.size
 have HB := Aside0.mk hB
 clear hB
 have H : (laws_markIntS.l0 k l0 a1 0) = some (r1, r2) := h
 clear h
 have H' := Aside0.mk H
 clear H
 go_enter Try.func32, Try.ntmps32
 go_wp2
 go_loopg [1, 5] k (fun kq v1 v5 w' => ∃ (Ae : List Int) (Ac : Int) (Aa : Int), v1 = .int .i64 Ac ∧ v5 = .int .i64 Aa ∧ Aside0 (laws_markIntS.l0 kq Ae Ac Aa = some (r1, r2)) ∧ Aside0 (kq ≤ k) ∧ Aside0 (Kd.R (Kd.int .i64) 3 w' w0.heap.size (fun k_ => (P0_ k_ ∨ w.heap.size ≤ k_)) u9000_ Ae) ∧ Aside0 (Kept w w' (fun k_ => P0_ k_)) ∧ Aside0 (Below w0.heap.size w0 w'))
 case atStart => exact ⟨(l0), (a1), (0), zf, zf, H', ⟨Nat.le_refl _⟩, ⟨zo Ap.out⟩, ⟨by repeat (first | (with_reducible first | exact HK.out | apply Kept.alloc | apply Kept.drewN | apply Kept.drew) | exact HK.out)⟩, ⟨zw HB⟩⟩
 case round =>
  clear H'
  try clear p2
  obtain ⟨Ae, Ac, Aa, rfl, rfl, HA, Ak, Ab, HK, HB⟩ := hrel
  cases gk with
  | zero => exact absurd HA.out (by simp [laws_markIntS.l0])
  | succ k1 =>
   have H := HA.out
   clear HA
   simp only [laws_markIntS.l0] at H
   by_cases c3 : Aa < (Ae.length : Int)
   ·rw [if_pos c3] at H
    have Ah := decide_eq_true c3
    clear c3
    by_cases c4 : 0 ≤ Aa
    ·rw [if_pos c4] at H
     have c4b0 := decide_eq_true c4
     clear c4
     obtain ⟨Af, Ad⟩ : ∃ y_ : List Int, y_ = (Ae.set (Aa : Int).toNat Ac) := ⟨_, rfl⟩
     replace H : (laws_markIntS.l0 k1 Af (wrap64 (Ac + 1)) (wrap64 (Aa + 1))) = some (r1, r2) := by first | (rw [Ad]; with_reducible exact H) | (have H2_ := (Option.bind_some _ _).symm.trans H; rw [Ad]; with_reducible exact H2_) | (have H2_ := (Option.bind_some _ _).symm.trans H; with_reducible exact H2_) | with_reducible exact H | (rw [Ad]; exact H) | exact H
     have Ny149 := Aside0.mk Ad
     clear Ad
     have H' := Aside0.mk H
     clear H
     obtain ⟨Ao6, Ao, Am⟩ := Kd.R_slice Ab.out
     subst Am
     have p5 : 0 ≤ (Aa : Int) := of_decide_eq_true za
     have q5 : (Aa : Int) < ((Ae.length : Int) : Int) := of_decide_eq_true za
     obtain ⟨Ag, co5, Aj, Ai, gl5, cl5, HG5⟩ := Kd.R_form Ab.out (by omega)
     (first | cases Aj | (injection Aj with ea_ en_ ec_; (first | subst ea_ | (injection ea_ with ea_; subst ea_)); subst ec_; clear en_))
     have GB5 := Aside0.mk Ai
     have GG5 := Aside0.mk HG5
     clear Ai gl5 HG5
     have HMgo5 := Aside0.mk (show (P0_ Ag ∨ w.heap.size ≤ Ag) from (Ab.out.1 _ rfl))
     obtain ⟨hx5_0, hf5_0⟩ := Kd.R_celln 0 Ab.out (Aa : Int) p5 q5
     replace p5 := eq_true p5
     replace q5 := eq_true q5
     have HP7 := Kd.R_putg Ab.out (Aa : Int) Ac
     go_wp2_with (first | ((with_reducible refine gate_store (t := 3) (p := 15) rfl ?_); refine store_event (t := 3) (p := 15) (v := ?vo_w8) (w1 := (wr.setCell ⟨Ag, (Aa : Int).toNat, none⟩ (.int .i64 Ac))) ?hg ?ho ?hn ?hr ?_; (case ho => rfl); (case hg => rfl); (case hn => rfl); (case hr => first | (go_simp; done) | (go_simp; rfl)); intro w8 hw; have hg : wr.grownBy w8 (some Ag) := (by rw [hw]; exact HP7.2); have hp_ : Kd.R (Kd.int .i64) 3 w8 w0.heap.size (fun k_ => (P0_ k_ ∨ w.heap.size ≤ k_)) (.slice (some ⟨Ag, 0, none⟩) Ae.length Ao) Af := (by rw [hw, Ny149.out]; exact HP7.1); clear HP7; replace HB := Aside0.mk ((by rw [hw]; exact below_set (HB.out) GB5.out : Below w0.heap.size w0 w8)); replace HK := Aside0.mk (Kept.of_grown (S := (fun k_ => P0_ k_)) hg (by repeat (first | (with_reducible first | exact HK.out | apply Kept.alloc | apply Kept.drewN | apply Kept.drew) | exact HK.out)) (fun k_ e_ => (Ab.out.1 k_ e_))); replace Ab := Aside0.mk (hp_); clear hg hw hp_))
     go_roundg k1
     case measure => have := Ak.out; omega
     case rel => exact ⟨(Af), (wrap64 (Ac + 1)), (wrap64 (Aa + 1)), zf, zf, H', ⟨by have := Ak.out; omega⟩, ⟨zo Ab.out⟩, ⟨by repeat (first | (with_reducible first | exact HK.out | apply Kept.alloc | apply Kept.drewN | apply Kept.drew) | exact HK.out)⟩, ⟨zw HB⟩⟩
    rw [if_neg c4] at H
    exact absurd H (by simp)
   rw [if_neg c3] at H
   have Ah := decide_eq_false c3
   clear c3
   simp only [Option.some.injEq, Prod.mk.injEq] at H
   obtain ⟨rfl, rfl⟩ := H
   obtain ⟨Ao9, co9, Al⟩ := Kd.R_slice Ab.out
   subst Al
   go_wp2
   go_ret
   exact ⟨ze, zo Ab.out, zw HB, by repeat (first | (with_reducible first | exact HK.out | apply Kept.alloc | apply Kept.drewN | apply Kept.drew) | exact HK.out)⟩

end Go.Proofs.Ytdiecogmaiglaaa.PFnExactCutActs
