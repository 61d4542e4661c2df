import Derived.Test.YtdiecogmaiglaaaQFnActsx0
import Derived.Test.YtdiecogmaiglaaaQFnActsx3
import Derived.Test.YtdiecogmaiglaaaQFnActsx4
namespace Go.Proofs.Ytdiecogmaiglaaa.PFnActs
open Go.RowKit Go.Proofs.YtdiecogmaiglaaaW.PrintWords Go.Proofs.YtdiecogmaiglaaaW.PrintLast Go.Proofs.YtdiecogmaiglaaaW.PrintMore
attribute [local go_sem] max2_int min2_int max_two min_two max_three min_three max_four min_four   -- for this text's walks alone
set_option linter.unusedVariables false
set_option linter.unusedSimpArgs false

/-! ### impl_LoseDisk: function 25 -/
def impl_LoseDisk.l0 : Nat → List Int → List (S45) → Int → Int → List (S45) → Option ((List (S45)) × Bool)
 | 0, _, _, _, _, _ => none
 | k + 1, x1, x17, x18, x19, x485000 => if x19 < x18 then (if 0 ≤ x19 then (if x19 < (x17.length : Int) then (if x19 < (x1.length : Int) then (if 0 ≤ (mx ((rd_T45 x17 x19).f2) (mn (rd x1 x19) (((rd_T45 x17 x19).f1).size : Int))) then (if (mx ((rd_T45 x17 x19).f2) (mn (rd x1 x19) (((rd_T45 x17 x19).f1).size : Int))) ≤ (((rd_T45 x17 x19).f1).size : Int) then (if x19 < (x485000.length : Int) then (impl_LoseDisk.l0 k x1 x17 x18 (wrap64 (x19 + 1)) (x485000.set (x19 : Int).toNat (⟨(rd_T45 x17 x19).f0, ((rd_T45 x17 x19).f1).extract 0 ((mx ((rd_T45 x17 x19).f2) (mn (rd x1 x19) (((rd_T45 x17 x19).f1).size : Int))) : Int).toNat, mx ((rd_T45 x17 x19).f2) (mn (rd x1 x19) (((rd_T45 x17 x19).f1).size : Int))⟩ : S45))) else (none)) else (none)) else (none)) else (if 0 ≤ ((rd_T45 x17 x19).f2) then (if ((rd_T45 x17 x19).f2) ≤ (((rd_T45 x17 x19).f1).size : Int) then (if x19 < (x485000.length : Int) then (impl_LoseDisk.l0 k x1 x17 x18 (wrap64 (x19 + 1)) (x485000.set (x19 : Int).toNat (⟨(rd_T45 x17 x19).f0, ((rd_T45 x17 x19).f1).extract 0 (((rd_T45 x17 x19).f2) : Int).toNat, (rd_T45 x17 x19).f2⟩ : S45))) else (none)) else (none)) else (none))) else (none)) else (none)) else (some (x485000, true))
def impl_LoseDisk.f (k : Nat) (l0_0 : List (S45)) (l1 : List Int) : Option ((List (S45)) × Bool) := (impl_DiskOk.f k l0_0).bind fun t480 => (if t480 = true then ((impl_copyDisk.f l0_0).bind fun t481 => (impl_LoseDisk.l0 k l1 l0_0 (l0_0.length : Int) 0 t481)) else (some (([] : List (S45)), false)))
theorem impl_LoseDisk.mono_l : ∀ k, (∀ y0 y1 y2 y3 y4, LeO (impl_LoseDisk.l0 k y0 y1 y2 y3 y4) (impl_LoseDisk.l0 (k + 1) y0 y1 y2 y3 y4))
 | 0 => fun _ _ _ _ _ r h => by simp [impl_LoseDisk.l0] at h
 | k + 1 => by
  have ih0 := impl_LoseDisk.mono_l k
  intro y0 y1 y2 y3 y4
  unfold impl_LoseDisk.l0
  repeat' first
  | (with_reducible exact ih0 _ _ _ _ _)
  | (with_reducible exact impl_DiskOk.mono _ _)
  | (with_reducible exact LeO.refl _)
  | (with_reducible exact LeO.none _)
  | (with_reducible refine LeO.ite ?_ ?_)
  | (with_reducible refine LeO.bind ?_ (fun _ => ?_))
  | exact ih0 _ _ _ _ _
  | exact impl_DiskOk.mono _ _
  | exact LeO.none _
  | refine LeO.ite ?_ ?_
  | refine LeO.bind ?_ (fun _ => ?_)
theorem impl_LoseDisk.mono : ∀ a0 a1 k, LeO (impl_LoseDisk.f k a0 a1) (impl_LoseDisk.f (k + 1) a0 a1) := by
 intro a0 a1 k
 have ih0 := impl_LoseDisk.mono_l k
 unfold impl_LoseDisk.f
 repeat' first
   | (with_reducible exact ih0 _ _ _ _ _)
   | (with_reducible exact impl_DiskOk.mono _ _)
   | (with_reducible exact LeO.refl _)
   | (with_reducible exact LeO.none _)
   | (with_reducible refine LeO.ite ?_ ?_)
   | (with_reducible refine LeO.bind ?_ (fun _ => ?_))
   | exact ih0 _ _ _ _ _
   | exact impl_DiskOk.mono _ _
   | exact LeO.none _
   | refine LeO.ite ?_ ?_
   | refine LeO.bind ?_ (fun _ => ?_)
def impl_LoseDisk.T9 : Bool × List (List Nat × List Nat) := (true, [([], []), ([], []), ([], []), ([1, 2], [1, 2]), ([3], [3]), ([], []), ([5], [5]), ([6], [6]), ([4, 7], [4, 7]), ([0, 8], [0, 8]), ([9, 0, 1, 2, 3, 4, 5, 6, 7, 8, 9], [0, 9])])
def impl_LoseDisk.B9 : List Nat := [0, 0, 0, 6, 14, 0, 32, 96, 254, 511, 1023]
theorem impl_LoseDisk.tab9 : rtab .any (opsOf Try.f25 9) = impl_LoseDisk.T9 := by kernel_rfl
theorem impl_LoseDisk.bits9 : waitsOk impl_LoseDisk.T9.2 impl_LoseDisk.B9 = true := by kernel_rfl
def impl_LoseDisk.T10 : Bool × List (List Nat × List Nat) := (true, [([], []), ([0], [0]), ([], []), ([], []), ([3], [3]), ([], []), ([5], [5]), ([], []), ([6, 7], [6, 7]), ([], []), ([4, 8, 9], [4, 8, 9]), ([1, 2, 0, 1, 2, 3, 4, 5, 6, 7, 8, 9, 10], [1, 2]), ([11, 10, 0, 1, 2, 3, 4, 5, 6, 7, 8, 9, 10], [10, 11])])
def impl_LoseDisk.B10 : List Nat := [0, 1, 0, 0, 8, 0, 32, 0, 224, 0, 1016, 2047, 4095]
theorem impl_LoseDisk.tab10 : rtab .any (opsOf Try.f25 10) = impl_LoseDisk.T10 := by kernel_rfl
theorem impl_LoseDisk.bits10 : waitsOk impl_LoseDisk.T10.2 impl_LoseDisk.B10 = true := by kernel_rfl
abbrev q17_0 := #[o_,o_,o_,o_,o_,o_,o_,o_,o_,o_,o_]
abbrev q17_1 := #[i_,o_,o_,o_,o_,o_,o_,o_,o_,o_,o_]
abbrev q17_2 := #[i_,i_,o_,o_,o_,o_,o_,o_,o_,o_,o_]
abbrev q17_3 := #[i_,i_,i_,o_,o_,o_,o_,o_,o_,o_,o_]
abbrev q17_4 := #[i_,i_,i_,i_,o_,o_,o_,o_,o_,o_,o_]
abbrev q17_5 := #[i_,i_,i_,i_,o_,i_,o_,o_,o_,o_,o_]
abbrev q17_6 := #[i_,i_,i_,i_,i_,i_,o_,o_,o_,o_,o_]
abbrev q17_7 := #[i_,i_,i_,i_,i_,i_,i_,o_,o_,o_,o_]
abbrev q17_8 := #[i_,i_,i_,i_,i_,i_,i_,i_,o_,o_,o_]
abbrev q17_9 := #[i_,i_,i_,i_,i_,i_,i_,i_,i_,o_,o_]
abbrev q17_10 := #[i_,i_,i_,i_,i_,i_,i_,i_,i_,i_,o_]
abbrev q17_11 := #[i_,i_,i_,i_,i_,i_,i_,i_,i_,i_,i_]
abbrev q17_12 := #[o_,o_,o_,o_,o_,o_,o_,o_,o_,o_,o_,o_,o_]
abbrev q17_13 := #[i_,o_,o_,o_,o_,o_,o_,o_,o_,o_,o_,o_,o_]
abbrev q17_14 := #[i_,o_,i_,o_,o_,o_,o_,o_,o_,o_,o_,o_,o_]
abbrev q17_15 := #[i_,o_,i_,i_,o_,o_,o_,o_,o_,o_,o_,o_,o_]
abbrev q17_16 := #[i_,o_,i_,i_,o_,i_,o_,o_,o_,o_,o_,o_,o_]
abbrev q17_17 := #[i_,o_,i_,i_,o_,i_,o_,i_,o_,o_,o_,o_,o_]
abbrev q17_18 := #[i_,o_,i_,i_,o_,i_,o_,i_,o_,i_,o_,o_,o_]
abbrev q17_19 := #[i_,i_,i_,i_,o_,i_,o_,i_,o_,i_,o_,o_,o_]
abbrev q17_20 := #[i_,i_,i_,i_,i_,i_,o_,i_,o_,i_,o_,o_,o_]
abbrev q17_21 := #[i_,i_,i_,i_,i_,i_,i_,i_,o_,i_,o_,o_,o_]
abbrev q17_22 := #[i_,i_,i_,i_,i_,i_,i_,i_,i_,i_,o_,o_,o_]
abbrev q17_23 := #[i_,i_,i_,i_,i_,i_,i_,i_,i_,i_,i_,o_,o_]
abbrev q17_24 := #[i_,i_,i_,i_,i_,i_,i_,i_,i_,i_,i_,i_,o_]
abbrev q17_25 := #[i_,i_,i_,i_,i_,i_,i_,i_,i_,i_,i_,i_,i_]
set_option maxHeartbeats 8000000 in
set_option maxRecDepth 100000 in
theorem impl_LoseDisk.calls (k : Nat) (A0_0 : Option Addr) (c0_0 : Nat) (l0_0 : List (S45)) (A1 : Option Addr) (c1 : Nat) (l1 : List Int) (r1 : List (S45)) (r2 : Bool) (w : World) (hr0_0 : Kd.C k45 w A0_0 l0_0.length l0_0) (hc0_0 : l0_0.length ≤ c0_0) (hr1 : Kd.C (Kd.int .i64) w A1 l1.length l1) (hc1 : l1.length ≤ c1) (h : impl_LoseDisk.f k l0_0 l1 = some (r1, r2)) :
  Calls Try.prog 25 #[.agg #[.slice A0_0 l0_0.length c0_0], .slice A1 l1.length c1] w fun e w' => ∃ v0_ : Value, e = .returned (.tuple #[.agg #[v0_], .bool r2]) ∧ Kd.R k45 45 w' w.heap.size (fun _ => True) v0_ r1 ∧ Below w.heap.size w w' := by
 have hu29 := Try.underlying29
 have hu45 := Try.underlying45
 have HR0_0 := Aside0.mk hr0_0
 have Bs := Aside0.mk hc0_0
 clear hr0_0 hc0_0
 have HR1 := Aside0.mk hr1
 have HC1 := Aside0.mk hc1
 clear hr1 hc1
 have HB := Aside0.mk (Below.refl w.heap.size w)
 have H : ((impl_DiskOk.f k l0_0).bind fun B0 => (if B0 = true then ((impl_copyDisk.f l0_0).bind fun Bp => (impl_LoseDisk.l0 k l1 l0_0 (l0_0.length : Int) 0 Bp)) else (some (([] : List (S45)), false)))) = some (r1, r2) := h
 clear h
 replace H := Option.bind_eq_some_iff.mp H
 obtain ⟨B0, D4, H⟩ := H
 have A3 := Aside0.mk D4
 clear D4
 by_cases c4 : B0 = true
 ·subst c4
  rw [if_pos rfl] at H
  replace H := Option.bind_eq_some_iff.mp H
  obtain ⟨Bp, D3, H⟩ := H
  have A5 := Aside0.mk D3
  clear D3
  have H' := Aside0.mk H
  clear H
  go_enter Try.func25, Try.ntmps25
  go_wp2_with (first | ((with_reducible refine gate_dst (N := 2) rfl ?_); refine zx (N := 2) (cs := #[.slice A0_0 l0_0.length c0_0]) (t := 29) ?_; intro Bz hg w6 hbox hb; have Ad := Aside0.mk (hbox); have Dg := zg HB hg; have Dj := zg HB hg; replace HB := zs HB hb; clear hb hbox hg) | ((with_reducible refine gate_dst (N := 4) rfl ?_); refine zx (N := 4) (cs := #[.slice none 0 0]) (t := 29) ?_; intro Bg hg w7 hbox hb; have Ae := Aside0.mk (hbox); have Df := zg HB hg; have Di := zg HB hg; replace HB := zs HB hb; have Aj := zl Ad hg; have Ai := zr Ad hg; replace Ad := zb Ad hb; clear hb hbox hg; have hnb8 := Aj.out; have hnc8 := Ai.out; obtain ⟨Dy, Dx⟩ := zc1 Ad) | ((with_reducible refine gate_callee (f := 15) rfl ?_); refine zG (some 11) Try.func15 #[.agg #[.slice A0_0 l0_0.length c0_0]] ?_; (with_reducible refine (impl_DiskOk.calls k _ _ l0_0 true _ ?side1 ?side2 A3.out).mono ?_); (case side1 => exact zI (Kd.C_below HR0_0.out HB.out)); (case side2 => exact Bs.out); rintro e w10 ⟨rfl, hb⟩; refine ⟨_, rfl, ?_⟩; replace Ad := zb Ad hb; replace Ae := zb Ae hb; replace HB := zs HB hb; clear hb; obtain ⟨Cp, Cm⟩ := zc1 Ad) | ((with_reducible refine gate_callee (f := 61) rfl ?_); refine zG (some 15) Try.func61 #[.agg #[.slice A0_0 l0_0.length c0_0]] ?_; (with_reducible refine (impl_copyDisk.calls _ _ l0_0 Bp _ ?side1 ?side2 A5.out).mono ?_); (case side1 => exact zI (Kd.C_below HR0_0.out HB.out)); (case side2 => exact Bs.out); rintro e w12 ⟨v482, rfl, D2, hb⟩; refine ⟨_, rfl, ?_⟩; have Bo := Aside0.mk (Kd.R_lower D2 (below_size (zw HB))); replace Ad := zb Ad hb; replace Ae := zb Ae hb; replace HB := zs HB hb; clear D2 hb) | ((with_reducible refine gate_dst (N := 6) rfl ?_); refine zx (N := 6) (cs := #[.slice none 0 0]) (t := 29) ?_; intro Bn hg w13 hbox hb; replace Bo := zy Bo hb; have Af := Aside0.mk (hbox); have GW484 := zg HB hg; have GE484 := zg HB hg; replace HB := zs HB hb; have Bc := zl Ad hg; have Ba := zr Ad hg; replace Ad := zb Ad hb; have Bb := zl Ae hg; have Az := zr Ae hg; replace Ae := zb Ae hb; clear hb hbox hg; obtain ⟨Dl, C5, D0⟩ := Kd.R_slice Bo.out; subst D0; have hnb15 := Ba.out; have hnc15 := Bc.out; have hnb16 := Az.out; have hnc16 := Bb.out; obtain ⟨Co, Cl⟩ := zc1 Af; obtain ⟨Cn, Ck⟩ := zc1 Ad))
  go_loopg [19] k (fun kq D8 w' => ∃ (Aa : Int) (Ac : List (S45)) (Al : Value), D8 = .int .i64 Aa ∧ Aside0 (impl_LoseDisk.l0 kq l1 l0_0 (l0_0.length : Int) Aa Ac = some (r1, r2)) ∧ Aside0 (kq ≤ k) ∧ Aside0 (Kd.R k45 45 w' w.heap.size (fun _ => True) Al Ac) ∧ Aside0 (w'.heap[Bz]? = some (.cells #[(.slice A0_0 l0_0.length c0_0)] 29 (0, 0))) ∧ Aside0 (w'.heap[Bg]? = some (.cells #[(.slice none 0 0)] 29 (0, 0))) ∧ Aside0 (w'.heap[Bn]? = some (.cells #[Al] 29 (0, 0))) ∧ Aside0 (Below w.heap.size w w'))
  case atStart => exact ⟨(0), (Bp), (.slice Dl Bp.length C5), zf, H', ⟨Nat.le_refl _⟩, ⟨zo (Kd.R_mono (Kd.R_far (p := ⟨Bn, 0, none⟩) (Kd.R_types Bo.out Af.out (by decide)) (fun _ hk => hk.2) (.slice Dl Bp.length C5)) (fun _ hk => trivial))⟩, ⟨zkf Ad⟩, ⟨zkf Ae⟩, ⟨zj Af⟩, ⟨zw HB⟩⟩
  case round =>
   clear H'
   try clear c1
   try clear c2
   try clear p2
   try clear c4
   try clear c6
   try clear c8
   try clear c15
   try clear c16
   try clear Cp
   try clear Co
   try clear Cn
   try clear Dy
   try clear Cm
   try clear Cl
   try clear Ck
   try clear Dx
   obtain ⟨Aa, Ac, Al, rfl, HA, Dq, Ab, Ad, Ae, Af, HB⟩ := hrel
   cases gk with
   | zero => exact absurd HA.out (by simp [impl_LoseDisk.l0])
   | succ k1 =>
    have H := HA.out
    clear HA
    simp only [impl_LoseDisk.l0] at H
    by_cases Ch : Aa < (l0_0.length : Int)
    ·rw [if_pos Ch] at H
     have Db := decide_eq_true Ch
     clear Ch
     by_cases Dp : 0 ≤ Aa
     ·rw [if_pos Dp] at H
      have c20b0 := decide_eq_true Dp
      clear Dp
      by_cases Do : Aa < (l0_0.length : Int)
      ·rw [if_pos Do] at H
       have c21b0 := decide_eq_true Do
       clear Do
       by_cases Cg : Aa < (l1.length : Int)
       ·rw [if_pos Cg] at H
        have Da := decide_eq_true Cg
        clear Cg
        obtain ⟨Bd, hji23⟩ : ∃ j_ : Int, (mn (rd l1 Aa) (((rd_T45 l0_0 Aa).f1).size : Int)) = j_ := ⟨_, rfl⟩
        replace H : (if 0 ≤ (mx ((rd_T45 l0_0 Aa).f2) (Bd)) then (if (mx ((rd_T45 l0_0 Aa).f2) (Bd)) ≤ (((rd_T45 l0_0 Aa).f1).size : Int) then (if Aa < (Ac.length : Int) then (impl_LoseDisk.l0 k1 l1 l0_0 (l0_0.length : Int) (wrap64 (Aa + 1)) (Ac.set (Aa : Int).toNat (⟨(rd_T45 l0_0 Aa).f0, ((rd_T45 l0_0 Aa).f1).extract 0 ((mx ((rd_T45 l0_0 Aa).f2) (Bd)) : Int).toNat, mx ((rd_T45 l0_0 Aa).f2) (Bd)⟩ : S45))) else (none)) else (none)) else (none)) = some (r1, r2) := by first | (rw [hji23] at H; exact H) | (simp only [hji23] at H ⊢; exact H)
        have hji23_ : (if (((rd_T45 l0_0 Aa).f1).size : Int) < (rd l1 Aa) then (((rd_T45 l0_0 Aa).f1).size : Int) else (rd l1 Aa)) = Bd := hji23
        obtain ⟨Ak, hji24⟩ : ∃ j_ : Int, (mx ((rd_T45 l0_0 Aa).f2) (Bd)) = j_ := ⟨_, rfl⟩
        replace H : (if 0 ≤ (Ak) then (if (Ak) ≤ (((rd_T45 l0_0 Aa).f1).size : Int) then (if Aa < (Ac.length : Int) then (impl_LoseDisk.l0 k1 l1 l0_0 (l0_0.length : Int) (wrap64 (Aa + 1)) (Ac.set (Aa : Int).toNat (⟨(rd_T45 l0_0 Aa).f0, ((rd_T45 l0_0 Aa).f1).extract 0 ((Ak) : Int).toNat, Ak⟩ : S45))) else (none)) else (none)) else (none)) = some (r1, r2) := by first | (rw [hji24] at H; exact H) | (simp only [hji24] at H ⊢; exact H)
        have hji24_ : (if ((rd_T45 l0_0 Aa).f2) < (Bd) then (Bd) else ((rd_T45 l0_0 Aa).f2)) = Ak := hji24
        by_cases C9 : 0 ≤ (Ak)
        ·rw [if_pos C9] at H
         have c25b0 := eq_true C9
         have c25b1 := decide_eq_true C9
         clear C9
         by_cases C8 : (Ak) ≤ (((rd_T45 l0_0 Aa).f1).size : Int)
         ·rw [if_pos C8] at H
          have c26b0 := eq_true C8
          have c26b1 := decide_eq_true C8
          clear C8
          by_cases Dn : Aa < (Ac.length : Int)
          ·rw [if_pos Dn] at H
           have c27b0 := decide_eq_true Dn
           clear Dn
           obtain ⟨Cj, Br⟩ : ∃ y_ : List (S45), y_ = (Ac.set (Aa : Int).toNat (⟨(rd_T45 l0_0 Aa).f0, ((rd_T45 l0_0 Aa).f1).extract 0 ((Ak) : Int).toNat, Ak⟩ : S45)) := ⟨_, rfl⟩
           replace H : (impl_LoseDisk.l0 k1 l1 l0_0 (l0_0.length : Int) (wrap64 (Aa + 1)) Cj) = some (r1, r2) := zrw Br H
           have Ny488 := Aside0.mk Br
           clear Br
           have H' := Aside0.mk H
           clear H
           have Bi : 0 ≤ (Aa : Int) := of_decide_eq_true za
           have Bh : Aa < (l0_0.length : Int) := of_decide_eq_true za
           obtain ⟨Dd, Cf, Ap, Ao, Am⟩ := at_T45 HR0_0.out Aa Bi Bh
           cases Cf
           replace Ap := zU HB.out Ap
           replace Ao := zU HB.out Ao
           replace Am := zU HB.out Am
           replace Bi := eq_true Bi
           replace Bh := eq_true Bh
           try go_wp2_with (first | ((with_reducible refine gate_dst (N := 8) rfl ?_); refine zx (N := 8) (cs := #[.string (⟨#[]⟩ : ByteArray), .string (⟨#[]⟩ : ByteArray), .int .i64 0]) (t := 45) ?_; intro Ag hg D7 hbox hb; replace Ab := Aside0.mk (Kd.R_below (Kd.R_elderB (zo Ab.out) Ag (Nat.le_of_eq hg.symm)) hb); have Ah := Aside0.mk (hbox); have De := zg HB hg; have Dh := zg HB hg; replace HB := zs HB hb; have Ax := zl Ad hg; have As := zr Ad hg; replace Ad := zb Ad hb; have Aw := zl Ae hg; have Ar := zr Ae hg; replace Ae := zb Ae hb; have Au := zl Af hg; have Aq := zr Af hg; replace Af := zb Af hb; clear hb hbox hg; have hnb30 := As.out; have hnc30 := Ax.out; have hnb31 := Ar.out; have hnc31 := Aw.out; have hnb32 := Aq.out; have hnc32 := Au.out; obtain ⟨_, _, _, _, _, _⟩ := zc3 Ah))
           obtain ⟨Ds, hq_⟩ : ∃ v_, ((D7.setCell ⟨Ag, 0, none⟩ (.string ((rd_T45 l0_0 Aa).f0))).setCell ⟨Ag, 1, none⟩ (.string ((rd_T45 l0_0 Aa).f1))).setCell ⟨Ag, 2, none⟩ (.int .i64 ((rd_T45 l0_0 Aa).f2)) = v_ := ⟨_, rfl⟩
           replace Ab : Aside0 (Kd.R k45 45 Ds w.heap.size (fun k_ => k_ ≠ Ag) Al Ac) := ⟨hq_ ▸ (zo (Kd.R_mono (Kd.R_far (p := ⟨Ag, 2, none⟩) (Kd.R_far (p := ⟨Ag, 1, none⟩) (Kd.R_far (p := ⟨Ag, 0, none⟩) (Kd.R_mono Ab.out (fun k_ hk => (⟨hk, hk.2⟩ : _ ∧ k_ ≠ Ag))) (fun _ hk => hk.2) (.string ((rd_T45 l0_0 Aa).f0))) (fun _ hk => hk.2) (.string ((rd_T45 l0_0 Aa).f1))) (fun _ hk => hk.2) (.int .i64 ((rd_T45 l0_0 Aa).f2))) (fun _ hk => hk.1.2)))⟩
           replace Ad := zjq hq_ Ad
           replace Ae := zjq hq_ Ae
           replace Af := zjq hq_ Af
           replace Ah : Aside0 (Ds.heap[Ag]? = some (.cells #[.string ((rd_T45 l0_0 Aa).f0), .string ((rd_T45 l0_0 Aa).f1), .int .i64 ((rd_T45 l0_0 Aa).f2)] 45 (0, 0))) := ⟨hq_ ▸ (zj Ah)⟩
           replace HB := zwq hq_ HB
           (try rw [hq_])
           clear hq_
           replace Ab := zd3 Ab
           replace Ad := zd1 Ad
           replace Ae := zd1 Ae
           replace Af := zd1 Af
           replace Ah := zd1 Ah
           replace HB := zd2 HB
           have B2 : 0 ≤ (Aa : Int) := of_decide_eq_true za
           have B1 : Aa < (l1.length : Int) := of_decide_eq_true za
           obtain ⟨Dc, D1, Ay⟩ := Kd.at_int HR1.out Aa B2 B1
           have Bt := Ay
           cases D1
           replace Ay := zU HB.out Ay
           replace B2 := eq_true B2
           replace B1 := eq_true B1
           refine start_ (n := 11) (S := fun w' => w'.cell? ⟨Ag, 0, none⟩ = some (.string ((rd_T45 l0_0 Aa).f0)) ∧ w'.cell? ⟨Ag, 1, none⟩ = some (.string ((rd_T45 l0_0 Aa).f1)) ∧ w'.cell? ⟨Ag, 2, none⟩ = some (.int .i64 ((rd_T45 l0_0 Aa).f2)) ∧ w'.cell? (Dc.add (Aa).toNat) = some (.int .i64 (rd l1 Aa))) (ds := []) q17_0 (by kernel_rfl) rfl rfl ⟨zv Ah, zv Ah, zv Ah, (zU HB.out Bt)⟩ (fun hHeld => ?_); refine with_tabW impl_LoseDisk.tab9 impl_LoseDisk.bits9 (fun HT_ HW_ => ?_)
           generalize Ds.drew = D6 at Ab Ad Ae Af Ah HB Ay hHeld ⊢
           refine zP 0 (some 30) q17_1 HT_ ?_
           refine zP 1 (some 31) q17_2 HT_ ?_
           refine zP 2 (some 32) q17_3 HT_ ?_
           refine zP 3 (some 33) q17_4 HT_ ?_
           refine zP 5 (some 35) q17_5 HT_ ?_
           refine zT 4 (some 34) q17_6 HT_ HW_ hHeld ?_
           refine zT 6 (some 36) q17_7 HT_ HW_ hHeld ?_
           refine zP 7 (some 37) q17_8 HT_ ?_
           refine zP 8 (some 38) q17_9 HT_ ?_
           refine zP 9 (some 39) q17_10 HT_ ?_
           refine zP 10 (some 9) q17_11 HT_ ?_
           refine done_ (done_of HT_.out (by kernel_rfl)) ?_
           try go_wp2
           replace Ab := zd3 Ab
           replace Ad := zd1 Ad
           replace Ae := zd1 Ae
           replace Af := zd1 Af
           replace Ah := zd1 Ah
           replace HB := zd2 HB
           have Dw : 0 ≤ (Aa : Int) := of_decide_eq_true za
           have Du : (Aa : Int) < ((Ac.length : Int) : Int) := of_decide_eq_true za
           obtain ⟨Bf, C4, C1, Cz, gl28, cl28, HG28⟩ := Kd.R_form Ab.out (by omega)
           (first | cases C1 | (injection C1 with ea_ en_ ec_; (first | subst ea_ | (injection ea_ with ea_; subst ea_)); subst ec_; clear en_))
           have GB28 := Aside0.mk Cz
           have GG28 := Aside0.mk HG28
           clear Cz gl28 HG28
           obtain ⟨ce28, Ct, Cx, Bm, Bk⟩ := Kd.R_elem Ab.out z45 (Aa : Int) Dw Du
           obtain rfl := k45_openM Cx
           have Ce : World.cell? _ ⟨Bf, (Aa : Int).toNat * 3, none⟩ = some (.string ((rd_T45 Ac Aa).f0)) := Bm 0 _ rfl
           have Cd : World.cell? _ ⟨Bf, (Aa : Int).toNat * 3 + 1, none⟩ = some (.string ((rd_T45 Ac Aa).f1)) := Bm 1 _ rfl
           have Cc : World.cell? _ ⟨Bf, (Aa : Int).toNat * 3 + 2, none⟩ = some (.int .i64 ((rd_T45 Ac Aa).f2)) := Bm 2 _ rfl
           have hf28_0 : World.frozen? _ ⟨Bf, (Aa : Int).toNat * 3, none⟩ = false := Bk 0
           have hf28_1 : World.frozen? _ ⟨Bf, (Aa : Int).toNat * 3 + 1, none⟩ = false := Bk 1
           have hf28_2 : World.frozen? _ ⟨Bf, (Aa : Int).toNat * 3 + 2, none⟩ = false := Bk 2
           clear Ct Bm Bk Cx
           replace Dw := eq_true Dw
           replace Du := eq_true Du
           obtain ⟨ce37, Bv, Cw, Bx, Cr⟩ := Kd.R_elem Ab.out z45 (Aa : Int) (of_decide_eq_true za) (by have h_ : (Aa : Int) < ((Ac.length : Int) : Int) := of_decide_eq_true za; first | exact h_ | (have e_ := (Kd.R_reads' Ab.out).1; omega) | simpa using h_)
           obtain rfl := k45_openM Cw
           have HP37 := (Kd.R_seg Ab.out (Aa : Int) (of_decide_eq_true za) (by have h_ : (Aa : Int) < ((Ac.length : Int) : Int) := of_decide_eq_true za; first | exact h_ | (have e_ := (Kd.R_reads' Ab.out).1; omega) | simpa using h_) (seg := [.string ((rd_T45 l0_0 Aa).f0), .string (((rd_T45 l0_0 Aa).f1).extract 0 ((Ak) : Int).toNat), .int .i64 Ak]) (j := 0) Bv Bx (show 3 ≤ 3 from by decide) (x' := (⟨(rd_T45 l0_0 Aa).f0, ((rd_T45 l0_0 Aa).f1).extract 0 ((Ak) : Int).toNat, Ak⟩ : S45)) (k45_mkM _ _ _ (⟨(rd_T45 l0_0 Aa).f0, ((rd_T45 l0_0 Aa).f1).extract 0 ((Ak) : Int).toNat, Ak⟩ : S45) ) (fun _ hk => hk)).1
           rw [← Ny488.out] at HP37
           have HQ37 := Aside0.mk HP37
           clear Bv Bx Cr Cw HP37
           refine start_ (n := 13) (S := fun w' => w'.cell? ⟨Bn, 0, none⟩ = some (.slice (some ⟨Bf, 0, none⟩) Ac.length C4) ∧ w'.cell? ⟨Ag, 0, none⟩ = some (.string ((rd_T45 l0_0 Aa).f0)) ∧ w'.cell? ⟨Ag, 1, none⟩ = some (.string ((rd_T45 l0_0 Aa).f1)) ∧ w'.cell? ⟨Ag, 2, none⟩ = some (.int .i64 ((rd_T45 l0_0 Aa).f2))) (ds := [12]) q17_12 (by kernel_rfl) rfl rfl ⟨zv Af, zv Ah, zv Ah, zv Ah⟩ (fun hHeld => ?_); refine with_tabW impl_LoseDisk.tab10 impl_LoseDisk.bits10 (fun HT_ HW_ => ?_)
           generalize D6.drew = w36 at Ab Ad Ae Af Ah HB GG28 HQ37 hf28_0 hf28_1 hf28_2 Ce Cd Cc hHeld ⊢
           refine zP 0 (some 40) q17_13 HT_ ?_
           refine zP 2 (some 42) q17_14 HT_ ?_
           refine zP 3 (some 43) q17_15 HT_ ?_
           refine zP 5 (some 45) q17_16 HT_ ?_
           refine zP 7 (some 47) q17_17 HT_ ?_
           refine zP 9 (some 49) q17_18 HT_ ?_
           refine zT 1 (some 41) q17_19 HT_ HW_ hHeld ?_
           refine zT 4 (some 44) q17_20 HT_ HW_ hHeld ?_
           refine zT 6 (some 46) q17_21 HT_ HW_ hHeld ?_
           refine zP 8 (some 48) q17_22 HT_ ?_
           refine zP 10 (some 50) q17_23 HT_ ?_
           refine zP 11 (some 51) q17_24 HT_ ?_
           refine last_ (i := 12) (N := none) q17_25 rfl rfl (one_of HT_.out (by kernel_rfl)) (by decide) (fun K hK => ?_)
           refine skip_ (w1 := ?_) (by rfl) rfl ?_ ?_
           rotate_left
           ·go_simp
            rfl
           refine hK.out _ _ ?_
           clear hK K
           refine done_ (done_of HT_.out (by kernel_rfl)) ?_
           try go_wp2
           go_roundg k1
           case measure => have := Dq.out; omega
           case rel => exact ⟨(wrap64 (Aa + 1)), (Cj), (.slice (some ⟨Bf, 0, none⟩) Ac.length C4), zf, H', ⟨by have := Dq.out; omega⟩, ⟨zo (Kd.R_mono HQ37.out (fun _ hk => trivial))⟩, ⟨by (with_reducible repeat (first | refine blk_drewN ?_ _ | refine blk_drew ?_ | refine blk_alloc ?_ _)); refine blk_far ?_ (by have h_ := Kd.R_ne Ab.out Ad.out (by decide); intro e_; exact h_ (by rw [e_]; rfl)) _; (with_reducible repeat (first | refine blk_drewN ?_ _ | refine blk_drew ?_ | refine blk_alloc ?_ _)); refine blk_far ?_ (by have h_ := Kd.R_ne Ab.out Ad.out (by decide); intro e_; exact h_ (by rw [e_]; rfl)) _; (with_reducible repeat (first | refine blk_drewN ?_ _ | refine blk_drew ?_ | refine blk_alloc ?_ _)); refine blk_far ?_ (by have h_ := Kd.R_ne Ab.out Ad.out (by decide); intro e_; exact h_ (by rw [e_]; rfl)) _; (with_reducible repeat (first | refine blk_drewN ?_ _ | refine blk_drew ?_ | refine blk_alloc ?_ _)); exact Ad.out⟩, ⟨by (with_reducible repeat (first | refine blk_drewN ?_ _ | refine blk_drew ?_ | refine blk_alloc ?_ _)); refine blk_far ?_ (by have h_ := Kd.R_ne Ab.out Ae.out (by decide); intro e_; exact h_ (by rw [e_]; rfl)) _; (with_reducible repeat (first | refine blk_drewN ?_ _ | refine blk_drew ?_ | refine blk_alloc ?_ _)); refine blk_far ?_ (by have h_ := Kd.R_ne Ab.out Ae.out (by decide); intro e_; exact h_ (by rw [e_]; rfl)) _; (with_reducible repeat (first | refine blk_drewN ?_ _ | refine blk_drew ?_ | refine blk_alloc ?_ _)); refine blk_far ?_ (by have h_ := Kd.R_ne Ab.out Ae.out (by decide); intro e_; exact h_ (by rw [e_]; rfl)) _; (with_reducible repeat (first | refine blk_drewN ?_ _ | refine blk_drew ?_ | refine blk_alloc ?_ _)); exact Ae.out⟩, ⟨by (with_reducible repeat (first | refine blk_drewN ?_ _ | refine blk_drew ?_ | refine blk_alloc ?_ _)); refine blk_far ?_ (by have h_ := Kd.R_ne Ab.out Af.out (by decide); intro e_; exact h_ (by rw [e_]; rfl)) _; (with_reducible repeat (first | refine blk_drewN ?_ _ | refine blk_drew ?_ | refine blk_alloc ?_ _)); refine blk_far ?_ (by have h_ := Kd.R_ne Ab.out Af.out (by decide); intro e_; exact h_ (by rw [e_]; rfl)) _; (with_reducible repeat (first | refine blk_drewN ?_ _ | refine blk_drew ?_ | refine blk_alloc ?_ _)); refine blk_far ?_ (by have h_ := Kd.R_ne Ab.out Af.out (by decide); intro e_; exact h_ (by rw [e_]; rfl)) _; (with_reducible repeat (first | refine blk_drewN ?_ _ | refine blk_drew ?_ | refine blk_alloc ?_ _)); exact Af.out⟩, ⟨zw HB⟩⟩
          rw [if_neg Dn] at H
          exact absurd H (by simp)
         rw [if_neg C8] at H
         exact absurd H (by simp)
        rw [if_neg C9] at H
        exact absurd H (by simp)
       rw [if_neg Cg] at H
       have Da := decide_eq_false Cg
       clear Cg
       by_cases C7 : 0 ≤ ((rd_T45 l0_0 Aa).f2)
       ·rw [if_pos C7] at H
        have c38b0 := eq_true C7
        have c38b1 := decide_eq_true C7
        clear C7
        by_cases C6 : ((rd_T45 l0_0 Aa).f2) ≤ (((rd_T45 l0_0 Aa).f1).size : Int)
        ·rw [if_pos C6] at H
         have c39b0 := eq_true C6
         have c39b1 := decide_eq_true C6
         clear C6
         by_cases Dm : Aa < (Ac.length : Int)
         ·rw [if_pos Dm] at H
          have c40b0 := decide_eq_true Dm
          clear Dm
          obtain ⟨Ci, Bq⟩ : ∃ y_ : List (S45), y_ = (Ac.set (Aa : Int).toNat (⟨(rd_T45 l0_0 Aa).f0, ((rd_T45 l0_0 Aa).f1).extract 0 (((rd_T45 l0_0 Aa).f2) : Int).toNat, (rd_T45 l0_0 Aa).f2⟩ : S45)) := ⟨_, rfl⟩
          replace H : (impl_LoseDisk.l0 k1 l1 l0_0 (l0_0.length : Int) (wrap64 (Aa + 1)) Ci) = some (r1, r2) := zrw Bq H
          have Ny489 := Aside0.mk Bq
          clear Bq
          have H' := Aside0.mk H
          clear H
          have Bi : 0 ≤ (Aa : Int) := of_decide_eq_true za
          have Bh : Aa < (l0_0.length : Int) := of_decide_eq_true za
          obtain ⟨Dd, Cf, Ap, Ao, Am⟩ := at_T45 HR0_0.out Aa Bi Bh
          cases Cf
          replace Ap := zU HB.out Ap
          replace Ao := zU HB.out Ao
          replace Am := zU HB.out Am
          replace Bi := eq_true Bi
          replace Bh := eq_true Bh
          try go_wp2_with (first | ((with_reducible refine gate_dst (N := 8) rfl ?_); refine zx (N := 8) (cs := #[.string (⟨#[]⟩ : ByteArray), .string (⟨#[]⟩ : ByteArray), .int .i64 0]) (t := 45) ?_; intro Ag hg D5 hbox hb; replace Ab := Aside0.mk (Kd.R_below (Kd.R_elderB (zo Ab.out) Ag (Nat.le_of_eq hg.symm)) hb); have Ah := Aside0.mk (hbox); have De := zg HB hg; have Dh := zg HB hg; replace HB := zs HB hb; have Ax := zl Ad hg; have As := zr Ad hg; replace Ad := zb Ad hb; have Aw := zl Ae hg; have Ar := zr Ae hg; replace Ae := zb Ae hb; have Au := zl Af hg; have Aq := zr Af hg; replace Af := zb Af hb; clear hb hbox hg; have hnb43 := As.out; have hnc43 := Ax.out; have hnb44 := Ar.out; have hnc44 := Aw.out; have hnb45 := Aq.out; have hnc45 := Au.out; obtain ⟨_, _, _, _, _, _⟩ := zc3 Ah))
          obtain ⟨Dr, hq_⟩ : ∃ v_, ((D5.setCell ⟨Ag, 0, none⟩ (.string ((rd_T45 l0_0 Aa).f0))).setCell ⟨Ag, 1, none⟩ (.string ((rd_T45 l0_0 Aa).f1))).setCell ⟨Ag, 2, none⟩ (.int .i64 ((rd_T45 l0_0 Aa).f2)) = v_ := ⟨_, rfl⟩
          replace Ab : Aside0 (Kd.R k45 45 Dr w.heap.size (fun k_ => k_ ≠ Ag) Al Ac) := ⟨hq_ ▸ (zo (Kd.R_mono (Kd.R_far (p := ⟨Ag, 2, none⟩) (Kd.R_far (p := ⟨Ag, 1, none⟩) (Kd.R_far (p := ⟨Ag, 0, none⟩) (Kd.R_mono Ab.out (fun k_ hk => (⟨hk, hk.2⟩ : _ ∧ k_ ≠ Ag))) (fun _ hk => hk.2) (.string ((rd_T45 l0_0 Aa).f0))) (fun _ hk => hk.2) (.string ((rd_T45 l0_0 Aa).f1))) (fun _ hk => hk.2) (.int .i64 ((rd_T45 l0_0 Aa).f2))) (fun _ hk => hk.1.2)))⟩
          replace Ad := zjq hq_ Ad
          replace Ae := zjq hq_ Ae
          replace Af := zjq hq_ Af
          replace Ah : Aside0 (Dr.heap[Ag]? = some (.cells #[.string ((rd_T45 l0_0 Aa).f0), .string ((rd_T45 l0_0 Aa).f1), .int .i64 ((rd_T45 l0_0 Aa).f2)] 45 (0, 0))) := ⟨hq_ ▸ (zj Ah)⟩
          replace HB := zwq hq_ HB
          (try rw [hq_])
          clear hq_
          replace Ab := zd3 Ab
          replace Ad := zd1 Ad
          replace Ae := zd1 Ae
          replace Af := zd1 Af
          replace Ah := zd1 Ah
          replace HB := zd2 HB
          have Dv : 0 ≤ (Aa : Int) := of_decide_eq_true za
          have Dt : (Aa : Int) < ((Ac.length : Int) : Int) := of_decide_eq_true za
          obtain ⟨Be, C3, C0, Cy, gl41, cl41, HG41⟩ := Kd.R_form Ab.out (by omega)
          (first | cases C0 | (injection C0 with ea_ en_ ec_; (first | subst ea_ | (injection ea_ with ea_; subst ea_)); subst ec_; clear en_))
          have GB41 := Aside0.mk Cy
          have GG41 := Aside0.mk HG41
          clear Cy gl41 HG41
          obtain ⟨ce41, Cs, Cv, Bl, Bj⟩ := Kd.R_elem Ab.out z45 (Aa : Int) Dv Dt
          obtain rfl := k45_openM Cv
          have Cb : World.cell? _ ⟨Be, (Aa : Int).toNat * 3, none⟩ = some (.string ((rd_T45 Ac Aa).f0)) := Bl 0 _ rfl
          have Ca : World.cell? _ ⟨Be, (Aa : Int).toNat * 3 + 1, none⟩ = some (.string ((rd_T45 Ac Aa).f1)) := Bl 1 _ rfl
          have B8 : World.cell? _ ⟨Be, (Aa : Int).toNat * 3 + 2, none⟩ = some (.int .i64 ((rd_T45 Ac Aa).f2)) := Bl 2 _ rfl
          have hf41_0 : World.frozen? _ ⟨Be, (Aa : Int).toNat * 3, none⟩ = false := Bj 0
          have hf41_1 : World.frozen? _ ⟨Be, (Aa : Int).toNat * 3 + 1, none⟩ = false := Bj 1
          have hf41_2 : World.frozen? _ ⟨Be, (Aa : Int).toNat * 3 + 2, none⟩ = false := Bj 2
          clear Cs Bl Bj Cv
          replace Dv := eq_true Dv
          replace Dt := eq_true Dt
          obtain ⟨ce49, Bu, Cu, Bw, Cq⟩ := Kd.R_elem Ab.out z45 (Aa : Int) (of_decide_eq_true za) (by have h_ : (Aa : Int) < ((Ac.length : Int) : Int) := of_decide_eq_true za; first | exact h_ | (have e_ := (Kd.R_reads' Ab.out).1; omega) | simpa using h_)
          obtain rfl := k45_openM Cu
          have HP49 := (Kd.R_seg Ab.out (Aa : Int) (of_decide_eq_true za) (by have h_ : (Aa : Int) < ((Ac.length : Int) : Int) := of_decide_eq_true za; first | exact h_ | (have e_ := (Kd.R_reads' Ab.out).1; omega) | simpa using h_) (seg := [.string ((rd_T45 l0_0 Aa).f0), .string (((rd_T45 l0_0 Aa).f1).extract 0 (((rd_T45 l0_0 Aa).f2) : Int).toNat), .int .i64 ((rd_T45 l0_0 Aa).f2)]) (j := 0) Bu Bw (show 3 ≤ 3 from by decide) (x' := (⟨(rd_T45 l0_0 Aa).f0, ((rd_T45 l0_0 Aa).f1).extract 0 (((rd_T45 l0_0 Aa).f2) : Int).toNat, (rd_T45 l0_0 Aa).f2⟩ : S45)) (k45_mkM _ _ _ (⟨(rd_T45 l0_0 Aa).f0, ((rd_T45 l0_0 Aa).f1).extract 0 (((rd_T45 l0_0 Aa).f2) : Int).toNat, (rd_T45 l0_0 Aa).f2⟩ : S45) ) (fun _ hk => hk)).1
          rw [← Ny489.out] at HP49
          have HQ49 := Aside0.mk HP49
          clear Bu Bw Cq Cu HP49
          refine start_ (n := 13) (S := fun w' => w'.cell? ⟨Bn, 0, none⟩ = some (.slice (some ⟨Be, 0, none⟩) Ac.length C3) ∧ w'.cell? ⟨Ag, 0, none⟩ = some (.string ((rd_T45 l0_0 Aa).f0)) ∧ w'.cell? ⟨Ag, 1, none⟩ = some (.string ((rd_T45 l0_0 Aa).f1)) ∧ w'.cell? ⟨Ag, 2, none⟩ = some (.int .i64 ((rd_T45 l0_0 Aa).f2))) (ds := [12]) q17_12 (by kernel_rfl) rfl rfl ⟨zv Af, zv Ah, zv Ah, zv Ah⟩ (fun hHeld => ?_); refine with_tabW impl_LoseDisk.tab10 impl_LoseDisk.bits10 (fun HT_ HW_ => ?_)
          generalize Dr.drew = w48 at Ab Ad Ae Af Ah HB GG41 HQ49 hf41_0 hf41_1 hf41_2 Cb Ca B8 hHeld ⊢
          refine zP 0 (some 40) q17_13 HT_ ?_
          refine zP 2 (some 42) q17_14 HT_ ?_
          refine zP 3 (some 43) q17_15 HT_ ?_
          refine zP 5 (some 45) q17_16 HT_ ?_
          refine zP 7 (some 47) q17_17 HT_ ?_
          refine zP 9 (some 49) q17_18 HT_ ?_
          refine zT 1 (some 41) q17_19 HT_ HW_ hHeld ?_
          refine zT 4 (some 44) q17_20 HT_ HW_ hHeld ?_
          refine zT 6 (some 46) q17_21 HT_ HW_ hHeld ?_
          refine zP 8 (some 48) q17_22 HT_ ?_
          refine zP 10 (some 50) q17_23 HT_ ?_
          refine zP 11 (some 51) q17_24 HT_ ?_
          refine last_ (i := 12) (N := none) q17_25 rfl rfl (one_of HT_.out (by kernel_rfl)) (by decide) (fun K hK => ?_)
          refine skip_ (w1 := ?_) (by rfl) rfl ?_ ?_
          rotate_left
          ·go_simp
           rfl
          refine hK.out _ _ ?_
          clear hK K
          refine done_ (done_of HT_.out (by kernel_rfl)) ?_
          try go_wp2
          go_roundg k1
          case measure => have := Dq.out; omega
          case rel => exact ⟨(wrap64 (Aa + 1)), (Ci), (.slice (some ⟨Be, 0, none⟩) Ac.length C3), zf, H', ⟨by have := Dq.out; omega⟩, ⟨zo (Kd.R_mono HQ49.out (fun _ hk => trivial))⟩, ⟨by (with_reducible repeat (first | refine blk_drewN ?_ _ | refine blk_drew ?_ | refine blk_alloc ?_ _)); refine blk_far ?_ (by have h_ := Kd.R_ne Ab.out Ad.out (by decide); intro e_; exact h_ (by rw [e_]; rfl)) _; (with_reducible repeat (first | refine blk_drewN ?_ _ | refine blk_drew ?_ | refine blk_alloc ?_ _)); refine blk_far ?_ (by have h_ := Kd.R_ne Ab.out Ad.out (by decide); intro e_; exact h_ (by rw [e_]; rfl)) _; (with_reducible repeat (first | refine blk_drewN ?_ _ | refine blk_drew ?_ | refine blk_alloc ?_ _)); refine blk_far ?_ (by have h_ := Kd.R_ne Ab.out Ad.out (by decide); intro e_; exact h_ (by rw [e_]; rfl)) _; (with_reducible repeat (first | refine blk_drewN ?_ _ | refine blk_drew ?_ | refine blk_alloc ?_ _)); exact Ad.out⟩, ⟨by (with_reducible repeat (first | refine blk_drewN ?_ _ | refine blk_drew ?_ | refine blk_alloc ?_ _)); refine blk_far ?_ (by have h_ := Kd.R_ne Ab.out Ae.out (by decide); intro e_; exact h_ (by rw [e_]; rfl)) _; (with_reducible repeat (first | refine blk_drewN ?_ _ | refine blk_drew ?_ | refine blk_alloc ?_ _)); refine blk_far ?_ (by have h_ := Kd.R_ne Ab.out Ae.out (by decide); intro e_; exact h_ (by rw [e_]; rfl)) _; (with_reducible repeat (first | refine blk_drewN ?_ _ | refine blk_drew ?_ | refine blk_alloc ?_ _)); refine blk_far ?_ (by have h_ := Kd.R_ne Ab.out Ae.out (by decide); intro e_; exact h_ (by rw [e_]; rfl)) _; (with_reducible repeat (first | refine blk_drewN ?_ _ | refine blk_drew ?_ | refine blk_alloc ?_ _)); exact Ae.out⟩, ⟨by (with_reducible repeat (first | refine blk_drewN ?_ _ | refine blk_drew ?_ | refine blk_alloc ?_ _)); refine blk_far ?_ (by have h_ := Kd.R_ne Ab.out Af.out (by decide); intro e_; exact h_ (by rw [e_]; rfl)) _; (with_reducible repeat (first | refine blk_drewN ?_ _ | refine blk_drew ?_ | refine blk_alloc ?_ _)); refine blk_far ?_ (by have h_ := Kd.R_ne Ab.out Af.out (by decide); intro e_; exact h_ (by rw [e_]; rfl)) _; (with_reducible repeat (first | refine blk_drewN ?_ _ | refine blk_drew ?_ | refine blk_alloc ?_ _)); refine blk_far ?_ (by have h_ := Kd.R_ne Ab.out Af.out (by decide); intro e_; exact h_ (by rw [e_]; rfl)) _; (with_reducible repeat (first | refine blk_drewN ?_ _ | refine blk_drew ?_ | refine blk_alloc ?_ _)); exact Af.out⟩, ⟨zw HB⟩⟩
         rw [if_neg Dm] at H
         exact absurd H (by simp)
        rw [if_neg C6] at H
        exact absurd H (by simp)
       rw [if_neg C7] at H
       exact absurd H (by simp)
      rw [if_neg Do] at H
      exact absurd H (by simp)
     rw [if_neg Dp] at H
     exact absurd H (by simp)
    rw [if_neg Ch] at H
    have Db := decide_eq_false Ch
    clear Ch
    simp only [Option.some.injEq, Prod.mk.injEq] at H
    obtain ⟨rfl, rfl⟩ := H
    have hnb50 := Ba.out
    have hnc50 := Bc.out
    have hnb51 := Az.out
    have hnc51 := Bb.out
    obtain ⟨_, _⟩ := zc1 Af
    obtain ⟨Dk, C2, Dz⟩ := Kd.R_slice Ab.out
    subst Dz
    have hnb54 := Ai.out
    have hnc54 := Aj.out
    obtain ⟨_, _⟩ := zc1 Ae
    go_wp2
    refine bodyPost_ret (results_ct rfl _ _ Bg 29 #[.slice Dk Ac.length C2] (0, 0) _ rfl (zj Ae) Try.underlying29 rfl (by kernel_rfl)) rfl ?_
    exact ⟨_, ze, zo (Kd.R_mono (Kd.R_far (p := ⟨Bg, 0, none⟩) (Kd.R_types Ab.out Ae.out (by decide)) (fun _ hk => hk.2) (.slice Dk Ac.length C2)) (fun _ hk => trivial)), zw HB⟩
 replace c4 := Bool.eq_false_iff.mpr c4
 subst c4
 rw [if_neg (show ¬ (false = true) by decide)] at H
 simp only [Option.some.injEq, Prod.mk.injEq] at H
 obtain ⟨rfl, rfl⟩ := H
 go_enter Try.func25, Try.ntmps25
 go_wp2_with (first | ((with_reducible refine gate_dst (N := 2) rfl ?_); refine zx (N := 2) (cs := #[.slice A0_0 l0_0.length c0_0]) (t := 29) ?_; intro Bz hg w56 hbox hb; have Ad := Aside0.mk (hbox); have Dg := zg HB hg; have Dj := zg HB hg; replace HB := zs HB hb; clear hb hbox hg) | ((with_reducible refine gate_dst (N := 4) rfl ?_); refine zx (N := 4) (cs := #[.slice none 0 0]) (t := 29) ?_; intro Bg hg w57 hbox hb; have Ae := Aside0.mk (hbox); have Df := zg HB hg; have Di := zg HB hg; replace HB := zs HB hb; have Aj := zl Ad hg; have Ai := zr Ad hg; replace Ad := zb Ad hb; clear hb hbox hg; have hnb58 := Aj.out; have hnc58 := Ai.out; obtain ⟨_, _⟩ := zc1 Ad) | ((with_reducible refine gate_callee (f := 15) rfl ?_); refine zG (some 11) Try.func15 #[.agg #[.slice A0_0 l0_0.length c0_0]] ?_; (with_reducible refine (impl_DiskOk.calls k _ _ l0_0 false _ ?side1 ?side2 A3.out).mono ?_); (case side1 => exact zI (Kd.C_below HR0_0.out HB.out)); (case side2 => exact Bs.out); rintro e w60 ⟨rfl, hb⟩; refine ⟨_, rfl, ?_⟩; replace Ad := zb Ad hb; replace Ae := zb Ae hb; replace HB := zs HB hb; clear hb; obtain ⟨_, _⟩ := zc1 Ae))
 refine bodyPost_ret (results_ct rfl _ _ Bg 29 #[.slice none 0 0] (0, 0) _ rfl (zj Ae) Try.underlying29 rfl (by kernel_rfl)) rfl ?_
 exact ⟨_, ze, by first | exact Kd.R_nil _ _ _ _ _ | exact Kd.N_nil _ _ _ _ _ | exact Kd.V_nil _ _ _ _ _ | exact Kd.Q_nil _ _ _ _ _ | exact Kd.S_nil _ _ _ _ _, zw HB⟩

end Go.Proofs.Ytdiecogmaiglaaa.PFnActs
