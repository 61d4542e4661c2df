import Derived.Test.YtdiecogmaiglaaaQFnActsx0
import Derived.Test.YtdiecogmaiglaaaQFnActsx2
import Derived.Test.YtdiecogmaiglaaaQFnActsx3
import Derived.Test.YtdiecogmaiglaaaQFnActsx4
namespace Go.Proofs.Ytdiecogmaiglaaa.PFnActs
open Go.RowKit Go.Proofs.YtdiecogmaiglaaaW.PrintWords Go.Proofs.YtdiecogmaiglaaaW.PrintLast Go.Proofs.YtdiecogmaiglaaaW.PrintMore
attribute [local go_sem] max2_int min2_int max_two min_two max_three min_three max_four min_four   -- for this text's walks alone
set_option linter.unusedVariables false
set_option linter.unusedSimpArgs false

/-! ### impl_DoAct: function 37 -/
mutual
def impl_DoAct.j0 : Nat → Int → Bool → List (S45) → Int → ByteArray → ByteArray → ByteArray → Option ((List (S45)) × Bool)
 | 0, _, _, _, _, _, _, _ => none
 | k + 1, x6, x29, x132000, x133000, x133001, x133002, x133003 => if x29 = true then (some (([] : List (S45)), false)) else (if x6 ≥ 0 then (if 0 ≤ x6 then (if x6 < (x132000.length : Int) then (impl_DoAct.j1 k x132000 x133000 x133001 x133002 x133003 ((rd_T45 x132000 x6).f0) ((rd_T45 x132000 x6).f1) ((rd_T45 x132000 x6).f2)) else (none)) else (none)) else (impl_DoAct.j1 k x132000 x133000 x133001 x133002 x133003 x133001 (⟨#[]⟩ : ByteArray) 0))
def impl_DoAct.j1 : Nat → List (S45) → Int → ByteArray → ByteArray → ByteArray → ByteArray → ByteArray → Int → Option ((List (S45)) × Bool)
 | 0, _, _, _, _, _, _, _, _ => none
 | k + 1, x132000, x133000, x133001, x133002, x133003, x138000, x138001, x138002 => if x133000 = 1 then (if x138001.size + x133002.size ≤ 9223372036854775807 then ((impl_withFile.f x132000 x138000 (x138001 ++ x133002) x138002).bind fun t140 => ((impl_DiskOk.f k t140).bind fun t143 => (if t143 = true then (some (t140, true)) else (some (([] : List (S45)), false))))) else (none)) else (if x133000 = 2 then ((impl_withFile.f x132000 x138000 x138001 (x138001.size : Int)).bind fun t144 => ((impl_DiskOk.f k t144).bind fun t147 => (if t147 = true then (some (t144, true)) else (some (([] : List (S45)), false))))) else (if x133000 = 3 then (if x138002 = (x138001.size : Int) then (impl_DoAct.j2 k (x133003.toList == x133001.toList) x132000 x133000 x133001 x133002 x133003 x138000 x138001 x138002) else (impl_DoAct.j2 k true x132000 x133000 x133001 x133002 x133003 x138000 x138001 x138002)) else ((impl_withoutFile.f x132000 x133001).bind fun t155 => ((impl_DiskOk.f k t155).bind fun t158 => (if t158 = true then (some (t155, true)) else (some (([] : List (S45)), false)))))))
def impl_DoAct.j2 : Nat → Bool → List (S45) → Int → ByteArray → ByteArray → ByteArray → ByteArray → ByteArray → Int → Option ((List (S45)) × Bool)
 | 0, _, _, _, _, _, _, _, _, _ => none
 | k + 1, x82, x132000, x133000, x133001, x133002, x133003, x138000, x138001, x138002 => if x82 = true then (some (([] : List (S45)), false)) else ((impl_withoutFile.f x132000 x133001).bind fun t148 => ((impl_withFile.f t148 x133003 x138001 x138002).bind fun t151 => ((impl_DiskOk.f k t151).bind fun t154 => (if t154 = true then (some (t151, true)) else (some (([] : List (S45)), false))))))
end
def impl_DoAct.f (k : Nat) (l0_0 : List (S45)) (a1_0 : Int) (a1_1 : ByteArray) (a1_2 : ByteArray) (a1_3 : ByteArray) : Option ((List (S45)) × Bool) := (impl_placeOf.f l0_0 a1_1).bind fun t134 => ((impl_DiskOk.f k l0_0).bind fun t135 => (if t135 = true then ((impl_actOk.f a1_0 a1_1 a1_2 a1_3).bind fun t136 => (if t136 = true then (if t134 < 0 then (impl_DoAct.j0 k t134 (a1_0 != 1) l0_0 a1_0 a1_1 a1_2 a1_3) else (impl_DoAct.j0 k t134 false l0_0 a1_0 a1_1 a1_2 a1_3)) else (impl_DoAct.j0 k t134 true l0_0 a1_0 a1_1 a1_2 a1_3))) else (impl_DoAct.j0 k t134 true l0_0 a1_0 a1_1 a1_2 a1_3)))
theorem impl_DoAct.mono_l : ∀ k, (∀ y0 y1 y2 y3 y4 y5 y6, LeO (impl_DoAct.j0 k y0 y1 y2 y3 y4 y5 y6) (impl_DoAct.j0 (k + 1) y0 y1 y2 y3 y4 y5 y6)) ∧ (∀ y0 y1 y2 y3 y4 y5 y6 y7, LeO (impl_DoAct.j1 k y0 y1 y2 y3 y4 y5 y6 y7) (impl_DoAct.j1 (k + 1) y0 y1 y2 y3 y4 y5 y6 y7)) ∧ (∀ y0 y1 y2 y3 y4 y5 y6 y7 y8, LeO (impl_DoAct.j2 k y0 y1 y2 y3 y4 y5 y6 y7 y8) (impl_DoAct.j2 (k + 1) y0 y1 y2 y3 y4 y5 y6 y7 y8))
 | 0 => ⟨fun _ _ _ _ _ _ _ r h => by simp [impl_DoAct.j0] at h, fun _ _ _ _ _ _ _ _ r h => by simp [impl_DoAct.j1] at h, fun _ _ _ _ _ _ _ _ _ r h => by simp [impl_DoAct.j2] at h⟩
 | k + 1 => by
  obtain ⟨ih0, ih1, ih2⟩ := impl_DoAct.mono_l k
  refine ⟨?_, ?_, ?_⟩
  ·intro y0 y1 y2 y3 y4 y5 y6
   unfold impl_DoAct.j0
   repeat' first
   | (with_reducible exact ih0 _ _ _ _ _ _ _)
   | (with_reducible exact ih1 _ _ _ _ _ _ _ _)
   | (with_reducible exact ih2 _ _ _ _ _ _ _ _ _)
   | (with_reducible exact impl_DiskOk.mono _ _)
   | (with_reducible exact LeO.refl _)
   | (with_reducible exact LeO.none _)
   | (with_reducible refine LeO.ite ?_ ?_)
   | (with_reducible refine LeO.bind ?_ (fun _ => ?_))
   | exact ih0 _ _ _ _ _ _ _
   | exact ih1 _ _ _ _ _ _ _ _
   | exact ih2 _ _ _ _ _ _ _ _ _
   | exact impl_DiskOk.mono _ _
   | exact LeO.none _
   | refine LeO.ite ?_ ?_
   | refine LeO.bind ?_ (fun _ => ?_)
  ·intro y0 y1 y2 y3 y4 y5 y6 y7
   unfold impl_DoAct.j1
   repeat' first
   | (with_reducible exact ih0 _ _ _ _ _ _ _)
   | (with_reducible exact ih1 _ _ _ _ _ _ _ _)
   | (with_reducible exact ih2 _ _ _ _ _ _ _ _ _)
   | (with_reducible exact impl_DiskOk.mono _ _)
   | (with_reducible exact LeO.refl _)
   | (with_reducible exact LeO.none _)
   | (with_reducible refine LeO.ite ?_ ?_)
   | (with_reducible refine LeO.bind ?_ (fun _ => ?_))
   | exact ih0 _ _ _ _ _ _ _
   | exact ih1 _ _ _ _ _ _ _ _
   | exact ih2 _ _ _ _ _ _ _ _ _
   | exact impl_DiskOk.mono _ _
   | exact LeO.none _
   | refine LeO.ite ?_ ?_
   | refine LeO.bind ?_ (fun _ => ?_)
  intro y0 y1 y2 y3 y4 y5 y6 y7 y8
  unfold impl_DoAct.j2
  repeat' first
  | (with_reducible exact ih0 _ _ _ _ _ _ _)
  | (with_reducible exact ih1 _ _ _ _ _ _ _ _)
  | (with_reducible exact ih2 _ _ _ _ _ _ _ _ _)
  | (with_reducible exact impl_DiskOk.mono _ _)
  | (with_reducible exact LeO.refl _)
  | (with_reducible exact LeO.none _)
  | (with_reducible refine LeO.ite ?_ ?_)
  | (with_reducible refine LeO.bind ?_ (fun _ => ?_))
  | exact ih0 _ _ _ _ _ _ _
  | exact ih1 _ _ _ _ _ _ _ _
  | exact ih2 _ _ _ _ _ _ _ _ _
  | exact impl_DiskOk.mono _ _
  | exact LeO.none _
  | refine LeO.ite ?_ ?_
  | refine LeO.bind ?_ (fun _ => ?_)
theorem impl_DoAct.mono : ∀ a0 a1 a2 a3 a4 k, LeO (impl_DoAct.f k a0 a1 a2 a3 a4) (impl_DoAct.f (k + 1) a0 a1 a2 a3 a4) := by
 intro a0 a1 a2 a3 a4 k
 obtain ⟨ih0, ih1, ih2⟩ := impl_DoAct.mono_l k
 unfold impl_DoAct.f
 repeat' first
   | (with_reducible exact ih0 _ _ _ _ _ _ _)
   | (with_reducible exact ih1 _ _ _ _ _ _ _ _)
   | (with_reducible exact ih2 _ _ _ _ _ _ _ _ _)
   | (with_reducible exact impl_DiskOk.mono _ _)
   | (with_reducible exact LeO.refl _)
   | (with_reducible exact LeO.none _)
   | (with_reducible refine LeO.ite ?_ ?_)
   | (with_reducible refine LeO.bind ?_ (fun _ => ?_))
   | exact ih0 _ _ _ _ _ _ _
   | exact ih1 _ _ _ _ _ _ _ _
   | exact ih2 _ _ _ _ _ _ _ _ _
   | exact impl_DiskOk.mono _ _
   | exact LeO.none _
   | refine LeO.ite ?_ ?_
   | refine LeO.bind ?_ (fun _ => ?_)
abbrev q5_0 := #[o_,o_,o_,o_,o_,o_,o_]
abbrev q5_1 := #[o_,i_,o_,o_,o_,o_,o_]
abbrev q5_2 := #[i_,i_,o_,o_,o_,o_,o_]
abbrev q5_3 := #[i_,i_,i_,o_,o_,o_,o_]
abbrev q5_4 := #[i_,i_,i_,o_,i_,o_,o_]
abbrev q5_5 := #[i_,i_,i_,i_,i_,o_,o_]
abbrev q5_6 := #[i_,i_,i_,i_,i_,i_,o_]
abbrev q5_7 := #[i_,i_,i_,i_,i_,i_,i_]
set_option maxHeartbeats 8000000 in
set_option maxRecDepth 100000 in
theorem impl_DoAct.calls (k : Nat) (A0_0 : Option Addr) (c0_0 : Nat) (l0_0 : List (S45)) (a1_0 : Int) (a1_1 : ByteArray) (a1_2 : ByteArray) (a1_3 : ByteArray) (r1 : List (S45)) (r2 : Bool) (w : World) (hr0_0 : Kd.C k45 w A0_0 l0_0.length l0_0) (hc0_0 : l0_0.length ≤ c0_0) (h : impl_DoAct.f k l0_0 a1_0 a1_1 a1_2 a1_3 = some (r1, r2)) :
  Calls Try.prog 37 #[.agg #[.slice A0_0 l0_0.length c0_0], .agg #[.int .i64 a1_0, .string a1_1, .string a1_2, .string a1_3]] w fun e w' => ∃ v0_ : Value, e = .returned (.tuple #[.agg #[v0_], .bool r2]) ∧ Kd.R k45 45 w' w.heap.size (fun _ => True) v0_ r1 ∧ Below w.heap.size w w' := by
 have hu29 := Try.underlying29
 have hu55 := Try.underlying55
 have hu45 := Try.underlying45
 have HR0_0 := Aside0.mk hr0_0
 have Bq := Aside0.mk hc0_0
 clear hr0_0 hc0_0
 have HB := Aside0.mk (Below.refl w.heap.size w)
 have H : ((impl_placeOf.f l0_0 a1_1).bind fun Bp => ((impl_DiskOk.f k l0_0).bind fun F6 => (if F6 = true then ((impl_actOk.f a1_0 a1_1 a1_2 a1_3).bind fun F5 => (if F5 = true then (if Bp < 0 then (impl_DoAct.j0 k Bp (a1_0 != 1) l0_0 a1_0 a1_1 a1_2 a1_3) else (impl_DoAct.j0 k Bp false l0_0 a1_0 a1_1 a1_2 a1_3)) else (impl_DoAct.j0 k Bp true l0_0 a1_0 a1_1 a1_2 a1_3))) else (impl_DoAct.j0 k Bp true l0_0 a1_0 a1_1 a1_2 a1_3)))) = some (r1, r2) := h
 clear h
 replace H := Option.bind_eq_some_iff.mp H
 obtain ⟨Bp, Li, H⟩ := H
 have A3 := Aside0.mk Li
 clear Li
 have Kz := Aside0.mk H
 clear H
 go_enter Try.func37, Try.ntmps37
 go_upto_region 2 with (first | ((with_reducible refine gate_dst (N := 2) rfl ?_); refine zx (N := 2) (cs := #[.slice A0_0 l0_0.length c0_0]) (t := 29) ?_; intro Cm hg w5 hbox hb; have Ac := Aside0.mk (hbox); have GW131 := zg HB hg; have GE131 := zg HB hg; replace HB := zs HB hb; clear hb hbox hg) | ((with_reducible refine gate_dst (N := 3) rfl ?_); refine zx (N := 3) (cs := #[.int .i64 a1_0, .string a1_1, .string a1_2, .string a1_3]) (t := 55) ?_; intro Bw hg w6 hbox hb; have Aa := Aside0.mk (hbox); have GW132 := zg HB hg; have GE132 := zg HB hg; replace HB := zs HB hb; have Ay := zl Ac hg; have Ax := zr Ac hg; replace Ac := zb Ac hb; clear hb hbox hg) | ((with_reducible refine gate_dst (N := 4) rfl ?_); refine zx (N := 4) (cs := #[.slice none 0 0]) (t := 29) ?_; intro Bn hg w7 hbox hb; have Ad := Aside0.mk (hbox); have GW133 := zg HB hg; have GE133 := zg HB hg; replace HB := zs HB hb; have Ba := zl Ac hg; have Az := zr Ac hg; replace Ac := zb Ac hb; have Aw := zl Aa hg; have Au := zr Aa hg; replace Aa := zb Aa hb; clear hb hbox hg; have hnb8 := Ay.out; have hnc8 := Ax.out; have hnb9 := Ba.out; have hnc9 := Az.out; obtain ⟨Eg, Dr⟩ := zc1 Ac; have hnb11 := Aw.out; have hnc11 := Au.out; obtain ⟨Ef, Ee, Ed, Ec, Dq, Dp, Do, Dn⟩ := zc4 Aa) | ((with_reducible refine gate_callee (f := 54) rfl ?_); refine zG (some 12) Try.func54 #[.agg #[.slice A0_0 l0_0.length c0_0], .string a1_1] ?_; (with_reducible refine (impl_placeOf.calls _ _ l0_0 a1_1 Bp _ ?side1 ?side2 A3.out).mono ?_); (case side1 => exact zI (Kd.C_below HR0_0.out HB.out)); (case side2 => exact Bq.out); rintro e w13 ⟨rfl, hb⟩; refine ⟨_, rfl, ?_⟩; replace Ac := zb Ac hb; replace Aa := zb Aa hb; replace Ad := zb Ad hb; replace HB := zs HB hb; clear hb))
 (try simp only [Act.put, zA, zB, zC])
 go_cut [29] (fun Lk wc => ∃ (kq : Nat) (Cw : Bool), Lk = .bool Cw ∧ Aside0 (impl_DoAct.j0 kq Bp Cw l0_0 a1_0 a1_1 a1_2 a1_3 = some (r1, r2)) ∧ Aside0 (kq ≤ k) ∧ Aside0 (wc.heap[Cm]? = some (.cells #[(.slice A0_0 l0_0.length c0_0)] 29 (0, 0))) ∧ Aside0 (wc.heap[Bw]? = some (.cells #[.int .i64 a1_0, .string a1_1, .string a1_2, .string a1_3] 55 (0, 0))) ∧ Aside0 (wc.heap[Bn]? = some (.cells #[(.slice none 0 0)] 29 (0, 0))) ∧ Aside0 (Below w.heap.size w wc))
 case first =>
  have H := Kz.out
  clear Kz
  replace H := Option.bind_eq_some_iff.mp H
  obtain ⟨F6, Kh, H⟩ := H
  have Kk := Aside0.mk Kh
  clear Kh
  by_cases I0 : F6 = true
  ·subst I0
   rw [if_pos rfl] at H
   replace H := Option.bind_eq_some_iff.mp H
   obtain ⟨F5, Kg, H⟩ := H
   have K0 := Aside0.mk Kg
   clear Kg
   by_cases Iz : F5 = true
   ·subst Iz
    rw [if_pos rfl] at H
    by_cases Et : Bp < 0
    ·rw [if_pos Et] at H
     have Ca := decide_eq_true Et
     clear Et
     (first | rw [Ca] | (simp only [i64_w, i32_w]; rw [Ca]) | skip)
     have H' := Aside0.mk H
     clear H
     have hnb19 := Ay.out
     have hnc19 := Ax.out
     have hnb20 := Ba.out
     have hnc20 := Az.out
     obtain ⟨Eb, Dm⟩ := zc1 Ac
     go_wp2_with (first | ((with_reducible refine gate_callee (f := 15) rfl ?_); refine zG (some 14) Try.func15 #[.agg #[.slice A0_0 l0_0.length c0_0]] ?_; (with_reducible refine (impl_DiskOk.calls k _ _ l0_0 true _ ?side1 ?side2 Kk.out).mono ?_); (case side1 => exact zI (Kd.C_below HR0_0.out HB.out)); (case side2 => exact Bq.out); rintro e w22 ⟨rfl, hb⟩; refine ⟨_, rfl, ?_⟩; replace Ac := zb Ac hb; replace Aa := zb Aa hb; replace Ad := zb Ad hb; replace HB := zs HB hb; clear hb; have hnb23 := Aw.out; have hnc23 := Au.out; obtain ⟨Ea, D9, D8, D7, Dl, Dk, Dj, Di⟩ := zc4 Aa) | (go_at_call 65; (with_reducible refine (impl_actOk.calls a1_0 a1_1 a1_2 a1_3 true _ K0.out).mono ?_); rintro e w25 ⟨rfl, hb⟩; replace Ac := zb Ac hb; replace Aa := zb Aa hb; replace Ad := zb Ad hb; replace HB := zs HB hb; clear hb; obtain ⟨D6, D5, D4, D3, Dh, Dg, Df, De⟩ := zc4 Aa))
     go_meet
     case rel => exact ⟨_, ((a1_0 != 1)), zf, H', ⟨by first | omega | exact Nat.le_refl _⟩, ⟨zkf Ac⟩, ⟨zkf Aa⟩, ⟨zkf Ad⟩, ⟨zw HB⟩⟩
    rw [if_neg Et] at H
    have Ca := decide_eq_false Et
    clear Et
    (first | rw [Ca] | (simp only [i64_w, i32_w]; rw [Ca]) | skip)
    have H' := Aside0.mk H
    clear H
    have hnb27 := Ay.out
    have hnc27 := Ax.out
    have hnb28 := Ba.out
    have hnc28 := Az.out
    obtain ⟨D2, Dd⟩ := zc1 Ac
    go_wp2_with (first | ((with_reducible refine gate_callee (f := 15) rfl ?_); refine zG (some 14) Try.func15 #[.agg #[.slice A0_0 l0_0.length c0_0]] ?_; (with_reducible refine (impl_DiskOk.calls k _ _ l0_0 true _ ?side1 ?side2 Kk.out).mono ?_); (case side1 => exact zI (Kd.C_below HR0_0.out HB.out)); (case side2 => exact Bq.out); rintro e w30 ⟨rfl, hb⟩; refine ⟨_, rfl, ?_⟩; replace Ac := zb Ac hb; replace Aa := zb Aa hb; replace Ad := zb Ad hb; replace HB := zs HB hb; clear hb; have hnb31 := Aw.out; have hnc31 := Au.out; obtain ⟨D1, D0, Dz, Dy, Dc, Db, Da, C9⟩ := zc4 Aa) | (go_at_call 65; (with_reducible refine (impl_actOk.calls a1_0 a1_1 a1_2 a1_3 true _ K0.out).mono ?_); rintro e w33 ⟨rfl, hb⟩; replace Ac := zb Ac hb; replace Aa := zb Aa hb; replace Ad := zb Ad hb; replace HB := zs HB hb; clear hb))
    go_meet
    case rel => exact ⟨_, (false), zf, H', ⟨by first | omega | exact Nat.le_refl _⟩, ⟨zkf Ac⟩, ⟨zkf Aa⟩, ⟨zkf Ad⟩, ⟨zw HB⟩⟩
   replace Iz := Bool.eq_false_iff.mpr Iz
   subst Iz
   rw [if_neg (show ¬ (false = true) by decide)] at H
   have H' := Aside0.mk H
   clear H
   have hnb34 := Ay.out
   have hnc34 := Ax.out
   have hnb35 := Ba.out
   have hnc35 := Az.out
   obtain ⟨Dx, C8⟩ := zc1 Ac
   go_wp2_with (first | ((with_reducible refine gate_callee (f := 15) rfl ?_); refine zG (some 14) Try.func15 #[.agg #[.slice A0_0 l0_0.length c0_0]] ?_; (with_reducible refine (impl_DiskOk.calls k _ _ l0_0 true _ ?side1 ?side2 Kk.out).mono ?_); (case side1 => exact zI (Kd.C_below HR0_0.out HB.out)); (case side2 => exact Bq.out); rintro e w37 ⟨rfl, hb⟩; refine ⟨_, rfl, ?_⟩; replace Ac := zb Ac hb; replace Aa := zb Aa hb; replace Ad := zb Ad hb; replace HB := zs HB hb; clear hb; have hnb38 := Aw.out; have hnc38 := Au.out; obtain ⟨Dw, Dv, Du, Dt, C7, C6, C5, C4⟩ := zc4 Aa) | (go_at_call 65; (with_reducible refine (impl_actOk.calls a1_0 a1_1 a1_2 a1_3 false _ K0.out).mono ?_); rintro e w40 ⟨rfl, hb⟩; replace Ac := zb Ac hb; replace Aa := zb Aa hb; replace Ad := zb Ad hb; replace HB := zs HB hb; clear hb))
   go_meet
   case rel => exact ⟨_, (true), zf, H', ⟨by first | omega | exact Nat.le_refl _⟩, ⟨zkf Ac⟩, ⟨zkf Aa⟩, ⟨zkf Ad⟩, ⟨zw HB⟩⟩
  replace I0 := Bool.eq_false_iff.mpr I0
  subst I0
  rw [if_neg (show ¬ (false = true) by decide)] at H
  have H' := Aside0.mk H
  clear H
  have hnb41 := Ay.out
  have hnc41 := Ax.out
  have hnb42 := Ba.out
  have hnc42 := Az.out
  obtain ⟨Ds, C3⟩ := zc1 Ac
  go_wp2_with (first | ((with_reducible refine gate_callee (f := 15) rfl ?_); refine zG (some 14) Try.func15 #[.agg #[.slice A0_0 l0_0.length c0_0]] ?_; (with_reducible refine (impl_DiskOk.calls k _ _ l0_0 false _ ?side1 ?side2 Kk.out).mono ?_); (case side1 => exact zI (Kd.C_below HR0_0.out HB.out)); (case side2 => exact Bq.out); rintro e w44 ⟨rfl, hb⟩; refine ⟨_, rfl, ?_⟩; replace Ac := zb Ac hb; replace Aa := zb Aa hb; replace Ad := zb Ad hb; replace HB := zs HB hb; clear hb))
  go_meet
  case rel => exact ⟨_, (true), zf, H', ⟨by first | omega | exact Nat.le_refl _⟩, ⟨zkf Ac⟩, ⟨zkf Aa⟩, ⟨zkf Ad⟩, ⟨zw HB⟩⟩
 case rest =>
  clear Kz
  try clear c1
  try clear c2
  try clear p2
  try clear c3
  try clear c4
  try clear c5
  try clear c8
  try clear c9
  try clear Lf
  try clear I0
  try clear Iz
  try clear Et
  try clear Ca
  try clear Le
  try clear Ld
  try clear Lc
  try clear Lb
  try clear La
  try clear K9
  try clear K8
  try clear K7
  try clear K6
  try clear K5
  try clear K4
  try clear K3
  try clear Eg
  try clear Ef
  try clear Ee
  try clear Ed
  try clear Ec
  try clear Eb
  try clear Ea
  try clear D9
  try clear D8
  try clear D7
  try clear D6
  try clear D5
  try clear D4
  try clear D3
  try clear D2
  try clear D1
  try clear D0
  try clear Dz
  try clear Dy
  try clear Dx
  try clear Dw
  try clear Dv
  try clear Du
  try clear Dt
  try clear Ds
  try clear Dr
  try clear Dq
  try clear Dp
  try clear Do
  try clear Dn
  try clear Dm
  try clear Dl
  try clear Dk
  try clear Dj
  try clear Di
  try clear Dh
  try clear Dg
  try clear Df
  try clear De
  try clear Dd
  try clear Dc
  try clear Db
  try clear Da
  try clear C9
  try clear C8
  try clear C7
  try clear C6
  try clear C5
  try clear C4
  try clear C3
  obtain ⟨kq, Cw, rfl, HA, HJ3, Ac, Aa, Ad, HB⟩ := hcut
  cases kq with
  | zero => exact absurd HA.out (by simp [impl_DoAct.j0])
  | succ Ll =>
   have H := HA.out
   clear HA
   simp only [impl_DoAct.j0] at H
   by_cases I5 : Cw = true
   ·subst I5
    rw [if_pos rfl] at H
    simp only [Option.some.injEq, Prod.mk.injEq] at H
    obtain ⟨rfl, rfl⟩ := H
    have hnb46 := Az.out
    have hnc46 := Ba.out
    have hnb47 := Au.out
    have hnc47 := Aw.out
    obtain ⟨Fi, E6⟩ := zc1 Ad
    go_wp2
    refine bodyPost_ret (results_ct rfl _ _ Bn 29 #[.slice none 0 0] (0, 0) _ rfl (zj Ad) Try.underlying29 rfl (by kernel_rfl)) rfl ?_
    exact ⟨_, ze, by first | exact Kd.R_nil _ _ _ _ _ | exact Kd.N_nil _ _ _ _ _ | exact Kd.V_nil _ _ _ _ _ | exact Kd.Q_nil _ _ _ _ _ | exact Kd.S_nil _ _ _ _ _, zw HB⟩
   replace I5 := Bool.eq_false_iff.mpr I5
   subst I5
   rw [if_neg (show ¬ (false = true) by decide)] at H
   have I1 := Aside0.mk H
   clear H
   have hnb50 := Ax.out
   have hnc50 := Ay.out
   have hnb51 := Aw.out
   have hnc51 := Au.out
   obtain ⟨Fh, Fg, Ff, Fe, E5, E4, E3, E2⟩ := zc4 Aa
   go_upto_if 35 with (first | ((with_reducible refine gate_dst (N := 7) rfl ?_); refine zx (N := 7) (cs := #[.string (⟨#[]⟩ : ByteArray), .string (⟨#[]⟩ : ByteArray), .int .i64 0]) (t := 45) ?_; intro Al hg w53 hbox hb; have Ae := Aside0.mk (hbox); have Ep := zg HB hg; have GE137 := zg HB hg; replace HB := zs HB hb; have Bg := zl Ac hg; have Bf := zr Ac hg; replace Ac := zb Ac hb; have Be := zl Aa hg; have Bc := zr Aa hg; replace Aa := zb Aa hb; have Bd := zl Ad hg; have Bb := zr Ad hg; replace Ad := zb Ad hb; clear hb hbox hg; have hnb54 := Bf.out; have hnc54 := Bg.out; have hnb55 := Bc.out; have hnc55 := Be.out; have hnb56 := Bb.out; have hnc56 := Bd.out; obtain ⟨Fd, Fc, Fb, E1, E0, Ez⟩ := zc3 Ae))
   (try simp only [Act.put, zA, zB, zC])
   go_cut [] (fun wc => ∃ (kq : Nat) (Ah : ByteArray) (Ab : ByteArray) (Ag : Int), Aside0 (impl_DoAct.j1 kq l0_0 a1_0 a1_1 a1_2 a1_3 Ah Ab Ag = some (r1, r2)) ∧ Aside0 (kq ≤ Ll) ∧ Aside0 (wc.heap[Cm]? = some (.cells #[(.slice A0_0 l0_0.length c0_0)] 29 (0, 0))) ∧ Aside0 (wc.heap[Bw]? = some (.cells #[.int .i64 a1_0, .string a1_1, .string a1_2, .string a1_3] 55 (0, 0))) ∧ Aside0 (wc.heap[Bn]? = some (.cells #[(.slice none 0 0)] 29 (0, 0))) ∧ Aside0 (wc.heap[Al]? = some (.cells #[.string Ah, .string Ab, .int .i64 Ag] 45 (0, 0))) ∧ Aside0 (Below w.heap.size w wc))
   case first =>
    have H := I1.out
    clear I1
    by_cases Fv : Bp ≥ 0
    ·rw [if_pos Fv] at H
     have Ce : decide (0 ≤ Bp) = true := decide_eq_true Fv
     clear Fv
     (first | rw [Ce] | (simp only [i64_w, i32_w]; rw [Ce]) | skip)
     by_cases I4 : 0 ≤ Bp
     ·rw [if_pos I4] at H
      have Fu := decide_eq_true I4
      clear I4
      by_cases I3 : Bp < (l0_0.length : Int)
      ·rw [if_pos I3] at H
       have Ft := decide_eq_true I3
       clear I3
       have H' := Aside0.mk H
       clear H
       have hnb61 := Ay.out
       have hnc61 := Ax.out
       have hnb62 := Ba.out
       have hnc62 := Az.out
       have hnb63 := Bg.out
       have hnc63 := Bf.out
       obtain ⟨Fa, Ey⟩ := zc1 Ac
       have C1 : 0 ≤ (Bp : Int) := of_decide_eq_true za
       have C0 : Bp < (l0_0.length : Int) := of_decide_eq_true za
       obtain ⟨En, Ky, Bh, Bj, Bi⟩ := at_T45 HR0_0.out Bp C1 C0
       cases Ky
       have Bm : En.block ≠ Al := Nat.ne_of_lt (Nat.lt_of_lt_of_le (by have := World.block_lt_of_cell? _ _ Bh; first | rwa [add_block] at this | exact this) Ep.out)
       have Bl : En.block ≠ Al := Nat.ne_of_lt (Nat.lt_of_lt_of_le (by have := World.block_lt_of_cell? _ _ Bh; first | rwa [add_block] at this | exact this) Ep.out)
       have Bk : En.block ≠ Al := Nat.ne_of_lt (Nat.lt_of_lt_of_le (by have := World.block_lt_of_cell? _ _ Bh; first | rwa [add_block] at this | exact this) Ep.out)
       replace Bh := zU HB.out Bh
       replace Bj := zU HB.out Bj
       replace Bi := zU HB.out Bi
       replace Bh := (cell_far (p := ⟨Al, 0, none⟩) (by first | (rw [add_block]; exact Bm) | (show (Addr.add _ _).block ≠ _; rw [add_block]; exact Bm) | exact Bm) (.string a1_1)).trans Bh
       replace Bj := (cell_far (p := ⟨Al, 0, none⟩) (by first | (rw [add_block]; exact Bm) | (show (Addr.add _ _).block ≠ _; rw [add_block]; exact Bm) | exact Bm) (.string a1_1)).trans Bj
       replace Bi := (cell_far (p := ⟨Al, 0, none⟩) (by first | (rw [add_block]; exact Bm) | (show (Addr.add _ _).block ≠ _; rw [add_block]; exact Bm) | exact Bm) (.string a1_1)).trans Bi
       replace Bh := (cell_far (p := ⟨Al, 1, none⟩) (by first | (rw [add_block]; exact Bl) | (show (Addr.add _ _).block ≠ _; rw [add_block]; exact Bl) | exact Bl) (.string (⟨#[]⟩ : ByteArray))).trans Bh
       replace Bj := (cell_far (p := ⟨Al, 1, none⟩) (by first | (rw [add_block]; exact Bl) | (show (Addr.add _ _).block ≠ _; rw [add_block]; exact Bl) | exact Bl) (.string (⟨#[]⟩ : ByteArray))).trans Bj
       replace Bi := (cell_far (p := ⟨Al, 1, none⟩) (by first | (rw [add_block]; exact Bl) | (show (Addr.add _ _).block ≠ _; rw [add_block]; exact Bl) | exact Bl) (.string (⟨#[]⟩ : ByteArray))).trans Bi
       replace Bh := (cell_far (p := ⟨Al, 2, none⟩) (by first | (rw [add_block]; exact Bk) | (show (Addr.add _ _).block ≠ _; rw [add_block]; exact Bk) | exact Bk) (.int .i64 0)).trans Bh
       replace Bj := (cell_far (p := ⟨Al, 2, none⟩) (by first | (rw [add_block]; exact Bk) | (show (Addr.add _ _).block ≠ _; rw [add_block]; exact Bk) | exact Bk) (.int .i64 0)).trans Bj
       replace Bi := (cell_far (p := ⟨Al, 2, none⟩) (by first | (rw [add_block]; exact Bk) | (show (Addr.add _ _).block ≠ _; rw [add_block]; exact Bk) | exact Bk) (.int .i64 0)).trans Bi
       clear Bm
       clear Bl
       clear Bk
       replace C1 := eq_true C1
       replace C0 := eq_true C0
       have hnb65 := Bc.out
       have hnc65 := Be.out
       have hnb66 := Bb.out
       have hnc66 := Bd.out
       obtain ⟨E9, E8, E7, Ex, Ew, Eu⟩ := zc3 Ae
       go_wp2
       go_meet
       case rel => exact ⟨_, ((rd_T45 l0_0 Bp).f0), ((rd_T45 l0_0 Bp).f1), ((rd_T45 l0_0 Bp).f2), H', ⟨by have := HJ3.out; first | omega | exact Nat.le_refl _⟩, ⟨zkf Ac⟩, ⟨zkf Aa⟩, ⟨zkf Ad⟩, ⟨zj Ae⟩, ⟨zw HB⟩⟩
      rw [if_neg I3] at H
      exact absurd H (by simp)
     rw [if_neg I4] at H
     exact absurd H (by simp)
    rw [if_neg Fv] at H
    have Ce : decide (0 ≤ Bp) = false := decide_eq_false Fv
    clear Fv
    (first | rw [Ce] | (simp only [i64_w, i32_w]; rw [Ce]) | skip)
    have H' := Aside0.mk H
    clear H
    go_wp2
    go_meet
    case rel => exact ⟨_, (a1_1), ((⟨#[]⟩ : ByteArray)), (0), H', ⟨by have := HJ3.out; first | omega | exact Nat.le_refl _⟩, ⟨zkf Ac⟩, ⟨zkf Aa⟩, ⟨zkf Ad⟩, ⟨zj Ae⟩, ⟨zw HB⟩⟩
   case rest =>
    clear I1
    try clear c1
    try clear p1
    try clear q1
    try clear Lm
    try clear c2
    try clear p2
    try clear c3
    try clear c4
    try clear c5
    try clear c6
    try clear c8
    try clear c9
    try clear Lf
    try clear K2
    try clear K1
    try clear Kw
    try clear I0
    try clear Iz
    try clear Et
    try clear Ca
    try clear Le
    try clear Ld
    try clear Lc
    try clear Lb
    try clear La
    try clear K9
    try clear K8
    try clear K7
    try clear K6
    try clear K5
    try clear K4
    try clear K3
    try clear I5
    try clear Ly
    try clear Lx
    try clear Lw
    try clear Lv
    try clear Lu
    try clear Lt
    try clear Ls
    try clear Fv
    try clear Ce
    try clear I4
    try clear Fu
    try clear I3
    try clear Ft
    try clear Lr
    try clear Lq
    try clear Lp
    try clear Lo
    try clear Ln
    try clear Eg
    try clear Ef
    try clear Ee
    try clear Ed
    try clear Ec
    try clear Eb
    try clear Ea
    try clear D9
    try clear D8
    try clear D7
    try clear D6
    try clear D5
    try clear D4
    try clear D3
    try clear D2
    try clear D1
    try clear D0
    try clear Dz
    try clear Dy
    try clear Dx
    try clear Dw
    try clear Dv
    try clear Du
    try clear Dt
    try clear Ds
    try clear Fi
    try clear Fh
    try clear Fg
    try clear Ff
    try clear Fe
    try clear Fd
    try clear Fc
    try clear Fb
    try clear Fa
    try clear E9
    try clear E8
    try clear E7
    try clear Dr
    try clear Dq
    try clear Dp
    try clear Do
    try clear Dn
    try clear Dm
    try clear Dl
    try clear Dk
    try clear Dj
    try clear Di
    try clear Dh
    try clear Dg
    try clear Df
    try clear De
    try clear Dd
    try clear Dc
    try clear Db
    try clear Da
    try clear C9
    try clear C8
    try clear C7
    try clear C6
    try clear C5
    try clear C4
    try clear C3
    try clear E6
    try clear E5
    try clear E4
    try clear E3
    try clear E2
    try clear E1
    try clear E0
    try clear Ez
    try clear Ey
    try clear Ex
    try clear Ew
    try clear Eu
    try clear Bh
    try clear Bj
    try clear Bi
    try clear C1
    try clear p2
    try clear C0
    obtain ⟨kq, Ah, Ab, Ag, HA, HJ48, Ac, Aa, Ad, Ae, HB⟩ := hcut
    cases kq with
    | zero => exact absurd HA.out (by simp [impl_DoAct.j1])
    | succ Cu =>
     have H := HA.out
     clear HA
     simp only [impl_DoAct.j1] at H
     by_cases Fs : a1_0 = 1
     ·rw [if_pos Fs] at H
      have Fr : (a1_0 == 1) = true := beq_iff_eq.mpr Fs
      have Fq : (a1_0 != 1) = false := bne_eq_false_iff_eq.mpr Fs
      clear Fs
      by_cases I2 : Ab.size + a1_2.size ≤ 9223372036854775807
      ·rw [if_pos I2] at H
       have J6 := eq_true I2
       have J5 := decide_eq_true I2
       try have J4 : (9223372036854775807 < Ab.size + a1_2.size) = False := eq_false (Nat.not_lt.2 I2)
       replace H := Option.bind_eq_some_iff.mp H
       obtain ⟨B0, J8, H⟩ := H
       have Lh := Aside0.mk J8
       clear J8
       replace H := Option.bind_eq_some_iff.mp H
       obtain ⟨Kv, J7, H⟩ := H
       have Lg := Aside0.mk J7
       clear J7
       by_cases J3 : Kv = true
       ·subst J3
        rw [if_pos rfl] at H
        simp only [Option.some.injEq, Prod.mk.injEq] at H
        obtain ⟨rfl, rfl⟩ := H
        go_wp2_with (first | ((with_reducible refine gate_dst (N := 8) rfl ?_); refine zx (N := 8) (cs := #[.slice none 0 0]) (t := 29) ?_; intro Ak hg w73 hbox hb; have Af := Aside0.mk (hbox); have Ch := zg HB hg; have Ci := zg HB hg; replace HB := zs HB hb; have Ao := zl Ac hg; have As := zr Ac hg; replace Ac := zb Ac hb; have Ai := zl Aa hg; have Aq := zr Aa hg; replace Aa := zb Aa hb; have Ar := zl Ad hg; have Ap := zr Ad hg; replace Ad := zb Ad hb; have Aj := zl Ae hg; have Am := zr Ae hg; replace Ae := zb Ae hb; clear hb hbox hg; have hnb74 := As.out; have hnc74 := Ao.out; have hnb75 := Aq.out; have hnc75 := Ai.out; have hnb76 := Ap.out; have hnc76 := Ar.out; have hnb77 := Am.out; have hnc77 := Aj.out; obtain ⟨Jx, Jk⟩ := zc1 Af; have hnb79 := Ax.out; have hnc79 := Ay.out; have hnb80 := Aw.out; have hnc80 := Au.out; have hnb81 := Be.out; have hnc81 := Bc.out; obtain ⟨Jw, Jv, Ju, Jt, Jj, Ji, Jh, Jg⟩ := zc4 Aa; have hnb83 := Bf.out; have hnc83 := Bg.out; have hnb84 := Bb.out; have hnc84 := Bd.out; obtain ⟨Js, Jr, Jq, Jf, Je, Jd⟩ := zc3 Ae; have hnb86 := Ba.out; have hnc86 := Az.out; obtain ⟨Jp, Jc⟩ := zc1 Ac) | ((with_reducible refine gate_callee (f := 66) rfl ?_); refine zG (some 58) Try.func66 #[.agg #[.slice A0_0 l0_0.length c0_0], .agg #[.string Ah, .string (Ab ++ a1_2), .int .i64 Ag]] ?_; (with_reducible refine (impl_withFile.calls _ _ l0_0 Ah (Ab ++ a1_2) Ag B0 _ ?side1 ?side2 Lh.out).mono ?_); (case side1 => exact Kd.C_below HR0_0.out (zw HB)); (case side2 => exact Bq.out); rintro e w88 ⟨Kr, rfl, B1, hb⟩; refine ⟨_, rfl, ?_⟩; have Bu := Aside0.mk (Kd.R_lower (Kd.R_newB B1 (g := Al) (o := .cells #[.string Ah, .string (Ab ++ a1_2), .int .i64 Ag] 45 (0, 0)) (zj Ae)) (below_size (zw HB))); replace Ac := zbf Ac hb; replace Aa := zbf Aa hb; replace Ad := zbf Ad hb; replace Ae := Aside0.mk (blk_below (g := Al) (o := .cells #[.string Ah, .string (Ab ++ a1_2), .int .i64 Ag] 45 (0, 0)) (zj Ae) hb); replace Af := Aside0.mk (blk_below (g := Ak) (o := .cells #[.slice none 0 0] 29 (0, 0)) (zj Af) hb); replace HB := zs HB hb; clear B1 hb; obtain ⟨C2, Cv, Kx⟩ := Kd.R_slice Bu.out; subst Kx; obtain ⟨Jo, Jb⟩ := zc1 Af) | ((with_reducible refine gate_callee (f := 15) rfl ?_); refine zG (some 94) Try.func15 #[.agg #[.slice C2 B0.length Cv]] ?_; (with_reducible refine (impl_DiskOk.calls Cu _ _ B0 true _ ?side1 ?side2 Lg.out).mono ?_); (case side1 => refine (Kd.R_reads' (e := 45) (base := w.heap.size) (ok := fun k_ => (True ∧ k_ ≠ Al)) (n := B0.length) (c := Cv) ?_).2.2; exact (zo ((Kd.R_mono (Kd.R_far (p := ⟨Ak, 0, none⟩) (Kd.R_types Bu.out Af.out (by decide)) (fun _ hk => hk.2) (.slice C2 B0.length Cv)) (fun _ h_ => h_.1))))); (case side2 => exact (Kd.R_reads' Bu.out).2.1); rintro e w91 ⟨rfl, hb⟩; refine ⟨_, rfl, ?_⟩; replace Bu := Aside0.mk (Kd.R_below (zo ((Kd.R_mono (Kd.R_far (p := ⟨Ak, 0, none⟩) (Kd.R_types Bu.out Af.out (by decide)) (fun _ hk => hk.2) (.slice C2 B0.length Cv)) (fun _ h_ => h_.1)))) hb); replace Ac := zbf Ac hb; replace Aa := zbf Aa hb; replace Ad := zbf Ad hb; replace Ae := zbf Ae hb; replace Af := Aside0.mk (blk_below (g := Ak) (o := .cells #[.slice C2 B0.length Cv] 29 (0, 0)) (zj Af) hb); replace HB := zs HB hb; clear hb; obtain ⟨Jn, Ja⟩ := zc1 Af; obtain ⟨Jm, I9⟩ := zc1 Ad))
        refine bodyPost_ret (results_ct rfl _ _ Bn 29 #[.slice C2 B0.length Cv] (0, 0) _ rfl (zj Ad) Try.underlying29 rfl (by kernel_rfl)) rfl ?_
        exact ⟨_, ze, zo (Kd.R_mono (Kd.R_far (p := ⟨Bn, 0, none⟩) (Kd.R_types Bu.out Ad.out (by decide)) (fun _ hk => hk.2) (.slice C2 B0.length Cv)) (fun _ hk => trivial)), zw HB⟩
       replace J3 := Bool.eq_false_iff.mpr J3
       subst J3
       rw [if_neg (show ¬ (false = true) by decide)] at H
       simp only [Option.some.injEq, Prod.mk.injEq] at H
       obtain ⟨rfl, rfl⟩ := H
       go_wp2_with (first | ((with_reducible refine gate_dst (N := 8) rfl ?_); refine zx (N := 8) (cs := #[.slice none 0 0]) (t := 29) ?_; intro Ak hg w94 hbox hb; have Af := Aside0.mk (hbox); have Ch := zg HB hg; have Ci := zg HB hg; replace HB := zs HB hb; have Ao := zl Ac hg; have As := zr Ac hg; replace Ac := zb Ac hb; have Ai := zl Aa hg; have Aq := zr Aa hg; replace Aa := zb Aa hb; have Ar := zl Ad hg; have Ap := zr Ad hg; replace Ad := zb Ad hb; have Aj := zl Ae hg; have Am := zr Ae hg; replace Ae := zb Ae hb; clear hb hbox hg; have hnb95 := As.out; have hnc95 := Ao.out; have hnb96 := Aq.out; have hnc96 := Ai.out; have hnb97 := Ap.out; have hnc97 := Ar.out; have hnb98 := Am.out; have hnc98 := Aj.out; obtain ⟨Jl, I8⟩ := zc1 Af; have hnb100 := Ax.out; have hnc100 := Ay.out; have hnb101 := Aw.out; have hnc101 := Au.out; have hnb102 := Be.out; have hnc102 := Bc.out; obtain ⟨Iy, Ix, Iw, Iv, Hj, Hi, Hh, Hg⟩ := zc4 Aa; have hnb104 := Bf.out; have hnc104 := Bg.out; have hnb105 := Bb.out; have hnc105 := Bd.out; obtain ⟨Iu, Is, Ir, Hf, He, Hd⟩ := zc3 Ae; have hnb107 := Ba.out; have hnc107 := Az.out; obtain ⟨Iq, Hc⟩ := zc1 Ac) | ((with_reducible refine gate_callee (f := 66) rfl ?_); refine zG (some 58) Try.func66 #[.agg #[.slice A0_0 l0_0.length c0_0], .agg #[.string Ah, .string (Ab ++ a1_2), .int .i64 Ag]] ?_; (with_reducible refine (impl_withFile.calls _ _ l0_0 Ah (Ab ++ a1_2) Ag B0 _ ?side1 ?side2 Lh.out).mono ?_); (case side1 => exact Kd.C_below HR0_0.out (zw HB)); (case side2 => exact Bq.out); rintro e w109 ⟨Kr, rfl, B1, hb⟩; refine ⟨_, rfl, ?_⟩; have Bu := Aside0.mk (Kd.R_lower (Kd.R_newB B1 (g := Al) (o := .cells #[.string Ah, .string (Ab ++ a1_2), .int .i64 Ag] 45 (0, 0)) (zj Ae)) (below_size (zw HB))); replace Ac := zbf Ac hb; replace Aa := zbf Aa hb; replace Ad := zbf Ad hb; replace Ae := Aside0.mk (blk_below (g := Al) (o := .cells #[.string Ah, .string (Ab ++ a1_2), .int .i64 Ag] 45 (0, 0)) (zj Ae) hb); replace Af := Aside0.mk (blk_below (g := Ak) (o := .cells #[.slice none 0 0] 29 (0, 0)) (zj Af) hb); replace HB := zs HB hb; clear B1 hb; obtain ⟨Cz, Cp, J2⟩ := Kd.R_slice Bu.out; subst J2; obtain ⟨Ip, Hb⟩ := zc1 Af) | ((with_reducible refine gate_callee (f := 15) rfl ?_); refine zG (some 94) Try.func15 #[.agg #[.slice Cz B0.length Cp]] ?_; (with_reducible refine (impl_DiskOk.calls Cu _ _ B0 false _ ?side1 ?side2 Lg.out).mono ?_); (case side1 => refine (Kd.R_reads' (e := 45) (base := w.heap.size) (ok := fun k_ => (True ∧ k_ ≠ Al)) (n := B0.length) (c := Cp) ?_).2.2; exact (zo ((Kd.R_mono (Kd.R_far (p := ⟨Ak, 0, none⟩) (Kd.R_types Bu.out Af.out (by decide)) (fun _ hk => hk.2) (.slice Cz B0.length Cp)) (fun _ h_ => h_.1))))); (case side2 => exact (Kd.R_reads' Bu.out).2.1); rintro e w112 ⟨rfl, hb⟩; refine ⟨_, rfl, ?_⟩; replace Bu := Aside0.mk (Kd.R_below (zo ((Kd.R_mono (Kd.R_far (p := ⟨Ak, 0, none⟩) (Kd.R_types Bu.out Af.out (by decide)) (fun _ hk => hk.2) (.slice Cz B0.length Cp)) (fun _ h_ => h_.1)))) hb); replace Ac := zbf Ac hb; replace Aa := zbf Aa hb; replace Ad := zbf Ad hb; replace Ae := zbf Ae hb; replace Af := Aside0.mk (blk_below (g := Ak) (o := .cells #[.slice Cz B0.length Cp] 29 (0, 0)) (zj Af) hb); replace HB := zs HB hb; clear hb; obtain ⟨Io, Ha⟩ := zc1 Ad))
       refine bodyPost_ret (results_ct rfl _ _ Bn 29 #[.slice none 0 0] (0, 0) _ rfl (zj Ad) Try.underlying29 rfl (by kernel_rfl)) rfl ?_
       exact ⟨_, ze, by first | exact Kd.R_nil _ _ _ _ _ | exact Kd.N_nil _ _ _ _ _ | exact Kd.V_nil _ _ _ _ _ | exact Kd.Q_nil _ _ _ _ _ | exact Kd.S_nil _ _ _ _ _, zw HB⟩
      rw [if_neg I2] at H
      exact absurd H (by simp)
     rw [if_neg Fs] at H
     have Fr : (a1_0 == 1) = false := beq_eq_false_iff_ne.mpr Fs
     have Fq : (a1_0 != 1) = true := bne_iff_ne.mpr Fs
     by_cases Cs : a1_0 = 2
     ·rw [if_pos Cs] at H
      have Em : (a1_0 == 2) = true := beq_iff_eq.mpr Cs
      have El : (a1_0 != 2) = false := bne_eq_false_iff_eq.mpr Cs
      clear Cs
      replace H := Option.bind_eq_some_iff.mp H
      obtain ⟨Bz, F4, H⟩ := H
      have Kj := Aside0.mk F4
      clear F4
      replace H := Option.bind_eq_some_iff.mp H
      obtain ⟨Ku, F3, H⟩ := H
      have Ki := Aside0.mk F3
      clear F3
      by_cases Ek : Ku = true
      ·subst Ek
       rw [if_pos rfl] at H
       simp only [Option.some.injEq, Prod.mk.injEq] at H
       obtain ⟨rfl, rfl⟩ := H
       go_wp2_with (first | ((with_reducible refine gate_dst (N := 8) rfl ?_); refine zx (N := 8) (cs := #[.slice none 0 0]) (t := 29) ?_; intro Ak hg w118 hbox hb; have Af := Aside0.mk (hbox); have Ch := zg HB hg; have Ci := zg HB hg; replace HB := zs HB hb; have Ao := zl Ac hg; have As := zr Ac hg; replace Ac := zb Ac hb; have Ai := zl Aa hg; have Aq := zr Aa hg; replace Aa := zb Aa hb; have Ar := zl Ad hg; have Ap := zr Ad hg; replace Ad := zb Ad hb; have Aj := zl Ae hg; have Am := zr Ae hg; replace Ae := zb Ae hb; clear hb hbox hg; have hnb119 := As.out; have hnc119 := Ao.out; have hnb120 := Aq.out; have hnc120 := Ai.out; have hnb121 := Ap.out; have hnc121 := Ar.out; have hnb122 := Am.out; have hnc122 := Aj.out; obtain ⟨In, G9⟩ := zc1 Af; have hnb124 := Ax.out; have hnc124 := Ay.out; have hnb125 := Aw.out; have hnc125 := Au.out; have hnb126 := Be.out; have hnc126 := Bc.out; obtain ⟨Im, Il, Ik, Ij, G8, G7, G6, G5⟩ := zc4 Aa; have hnb128 := Bf.out; have hnc128 := Bg.out; have hnb129 := Bb.out; have hnc129 := Bd.out; obtain ⟨Ii, Ih, Ig, G4, G3, G2⟩ := zc3 Ae; have hnb131 := Ba.out; have hnc131 := Az.out; obtain ⟨Ie, G1⟩ := zc1 Ac) | ((with_reducible refine gate_callee (f := 66) rfl ?_); refine zG (some 67) Try.func66 #[.agg #[.slice A0_0 l0_0.length c0_0], .agg #[.string Ah, .string Ab, .int .i64 (Ab.size : Int)]] ?_; (with_reducible refine (impl_withFile.calls _ _ l0_0 Ah Ab (Ab.size : Int) Bz _ ?side1 ?side2 Kj.out).mono ?_); (case side1 => exact Kd.C_below HR0_0.out (zw HB)); (case side2 => exact Bq.out); rintro e w133 ⟨Kq, rfl, B1, hb⟩; refine ⟨_, rfl, ?_⟩; have Bt := Aside0.mk (Kd.R_lower (Kd.R_newB B1 (g := Al) (o := .cells #[.string Ah, .string Ab, .int .i64 (Ab.size : Int)] 45 (0, 0)) (zj Ae)) (below_size (zw HB))); replace Ac := zbf Ac hb; replace Aa := zbf Aa hb; replace Ad := zbf Ad hb; replace Ae := Aside0.mk (blk_below (g := Al) (o := .cells #[.string Ah, .string Ab, .int .i64 (Ab.size : Int)] 45 (0, 0)) (zj Ae) hb); replace Af := Aside0.mk (blk_below (g := Ak) (o := .cells #[.slice none 0 0] 29 (0, 0)) (zj Af) hb); replace HB := zs HB hb; clear B1 hb; obtain ⟨Ck, Cd, J1⟩ := Kd.R_slice Bt.out; subst J1; obtain ⟨Id, G0⟩ := zc1 Af) | ((with_reducible refine gate_callee (f := 15) rfl ?_); refine zG (some 94) Try.func15 #[.agg #[.slice Ck Bz.length Cd]] ?_; (with_reducible refine (impl_DiskOk.calls Cu _ _ Bz true _ ?side1 ?side2 Ki.out).mono ?_); (case side1 => refine (Kd.R_reads' (e := 45) (base := w.heap.size) (ok := fun k_ => (True ∧ k_ ≠ Al)) (n := Bz.length) (c := Cd) ?_).2.2; exact (zo ((Kd.R_mono (Kd.R_far (p := ⟨Ak, 0, none⟩) (Kd.R_types Bt.out Af.out (by decide)) (fun _ hk => hk.2) (.slice Ck Bz.length Cd)) (fun _ h_ => h_.1))))); (case side2 => exact (Kd.R_reads' Bt.out).2.1); rintro e w136 ⟨rfl, hb⟩; refine ⟨_, rfl, ?_⟩; replace Bt := Aside0.mk (Kd.R_below (zo ((Kd.R_mono (Kd.R_far (p := ⟨Ak, 0, none⟩) (Kd.R_types Bt.out Af.out (by decide)) (fun _ hk => hk.2) (.slice Ck Bz.length Cd)) (fun _ h_ => h_.1)))) hb); replace Ac := zbf Ac hb; replace Aa := zbf Aa hb; replace Ad := zbf Ad hb; replace Ae := zbf Ae hb; replace Af := Aside0.mk (blk_below (g := Ak) (o := .cells #[.slice Ck Bz.length Cd] 29 (0, 0)) (zj Af) hb); replace HB := zs HB hb; clear hb; obtain ⟨Ic, Gz⟩ := zc1 Af; obtain ⟨Ib, Gy⟩ := zc1 Ad))
       refine bodyPost_ret (results_ct rfl _ _ Bn 29 #[.slice Ck Bz.length Cd] (0, 0) _ rfl (zj Ad) Try.underlying29 rfl (by kernel_rfl)) rfl ?_
       exact ⟨_, ze, zo (Kd.R_mono (Kd.R_far (p := ⟨Bn, 0, none⟩) (Kd.R_types Bt.out Ad.out (by decide)) (fun _ hk => hk.2) (.slice Ck Bz.length Cd)) (fun _ hk => trivial)), zw HB⟩
      replace Ek := Bool.eq_false_iff.mpr Ek
      subst Ek
      rw [if_neg (show ¬ (false = true) by decide)] at H
      simp only [Option.some.injEq, Prod.mk.injEq] at H
      obtain ⟨rfl, rfl⟩ := H
      go_wp2_with (first | ((with_reducible refine gate_dst (N := 8) rfl ?_); refine zx (N := 8) (cs := #[.slice none 0 0]) (t := 29) ?_; intro Ak hg w139 hbox hb; have Af := Aside0.mk (hbox); have Ch := zg HB hg; have Ci := zg HB hg; replace HB := zs HB hb; have Ao := zl Ac hg; have As := zr Ac hg; replace Ac := zb Ac hb; have Ai := zl Aa hg; have Aq := zr Aa hg; replace Aa := zb Aa hb; have Ar := zl Ad hg; have Ap := zr Ad hg; replace Ad := zb Ad hb; have Aj := zl Ae hg; have Am := zr Ae hg; replace Ae := zb Ae hb; clear hb hbox hg; have hnb140 := As.out; have hnc140 := Ao.out; have hnb141 := Aq.out; have hnc141 := Ai.out; have hnb142 := Ap.out; have hnc142 := Ar.out; have hnb143 := Am.out; have hnc143 := Aj.out; obtain ⟨Ia, Gx⟩ := zc1 Af; have hnb145 := Ax.out; have hnc145 := Ay.out; have hnb146 := Aw.out; have hnc146 := Au.out; have hnb147 := Be.out; have hnc147 := Bc.out; obtain ⟨H9, H8, H7, H6, Gw, Gv, Gu, Gt⟩ := zc4 Aa; have hnb149 := Bf.out; have hnc149 := Bg.out; have hnb150 := Bb.out; have hnc150 := Bd.out; obtain ⟨H5, H4, H2, Gs, Gr, Gq⟩ := zc3 Ae; have hnb152 := Ba.out; have hnc152 := Az.out; obtain ⟨H1, Gp⟩ := zc1 Ac) | ((with_reducible refine gate_callee (f := 66) rfl ?_); refine zG (some 67) Try.func66 #[.agg #[.slice A0_0 l0_0.length c0_0], .agg #[.string Ah, .string Ab, .int .i64 (Ab.size : Int)]] ?_; (with_reducible refine (impl_withFile.calls _ _ l0_0 Ah Ab (Ab.size : Int) Bz _ ?side1 ?side2 Kj.out).mono ?_); (case side1 => exact Kd.C_below HR0_0.out (zw HB)); (case side2 => exact Bq.out); rintro e w154 ⟨Kq, rfl, B1, hb⟩; refine ⟨_, rfl, ?_⟩; have Bt := Aside0.mk (Kd.R_lower (Kd.R_newB B1 (g := Al) (o := .cells #[.string Ah, .string Ab, .int .i64 (Ab.size : Int)] 45 (0, 0)) (zj Ae)) (below_size (zw HB))); replace Ac := zbf Ac hb; replace Aa := zbf Aa hb; replace Ad := zbf Ad hb; replace Ae := Aside0.mk (blk_below (g := Al) (o := .cells #[.string Ah, .string Ab, .int .i64 (Ab.size : Int)] 45 (0, 0)) (zj Ae) hb); replace Af := Aside0.mk (blk_below (g := Ak) (o := .cells #[.slice none 0 0] 29 (0, 0)) (zj Af) hb); replace HB := zs HB hb; clear B1 hb; obtain ⟨Cy, Co, J0⟩ := Kd.R_slice Bt.out; subst J0; obtain ⟨H0, Gn⟩ := zc1 Af) | ((with_reducible refine gate_callee (f := 15) rfl ?_); refine zG (some 94) Try.func15 #[.agg #[.slice Cy Bz.length Co]] ?_; (with_reducible refine (impl_DiskOk.calls Cu _ _ Bz false _ ?side1 ?side2 Ki.out).mono ?_); (case side1 => refine (Kd.R_reads' (e := 45) (base := w.heap.size) (ok := fun k_ => (True ∧ k_ ≠ Al)) (n := Bz.length) (c := Co) ?_).2.2; exact (zo ((Kd.R_mono (Kd.R_far (p := ⟨Ak, 0, none⟩) (Kd.R_types Bt.out Af.out (by decide)) (fun _ hk => hk.2) (.slice Cy Bz.length Co)) (fun _ h_ => h_.1))))); (case side2 => exact (Kd.R_reads' Bt.out).2.1); rintro e w157 ⟨rfl, hb⟩; refine ⟨_, rfl, ?_⟩; replace Bt := Aside0.mk (Kd.R_below (zo ((Kd.R_mono (Kd.R_far (p := ⟨Ak, 0, none⟩) (Kd.R_types Bt.out Af.out (by decide)) (fun _ hk => hk.2) (.slice Cy Bz.length Co)) (fun _ h_ => h_.1)))) hb); replace Ac := zbf Ac hb; replace Aa := zbf Aa hb; replace Ad := zbf Ad hb; replace Ae := zbf Ae hb; replace Af := Aside0.mk (blk_below (g := Ak) (o := .cells #[.slice Cy Bz.length Co] 29 (0, 0)) (zj Af) hb); replace HB := zs HB hb; clear hb; obtain ⟨Hz, Gm⟩ := zc1 Ad))
      refine bodyPost_ret (results_ct rfl _ _ Bn 29 #[.slice none 0 0] (0, 0) _ rfl (zj Ad) Try.underlying29 rfl (by kernel_rfl)) rfl ?_
      exact ⟨_, ze, by first | exact Kd.R_nil _ _ _ _ _ | exact Kd.N_nil _ _ _ _ _ | exact Kd.V_nil _ _ _ _ _ | exact Kd.Q_nil _ _ _ _ _ | exact Kd.S_nil _ _ _ _ _, zw HB⟩
     rw [if_neg Cs] at H
     have Em : (a1_0 == 2) = false := beq_eq_false_iff_ne.mpr Cs
     have El : (a1_0 != 2) = true := bne_iff_ne.mpr Cs
     by_cases Cr : a1_0 = 3
     ·rw [if_pos Cr] at H
      have Ej : (a1_0 == 3) = true := beq_iff_eq.mpr Cr
      have Ei : (a1_0 != 3) = false := bne_eq_false_iff_eq.mpr Cr
      clear Cr
      have Eo := Aside0.mk H
      clear H
      go_upto_region 17 with (first | ((with_reducible refine gate_dst (N := 8) rfl ?_); refine zx (N := 8) (cs := #[.slice none 0 0]) (t := 29) ?_; intro Ak hg w161 hbox hb; have Af := Aside0.mk (hbox); have Ch := zg HB hg; have Ci := zg HB hg; replace HB := zs HB hb; have Ao := zl Ac hg; have As := zr Ac hg; replace Ac := zb Ac hb; have Ai := zl Aa hg; have Aq := zr Aa hg; replace Aa := zb Aa hb; have Ar := zl Ad hg; have Ap := zr Ad hg; replace Ad := zb Ad hb; have Aj := zl Ae hg; have Am := zr Ae hg; replace Ae := zb Ae hb; clear hb hbox hg; have hnb162 := As.out; have hnc162 := Ao.out; have hnb163 := Aq.out; have hnc163 := Ai.out; have hnb164 := Ap.out; have hnc164 := Ar.out; have hnb165 := Am.out; have hnc165 := Aj.out; obtain ⟨Hy, Gl⟩ := zc1 Af; have hnb167 := Ax.out; have hnc167 := Ay.out; have hnb168 := Aw.out; have hnc168 := Au.out; have hnb169 := Be.out; have hnc169 := Bc.out; obtain ⟨Hx, Hw, Hv, Hu, Gk, Gj, Gi, Gh⟩ := zc4 Aa))
      (try simp only [Act.put, zA, zB, zC])
      go_cut [82] (fun Lj wc => ∃ (kq : Nat) (Cb : Bool), Lj = .bool Cb ∧ Aside0 (impl_DoAct.j2 kq Cb l0_0 a1_0 a1_1 a1_2 a1_3 Ah Ab Ag = some (r1, r2)) ∧ Aside0 (kq ≤ Cu) ∧ Aside0 (wc.heap[Cm]? = some (.cells #[(.slice A0_0 l0_0.length c0_0)] 29 (0, 0))) ∧ Aside0 (wc.heap[Bw]? = some (.cells #[.int .i64 a1_0, .string a1_1, .string a1_2, .string a1_3] 55 (0, 0))) ∧ Aside0 (wc.heap[Bn]? = some (.cells #[(.slice none 0 0)] 29 (0, 0))) ∧ Aside0 (wc.heap[Al]? = some (.cells #[.string Ah, .string Ab, .int .i64 Ag] 45 (0, 0))) ∧ Aside0 (wc.heap[Ak]? = some (.cells #[(.slice none 0 0)] 29 (0, 0))) ∧ Aside0 (Below w.heap.size w wc))
      case first =>
       have H := Eo.out
       clear Eo
       by_cases Cq : Ag = (Ab.size : Int)
       ·rw [if_pos Cq] at H
        have B2 : (Ag == (Ab.size : Int)) = true := beq_iff_eq.mpr Cq
        have Eh : (Ag != (Ab.size : Int)) = false := bne_eq_false_iff_eq.mpr Cq
        clear Cq
        (first | rw [B2] | (simp only [i64_w, i32_w]; rw [B2]) | skip)
        have H' := Aside0.mk H
        clear H
        have hnb172 := Bf.out
        have hnc172 := Bg.out
        have hnb173 := Bc.out
        have hnc173 := Be.out
        have hnb174 := Bb.out
        have hnc174 := Bd.out
        have hnb175 := Aj.out
        have hnc175 := Am.out
        obtain ⟨Ht, Hs, Hr, Gg, Gf, Ge⟩ := zc3 Ae
        have hnb177 := Ax.out
        have hnc177 := Ay.out
        have hnb178 := Aw.out
        have hnc178 := Au.out
        have hnb179 := Ai.out
        have hnc179 := Aq.out
        obtain ⟨Hq, Hp, Ho, Hn, Gd, Gc, Gb, Ga⟩ := zc4 Aa
        go_wp2
        go_meet
        case rel => exact ⟨_, ((a1_3.toList == a1_1.toList)), zf, H', ⟨by have := HJ3.out; have := HJ48.out; first | omega | exact Nat.le_refl _⟩, ⟨zkf Ac⟩, ⟨zkf Aa⟩, ⟨zkf Ad⟩, ⟨zkf Ae⟩, ⟨zj Af⟩, ⟨zw HB⟩⟩
       rw [if_neg Cq] at H
       have B2 : (Ag == (Ab.size : Int)) = false := beq_eq_false_iff_ne.mpr Cq
       have Eh : (Ag != (Ab.size : Int)) = true := bne_iff_ne.mpr Cq
       (first | rw [B2] | (simp only [i64_w, i32_w]; rw [B2]) | skip)
       have H' := Aside0.mk H
       clear H
       have hnb181 := Bf.out
       have hnc181 := Bg.out
       have hnb182 := Bc.out
       have hnc182 := Be.out
       have hnb183 := Bb.out
       have hnc183 := Bd.out
       have hnb184 := Aj.out
       have hnc184 := Am.out
       obtain ⟨Hm, Hl, Hk, F9, F8, F7⟩ := zc3 Ae
       go_wp2
       go_meet
       case rel => exact ⟨_, (true), zf, H', ⟨by have := HJ3.out; have := HJ48.out; first | omega | exact Nat.le_refl _⟩, ⟨zkf Ac⟩, ⟨zkf Aa⟩, ⟨zkf Ad⟩, ⟨zkf Ae⟩, ⟨zj Af⟩, ⟨zw HB⟩⟩
      case rest =>
       clear Eo
       try clear c1
       try clear p1
       try clear q1
       try clear Lm
       try clear c2
       try clear p2
       try clear c3
       try clear c4
       try clear c5
       try clear c6
       try clear c7
       try clear c8
       try clear c9
       try clear c10
       try clear Lf
       try clear c12
       try clear c13
       try clear K2
       try clear K1
       try clear Kw
       try clear c14
       try clear I0
       try clear c16
       try clear Iz
       try clear Et
       try clear Ca
       try clear Le
       try clear Ld
       try clear Lc
       try clear Lb
       try clear La
       try clear K9
       try clear K8
       try clear K7
       try clear K6
       try clear K5
       try clear K4
       try clear K3
       try clear I5
       try clear Ly
       try clear Lx
       try clear Lw
       try clear Lv
       try clear Lu
       try clear Lt
       try clear Ls
       try clear Fv
       try clear Ce
       try clear I4
       try clear Fu
       try clear I3
       try clear Ft
       try clear Lr
       try clear Lq
       try clear Lp
       try clear Lo
       try clear Ln
       try clear Fs
       try clear Fr
       try clear Fq
       try clear I2
       try clear J6
       try clear J5
       try clear J4
       try clear J3
       try clear c74
       try clear c75
       try clear c76
       try clear c77
       try clear c79
       try clear c80
       try clear c81
       try clear c83
       try clear c84
       try clear c86
       try clear c95
       try clear c96
       try clear c97
       try clear c98
       try clear c100
       try clear c101
       try clear c102
       try clear c104
       try clear c105
       try clear c107
       try clear Cs
       try clear Em
       try clear El
       try clear Ek
       try clear c119
       try clear c120
       try clear c121
       try clear c122
       try clear c124
       try clear c125
       try clear c126
       try clear c128
       try clear c129
       try clear c131
       try clear C1
       try clear C0
       try clear hx138
       try clear c140
       try clear c141
       try clear c142
       try clear c143
       try clear c145
       try clear c146
       try clear c147
       try clear c149
       try clear c150
       try clear c152
       try clear Cr
       try clear Ej
       try clear Ei
       try clear c162
       try clear c163
       try clear c164
       try clear c165
       try clear c167
       try clear c168
       try clear c169
       try clear Cq
       try clear B2
       try clear Eh
       try clear c172
       try clear c173
       try clear c174
       try clear c175
       try clear c177
       try clear c178
       try clear c179
       try clear c181
       try clear c182
       try clear c183
       try clear c184
       try clear Iy
       try clear Ix
       try clear Iw
       try clear Iv
       try clear Iu
       try clear Is
       try clear Ir
       try clear Iq
       try clear Eg
       try clear Ip
       try clear Io
       try clear In
       try clear Im
       try clear Il
       try clear Ik
       try clear Ij
       try clear Ef
       try clear Ee
       try clear Ed
       try clear Ec
       try clear Ii
       try clear Ih
       try clear Ig
       try clear Ie
       try clear Id
       try clear Ic
       try clear Ib
       try clear Ia
       try clear H9
       try clear H8
       try clear H7
       try clear H6
       try clear H5
       try clear H4
       try clear H2
       try clear H1
       try clear H0
       try clear Hz
       try clear Hy
       try clear Hx
       try clear Hw
       try clear Hv
       try clear Hu
       try clear Ht
       try clear Hs
       try clear Hr
       try clear Hq
       try clear Hp
       try clear Ho
       try clear Hn
       try clear Hm
       try clear Hl
       try clear Hk
       try clear Eb
       try clear Ea
       try clear D9
       try clear D8
       try clear D7
       try clear D6
       try clear D5
       try clear D4
       try clear D3
       try clear D2
       try clear D1
       try clear D0
       try clear Dz
       try clear Dy
       try clear Dx
       try clear Dw
       try clear Dv
       try clear Du
       try clear Dt
       try clear Ds
       try clear Fi
       try clear Fh
       try clear Fg
       try clear Ff
       try clear Fe
       try clear Fd
       try clear Fc
       try clear Fb
       try clear Fa
       try clear E9
       try clear E8
       try clear E7
       try clear Jx
       try clear Jw
       try clear Jv
       try clear Ju
       try clear Jt
       try clear Js
       try clear Jr
       try clear Jq
       try clear Jp
       try clear Jo
       try clear Jn
       try clear Jm
       try clear Jl
       try clear Hj
       try clear Hi
       try clear Hh
       try clear Hg
       try clear Hf
       try clear He
       try clear Hd
       try clear Hc
       try clear Dr
       try clear Hb
       try clear Ha
       try clear G9
       try clear G8
       try clear G7
       try clear G6
       try clear G5
       try clear Dq
       try clear Dp
       try clear Do
       try clear Dn
       try clear G4
       try clear G3
       try clear G2
       try clear G1
       try clear G0
       try clear Gz
       try clear Gy
       try clear Gx
       try clear Gw
       try clear Gv
       try clear Gu
       try clear Gt
       try clear Gs
       try clear Gr
       try clear Gq
       try clear Gp
       try clear Gn
       try clear Gm
       try clear Gl
       try clear Gk
       try clear Gj
       try clear Gi
       try clear Gh
       try clear Gg
       try clear Gf
       try clear Ge
       try clear Gd
       try clear Gc
       try clear Gb
       try clear Ga
       try clear F9
       try clear F8
       try clear F7
       try clear Dm
       try clear Dl
       try clear Dk
       try clear Dj
       try clear Di
       try clear Dh
       try clear Dg
       try clear Df
       try clear De
       try clear Dd
       try clear Dc
       try clear Db
       try clear Da
       try clear C9
       try clear C8
       try clear C7
       try clear C6
       try clear C5
       try clear C4
       try clear C3
       try clear E6
       try clear E5
       try clear E4
       try clear E3
       try clear E2
       try clear E1
       try clear E0
       try clear Ez
       try clear Ey
       try clear Ex
       try clear Ew
       try clear Eu
       try clear Jk
       try clear Jj
       try clear Ji
       try clear Jh
       try clear Jg
       try clear Jf
       try clear Je
       try clear Jd
       try clear Jc
       try clear Jb
       try clear Ja
       try clear I9
       try clear I8
       try clear Bh
       try clear Bj
       try clear Bi
       try clear p1
       try clear K2
       try clear C1
       try clear p2
       try clear q1
       try clear K1
       try clear C0
       obtain ⟨kq, Cb, rfl, HA, HJ159, Ac, Aa, Ad, Ae, Af, HB⟩ := hcut
       cases kq with
       | zero => exact absurd HA.out (by simp [impl_DoAct.j2])
       | succ Fj =>
        have H := HA.out
        clear HA
        simp only [impl_DoAct.j2] at H
        by_cases Es : Cb = true
        ·subst Es
         rw [if_pos rfl] at H
         simp only [Option.some.injEq, Prod.mk.injEq] at H
         obtain ⟨rfl, rfl⟩ := H
         have hnb187 := Az.out
         have hnc187 := Ba.out
         have hnb188 := Au.out
         have hnc188 := Aw.out
         have hnb189 := Bd.out
         have hnc189 := Bb.out
         have hnb190 := Ar.out
         have hnc190 := Ap.out
         obtain ⟨_, _⟩ := zc1 Ad
         go_wp2
         refine bodyPost_ret (results_ct rfl _ _ Bn 29 #[.slice none 0 0] (0, 0) _ rfl (zj Ad) Try.underlying29 rfl (by kernel_rfl)) rfl ?_
         exact ⟨_, ze, by first | exact Kd.R_nil _ _ _ _ _ | exact Kd.N_nil _ _ _ _ _ | exact Kd.V_nil _ _ _ _ _ | exact Kd.Q_nil _ _ _ _ _ | exact Kd.S_nil _ _ _ _ _, zw HB⟩
        replace Es := Bool.eq_false_iff.mpr Es
        subst Es
        rw [if_neg (show ¬ (false = true) by decide)] at H
        replace H := Option.bind_eq_some_iff.mp H
        obtain ⟨Cl, F2, H⟩ := H
        have Kf := Aside0.mk F2
        clear F2
        replace H := Option.bind_eq_some_iff.mp H
        obtain ⟨Bv, F1, H⟩ := H
        have Ke := Aside0.mk F1
        clear F1
        replace H := Option.bind_eq_some_iff.mp H
        obtain ⟨Kt, F0, H⟩ := H
        have Kb := Aside0.mk F0
        clear F0
        by_cases Er : Kt = true
        ·subst Er
         rw [if_pos rfl] at H
         simp only [Option.some.injEq, Prod.mk.injEq] at H
         obtain ⟨rfl, rfl⟩ := H
         have hnb196 := Ax.out
         have hnc196 := Ay.out
         have hnb197 := Aw.out
         have hnc197 := Au.out
         have hnb198 := Be.out
         have hnc198 := Bc.out
         have hnb199 := Ai.out
         have hnc199 := Aq.out
         obtain ⟨_, _, _, _, _, _, _, _⟩ := zc4 Aa
         have hnb201 := Bf.out
         have hnc201 := Bg.out
         have hnb202 := Bb.out
         have hnc202 := Bd.out
         have hnb203 := Aj.out
         have hnc203 := Am.out
         obtain ⟨_, _, _, _, _, _⟩ := zc3 Ae
         try go_wp2
         obtain ⟨I7, hq_⟩ : ∃ v_, wc.setCell ⟨Al, 0, none⟩ (.string a1_3) = v_ := ⟨_, rfl⟩
         replace Ac := zjq hq_ Ac
         replace Aa := zjq hq_ Aa
         replace Ad := zjq hq_ Ad
         replace Ae : Aside0 (I7.heap[Al]? = some (.cells #[.string a1_3, .string Ab, .int .i64 Ag] 45 (0, 0))) := ⟨hq_ ▸ (zj Ae)⟩
         replace Af := zjq hq_ Af
         replace HB := zwq hq_ HB
         (try rw [hq_])
         clear hq_
         replace Ac := zd1 Ac
         replace Aa := zd1 Aa
         replace Ad := zd1 Ad
         replace Ae := zd1 Ae
         replace Af := zd1 Af
         replace HB := zd2 HB
         refine start_ (n := 7) (S := fun w' => w'.cell? ⟨Cm, 0, none⟩ = some (.slice A0_0 l0_0.length c0_0) ∧ w'.cell? ⟨Bw, 0, none⟩ = some (.int .i64 a1_0) ∧ w'.cell? ⟨Bw, 1, none⟩ = some (.string a1_1) ∧ w'.cell? ⟨Bw, 2, none⟩ = some (.string a1_2) ∧ w'.cell? ⟨Bw, 3, none⟩ = some (.string a1_3) ∧ w'.cell? ⟨Al, 0, none⟩ = some (.string a1_3) ∧ w'.cell? ⟨Al, 1, none⟩ = some (.string Ab) ∧ w'.cell? ⟨Al, 2, none⟩ = some (.int .i64 Ag)) (ds := []) q5_0 (by kernel_rfl) rfl rfl ⟨zv Ac, zv Aa, zv Aa, zv Aa, zv Aa, zv Ae, zv Ae, zv Ae⟩ (fun hHeld => ?_)
         generalize I7.drew = w206 at Ac Aa Ad Ae Af HB hHeld ⊢
         refine pure_ (i := 1) (N := some 88) (v := ?_) (a' := ?_) q5_1 rfl rfl (by kernel_rfl) (fun _ _ _ h => h) (Or.inl ⟨by rfl, ?_⟩) ?_ ?_
         rotate_left
         ·intro w'
          go_simp
          with_reducible rfl
         rotate_left
         ·simp only [Act.put, zA, zB, zC, i64_w, i32_w]
          rfl
         refine take_ (i := 0) (N := some 87) (v := ?_) (a' := ?_) q5_2 rfl rfl (by kernel_rfl) (fun _ _ _ h => h) (Or.inl ⟨by rfl, ?_⟩) hHeld ?_ ?_
         rotate_left
         ·rintro w' ⟨s0, s1, s2, s3, s4, s5, s6, s7⟩
          go_simp
          with_reducible rfl
         rotate_left
         ·simp only [Act.put, zA, zB, zC, i64_w, i32_w]
          rfl
         refine take_ (i := 2) (N := some 89) (v := ?_) (a' := ?_) q5_3 rfl rfl (by kernel_rfl) (fun _ _ _ h => h) (Or.inl ⟨by rfl, ?_⟩) hHeld ?_ ?_
         rotate_left
         ·rintro w' ⟨s0, s1, s2, s3, s4, s5, s6, s7⟩
          go_simp
          with_reducible rfl
         rotate_left
         ·simp only [Act.put, zA, zB, zC, i64_w, i32_w]
          rfl
         refine take_ (i := 4) (N := some 91) (v := ?_) (a' := ?_) q5_4 rfl rfl (by kernel_rfl) (fun _ _ _ h => h) (Or.inl ⟨by rfl, ?_⟩) hHeld ?_ ?_
         rotate_left
         ·rintro w' ⟨s0, s1, s2, s3, s4, s5, s6, s7⟩
          go_simp
          with_reducible rfl
         rotate_left
         ·simp only [Act.put, zA, zB, zC, i64_w, i32_w]
          rfl
         refine one_ (i := 3) (N := some 90) q5_5 rfl rfl (by kernel_rfl) (by decide) (fun K hK => ?_)
         refine zH Try.func67 #[.agg #[.slice A0_0 l0_0.length c0_0], .string a1_1] ?_
         with_reducible refine (impl_withoutFile.calls _ _ l0_0 a1_1 Cl _ ?side1 ?side2 Kf.out).mono ?_
         (case side1 => exact zI (Kd.C_below HR0_0.out HB.out))
         (case side2 => exact Bq.out)
         rintro e w207 ⟨Kp, rfl, B1, hb⟩
         refine ⟨_, rfl, ?_⟩
         have Bo := Aside0.mk (Kd.R_lower (Kd.R_newB B1 (g := Al) (o := .cells #[.string a1_3, .string Ab, .int .i64 Ag] 45 (0, 0)) (zk Ae)) (below_size (zw HB)))
         replace Ac := zb Ac hb
         replace Aa := zb Aa hb
         replace Ad := zb Ad hb
         replace Ae := zb Ae hb
         replace Af := zb Af hb
         replace HB := zs HB hb
         (try clear hb)
         (try clear hb2)
         (try clear hk)
         (try clear hi)
         (try clear B1)
         obtain ⟨Fx, Fp, Fn⟩ := Kd.R_slice Bo.out
         (first | subst Fn | (injection Fn with f1_ f2_ f3_; have f4_ := f1_.symm; have f5_ := f3_.symm; clear f1_ f2_ f3_; subst f4_; subst f5_))
         refine hK.out _ _ ⟨zv Ac, zv Aa, zv Aa, zv Aa, zv Aa, zv Ae, zv Ae, zv Ae⟩ (fun hHeld => ?_)
         clear hK K
         refine zN ?_
         refine one_ (i := 5) (N := some 92) q5_6 rfl rfl (by kernel_rfl) (by decide) (fun K hK => ?_)
         refine zH Try.func66 #[.agg #[.slice Fx Cl.length Fp], .agg #[.string a1_3, .string Ab, .int .i64 Ag]] ?_
         with_reducible refine (impl_withFile.calls _ _ Cl a1_3 Ab Ag Bv _ ?side1 ?side2 Ke.out).mono ?_
         (case side1 => exact zI (Kd.R_reads' Bo.out).2.2)
         (case side2 => exact (Kd.R_reads' Bo.out).2.1)
         rintro e Km ⟨Ko, rfl, B1, hb⟩
         refine ⟨_, rfl, ?_⟩
         have Bs := Aside0.mk (Kd.R_lower (Kd.R_newB (Kd.R_new' B1 (Kd.R_lt (zo Bo.out))) (g := Al) (o := .cells #[.string a1_3, .string Ab, .int .i64 Ag] 45 (0, 0)) (zk Ae)) (below_size (zw HB)))
         replace Bo := Aside0.mk (Kd.R_elder' (zo Bo.out) (Kd.R_base B1) hb)
         replace Ac := zb Ac hb
         replace Aa := zb Aa hb
         replace Ad := zb Ad hb
         replace Ae := zb Ae hb
         replace Af := zb Af hb
         replace HB := zs HB hb
         (try clear hb)
         (try clear hb2)
         (try clear hk)
         (try clear hi)
         (try clear B1)
         obtain ⟨Cf, B8, Fm⟩ := Kd.R_slice Bs.out
         (first | subst Fm | (injection Fm with f1_ f2_ f3_; have f4_ := f1_.symm; have f5_ := f3_.symm; clear f1_ f2_ f3_; subst f4_; subst f5_))
         refine hK.out _ _ ⟨zv Ac, zv Aa, zv Aa, zv Aa, zv Aa, zv Ae, zv Ae, zv Ae⟩ (fun hHeld => ?_)
         clear hK K
         refine zN ?_
         refine one_ (i := 6) (N := none) q5_7 rfl rfl (by kernel_rfl) (by decide) (fun K hK => ?_)
         have hs211 : Km.cell? ⟨Ak, 0, none⟩ = some (.slice none 0 0) := zv Af
         have hfs211 := blk_frozen Af.out 0
         have hns211_0 := Ao.out
         have hns211_1 := Ai.out
         have hns211_2 := Ar.out
         have hns211_3 := Aj.out
         have hms211_0 := As.out
         have hms211_1 := Aq.out
         have hms211_2 := Ap.out
         have hms211_3 := Am.out
         refine skip_ (w1 := ?_) (by rfl) rfl ?_ ?_
         rotate_left
         ·go_simp
          rfl
         refine hK.out _ _ ⟨((cell_far (p := ⟨Ak, _, none⟩) Ao.out _).trans (hHeld.1)), ((cell_far (p := ⟨Ak, _, none⟩) Ai.out _).trans (hHeld.2.1)), ((cell_far (p := ⟨Ak, _, none⟩) Ai.out _).trans (hHeld.2.2.1)), ((cell_far (p := ⟨Ak, _, none⟩) Ai.out _).trans (hHeld.2.2.2.1)), ((cell_far (p := ⟨Ak, _, none⟩) Ai.out _).trans (hHeld.2.2.2.2.1)), ((cell_far (p := ⟨Ak, _, none⟩) Aj.out _).trans (hHeld.2.2.2.2.2.1)), ((cell_far (p := ⟨Ak, _, none⟩) Aj.out _).trans (hHeld.2.2.2.2.2.2.1)), ((cell_far (p := ⟨Ak, _, none⟩) Aj.out _).trans (hHeld.2.2.2.2.2.2.2))⟩ (fun hHeld => ?_)
         clear hK K
         refine done_ (by kernel_rfl) ?_
         have hnb212 := As.out
         have hnc212 := Ao.out
         have hnb213 := Ap.out
         have hnc213 := Ar.out
         obtain ⟨_, _⟩ := zc1 Af
         try go_wp2_with (first | ((with_reducible refine gate_callee (f := 15) rfl ?_); refine zG (some 94) Try.func15 #[.agg #[.slice Cf Bv.length B8]] ?_; (with_reducible refine (impl_DiskOk.calls Fj _ _ Bv true _ ?side1 ?side2 Kb.out).mono ?_); (case side1 => refine (Kd.R_reads' (e := 45) (base := w.heap.size) (ok := fun k_ => ((True ∧ some k_ ≠ (.slice Fx Cl.length Fp : Value).ownBlock) ∧ k_ ≠ Al)) (n := Bv.length) (c := B8) ?_).2.2; exact (zo ((Kd.R_mono (Kd.R_far (p := ⟨Ak, 0, none⟩) (Kd.R_types Bs.out Af.out (by decide)) (fun _ hk => hk.2) (.slice Cf Bv.length B8)) (fun _ h_ => h_.1))))); (case side2 => exact (Kd.R_reads' Bs.out).2.1); rintro e w215 ⟨rfl, hb⟩; refine ⟨_, rfl, ?_⟩; replace Bo := Aside0.mk (Kd.R_below (zo ((Kd.R_mono (Kd.R_far (p := ⟨Ak, 0, none⟩) (Kd.R_types Bo.out Af.out (by decide)) (fun _ hk => hk.2) (.slice Cf Bv.length B8)) (fun _ h_ => h_.1)))) hb); replace Bs := Aside0.mk (Kd.R_below (zo ((Kd.R_mono (Kd.R_far (p := ⟨Ak, 0, none⟩) (Kd.R_types Bs.out Af.out (by decide)) (fun _ hk => hk.2) (.slice Cf Bv.length B8)) (fun _ h_ => h_.1)))) hb); replace Ac := zbf Ac hb; replace Aa := zbf Aa hb; replace Ad := zbf Ad hb; replace Ae := zbf Ae hb; replace Af := Aside0.mk (blk_below (g := Ak) (o := .cells #[.slice Cf Bv.length B8] 29 (0, 0)) (zj Af) hb); replace HB := zs HB hb; clear hb; obtain ⟨_, _⟩ := zc1 Af; have hnb217 := Az.out; have hnc217 := Ba.out; obtain ⟨_, _⟩ := zc1 Ad))
         refine bodyPost_ret (results_ct rfl _ _ Bn 29 #[.slice Cf Bv.length B8] (0, 0) _ rfl (zj Ad) Try.underlying29 rfl (by kernel_rfl)) rfl ?_
         exact ⟨_, ze, zo (Kd.R_mono (Kd.R_far (p := ⟨Bn, 0, none⟩) (Kd.R_types Bs.out Ad.out (by decide)) (fun _ hk => hk.2) (.slice Cf Bv.length B8)) (fun _ hk => trivial)), zw HB⟩
        replace Er := Bool.eq_false_iff.mpr Er
        subst Er
        rw [if_neg (show ¬ (false = true) by decide)] at H
        simp only [Option.some.injEq, Prod.mk.injEq] at H
        obtain ⟨rfl, rfl⟩ := H
        have hnb219 := Ax.out
        have hnc219 := Ay.out
        have hnb220 := Aw.out
        have hnc220 := Au.out
        have hnb221 := Be.out
        have hnc221 := Bc.out
        have hnb222 := Ai.out
        have hnc222 := Aq.out
        obtain ⟨_, _, _, _, _, _, _, _⟩ := zc4 Aa
        have hnb224 := Bf.out
        have hnc224 := Bg.out
        have hnb225 := Bb.out
        have hnc225 := Bd.out
        have hnb226 := Aj.out
        have hnc226 := Am.out
        obtain ⟨_, _, _, _, _, _⟩ := zc3 Ae
        try go_wp2
        obtain ⟨I6, hq_⟩ : ∃ v_, wc.setCell ⟨Al, 0, none⟩ (.string a1_3) = v_ := ⟨_, rfl⟩
        replace Ac := zjq hq_ Ac
        replace Aa := zjq hq_ Aa
        replace Ad := zjq hq_ Ad
        replace Ae : Aside0 (I6.heap[Al]? = some (.cells #[.string a1_3, .string Ab, .int .i64 Ag] 45 (0, 0))) := ⟨hq_ ▸ (zj Ae)⟩
        replace Af := zjq hq_ Af
        replace HB := zwq hq_ HB
        (try rw [hq_])
        clear hq_
        replace Ac := zd1 Ac
        replace Aa := zd1 Aa
        replace Ad := zd1 Ad
        replace Ae := zd1 Ae
        replace Af := zd1 Af
        replace HB := zd2 HB
        refine start_ (n := 7) (S := fun w' => w'.cell? ⟨Cm, 0, none⟩ = some (.slice A0_0 l0_0.length c0_0) ∧ w'.cell? ⟨Bw, 0, none⟩ = some (.int .i64 a1_0) ∧ w'.cell? ⟨Bw, 1, none⟩ = some (.string a1_1) ∧ w'.cell? ⟨Bw, 2, none⟩ = some (.string a1_2) ∧ w'.cell? ⟨Bw, 3, none⟩ = some (.string a1_3) ∧ w'.cell? ⟨Al, 0, none⟩ = some (.string a1_3) ∧ w'.cell? ⟨Al, 1, none⟩ = some (.string Ab) ∧ w'.cell? ⟨Al, 2, none⟩ = some (.int .i64 Ag)) (ds := []) q5_0 (by kernel_rfl) rfl rfl ⟨zv Ac, zv Aa, zv Aa, zv Aa, zv Aa, zv Ae, zv Ae, zv Ae⟩ (fun hHeld => ?_)
        generalize I6.drew = w229 at Ac Aa Ad Ae Af HB hHeld ⊢
        refine pure_ (i := 1) (N := some 88) (v := ?_) (a' := ?_) q5_1 rfl rfl (by kernel_rfl) (fun _ _ _ h => h) (Or.inl ⟨by rfl, ?_⟩) ?_ ?_
        rotate_left
        ·intro w'
         go_simp
         with_reducible rfl
        rotate_left
        ·simp only [Act.put, zA, zB, zC, i64_w, i32_w]
         rfl
        refine take_ (i := 0) (N := some 87) (v := ?_) (a' := ?_) q5_2 rfl rfl (by kernel_rfl) (fun _ _ _ h => h) (Or.inl ⟨by rfl, ?_⟩) hHeld ?_ ?_
        rotate_left
        ·rintro w' ⟨s0, s1, s2, s3, s4, s5, s6, s7⟩
         go_simp
         with_reducible rfl
        rotate_left
        ·simp only [Act.put, zA, zB, zC, i64_w, i32_w]
         rfl
        refine take_ (i := 2) (N := some 89) (v := ?_) (a' := ?_) q5_3 rfl rfl (by kernel_rfl) (fun _ _ _ h => h) (Or.inl ⟨by rfl, ?_⟩) hHeld ?_ ?_
        rotate_left
        ·rintro w' ⟨s0, s1, s2, s3, s4, s5, s6, s7⟩
         go_simp
         with_reducible rfl
        rotate_left
        ·simp only [Act.put, zA, zB, zC, i64_w, i32_w]
         rfl
        refine take_ (i := 4) (N := some 91) (v := ?_) (a' := ?_) q5_4 rfl rfl (by kernel_rfl) (fun _ _ _ h => h) (Or.inl ⟨by rfl, ?_⟩) hHeld ?_ ?_
        rotate_left
        ·rintro w' ⟨s0, s1, s2, s3, s4, s5, s6, s7⟩
         go_simp
         with_reducible rfl
        rotate_left
        ·simp only [Act.put, zA, zB, zC, i64_w, i32_w]
         rfl
        refine one_ (i := 3) (N := some 90) q5_5 rfl rfl (by kernel_rfl) (by decide) (fun K hK => ?_)
        refine zH Try.func67 #[.agg #[.slice A0_0 l0_0.length c0_0], .string a1_1] ?_
        with_reducible refine (impl_withoutFile.calls _ _ l0_0 a1_1 Cl _ ?side1 ?side2 Kf.out).mono ?_
        (case side1 => exact zI (Kd.C_below HR0_0.out HB.out))
        (case side2 => exact Bq.out)
        rintro e w230 ⟨Kp, rfl, B1, hb⟩
        refine ⟨_, rfl, ?_⟩
        have Bo := Aside0.mk (Kd.R_lower (Kd.R_newB B1 (g := Al) (o := .cells #[.string a1_3, .string Ab, .int .i64 Ag] 45 (0, 0)) (zk Ae)) (below_size (zw HB)))
        replace Ac := zb Ac hb
        replace Aa := zb Aa hb
        replace Ad := zb Ad hb
        replace Ae := zb Ae hb
        replace Af := zb Af hb
        replace HB := zs HB hb
        (try clear hb)
        (try clear hb2)
        (try clear hk)
        (try clear hi)
        (try clear B1)
        obtain ⟨Fw, Fo, Fl⟩ := Kd.R_slice Bo.out
        (first | subst Fl | (injection Fl with f1_ f2_ f3_; have f4_ := f1_.symm; have f5_ := f3_.symm; clear f1_ f2_ f3_; subst f4_; subst f5_))
        refine hK.out _ _ ⟨zv Ac, zv Aa, zv Aa, zv Aa, zv Aa, zv Ae, zv Ae, zv Ae⟩ (fun hHeld => ?_)
        clear hK K
        refine zN ?_
        refine one_ (i := 5) (N := some 92) q5_6 rfl rfl (by kernel_rfl) (by decide) (fun K hK => ?_)
        refine zH Try.func66 #[.agg #[.slice Fw Cl.length Fo], .agg #[.string a1_3, .string Ab, .int .i64 Ag]] ?_
        with_reducible refine (impl_withFile.calls _ _ Cl a1_3 Ab Ag Bv _ ?side1 ?side2 Ke.out).mono ?_
        (case side1 => exact zI (Kd.R_reads' Bo.out).2.2)
        (case side2 => exact (Kd.R_reads' Bo.out).2.1)
        rintro e Kl ⟨Ko, rfl, B1, hb⟩
        refine ⟨_, rfl, ?_⟩
        have Bs := Aside0.mk (Kd.R_lower (Kd.R_newB (Kd.R_new' B1 (Kd.R_lt (zo Bo.out))) (g := Al) (o := .cells #[.string a1_3, .string Ab, .int .i64 Ag] 45 (0, 0)) (zk Ae)) (below_size (zw HB)))
        replace Bo := Aside0.mk (Kd.R_elder' (zo Bo.out) (Kd.R_base B1) hb)
        replace Ac := zb Ac hb
        replace Aa := zb Aa hb
        replace Ad := zb Ad hb
        replace Ae := zb Ae hb
        replace Af := zb Af hb
        replace HB := zs HB hb
        (try clear hb)
        (try clear hb2)
        (try clear hk)
        (try clear hi)
        (try clear B1)
        obtain ⟨Ct, Cg, Fk⟩ := Kd.R_slice Bs.out
        (first | subst Fk | (injection Fk with f1_ f2_ f3_; have f4_ := f1_.symm; have f5_ := f3_.symm; clear f1_ f2_ f3_; subst f4_; subst f5_))
        refine hK.out _ _ ⟨zv Ac, zv Aa, zv Aa, zv Aa, zv Aa, zv Ae, zv Ae, zv Ae⟩ (fun hHeld => ?_)
        clear hK K
        refine zN ?_
        refine one_ (i := 6) (N := none) q5_7 rfl rfl (by kernel_rfl) (by decide) (fun K hK => ?_)
        have hs234 : Kl.cell? ⟨Ak, 0, none⟩ = some (.slice none 0 0) := zv Af
        have hfs234 := blk_frozen Af.out 0
        have hns234_0 := Ao.out
        have hns234_1 := Ai.out
        have hns234_2 := Ar.out
        have hns234_3 := Aj.out
        have hms234_0 := As.out
        have hms234_1 := Aq.out
        have hms234_2 := Ap.out
        have hms234_3 := Am.out
        refine skip_ (w1 := ?_) (by rfl) rfl ?_ ?_
        rotate_left
        ·go_simp
         rfl
        refine hK.out _ _ ⟨((cell_far (p := ⟨Ak, _, none⟩) Ao.out _).trans (hHeld.1)), ((cell_far (p := ⟨Ak, _, none⟩) Ai.out _).trans (hHeld.2.1)), ((cell_far (p := ⟨Ak, _, none⟩) Ai.out _).trans (hHeld.2.2.1)), ((cell_far (p := ⟨Ak, _, none⟩) Ai.out _).trans (hHeld.2.2.2.1)), ((cell_far (p := ⟨Ak, _, none⟩) Ai.out _).trans (hHeld.2.2.2.2.1)), ((cell_far (p := ⟨Ak, _, none⟩) Aj.out _).trans (hHeld.2.2.2.2.2.1)), ((cell_far (p := ⟨Ak, _, none⟩) Aj.out _).trans (hHeld.2.2.2.2.2.2.1)), ((cell_far (p := ⟨Ak, _, none⟩) Aj.out _).trans (hHeld.2.2.2.2.2.2.2))⟩ (fun hHeld => ?_)
        clear hK K
        refine done_ (by kernel_rfl) ?_
        have hnb235 := As.out
        have hnc235 := Ao.out
        have hnb236 := Ap.out
        have hnc236 := Ar.out
        obtain ⟨_, _⟩ := zc1 Af
        try go_wp2_with (first | ((with_reducible refine gate_callee (f := 15) rfl ?_); refine zG (some 94) Try.func15 #[.agg #[.slice Ct Bv.length Cg]] ?_; (with_reducible refine (impl_DiskOk.calls Fj _ _ Bv false _ ?side1 ?side2 Kb.out).mono ?_); (case side1 => refine (Kd.R_reads' (e := 45) (base := w.heap.size) (ok := fun k_ => ((True ∧ some k_ ≠ (.slice Fw Cl.length Fo : Value).ownBlock) ∧ k_ ≠ Al)) (n := Bv.length) (c := Cg) ?_).2.2; exact (zo ((Kd.R_mono (Kd.R_far (p := ⟨Ak, 0, none⟩) (Kd.R_types Bs.out Af.out (by decide)) (fun _ hk => hk.2) (.slice Ct Bv.length Cg)) (fun _ h_ => h_.1))))); (case side2 => exact (Kd.R_reads' Bs.out).2.1); rintro e w238 ⟨rfl, hb⟩; refine ⟨_, rfl, ?_⟩; replace Bo := Aside0.mk (Kd.R_below (zo ((Kd.R_mono (Kd.R_far (p := ⟨Ak, 0, none⟩) (Kd.R_types Bo.out Af.out (by decide)) (fun _ hk => hk.2) (.slice Ct Bv.length Cg)) (fun _ h_ => h_.1)))) hb); replace Bs := Aside0.mk (Kd.R_below (zo ((Kd.R_mono (Kd.R_far (p := ⟨Ak, 0, none⟩) (Kd.R_types Bs.out Af.out (by decide)) (fun _ hk => hk.2) (.slice Ct Bv.length Cg)) (fun _ h_ => h_.1)))) hb); replace Ac := zbf Ac hb; replace Aa := zbf Aa hb; replace Ad := zbf Ad hb; replace Ae := zbf Ae hb; replace Af := Aside0.mk (blk_below (g := Ak) (o := .cells #[.slice Ct Bv.length Cg] 29 (0, 0)) (zj Af) hb); replace HB := zs HB hb; clear hb; have hnb239 := Az.out; have hnc239 := Ba.out; obtain ⟨_, _⟩ := zc1 Ad))
        refine bodyPost_ret (results_ct rfl _ _ Bn 29 #[.slice none 0 0] (0, 0) _ rfl (zj Ad) Try.underlying29 rfl (by kernel_rfl)) rfl ?_
        exact ⟨_, ze, by first | exact Kd.R_nil _ _ _ _ _ | exact Kd.N_nil _ _ _ _ _ | exact Kd.V_nil _ _ _ _ _ | exact Kd.Q_nil _ _ _ _ _ | exact Kd.S_nil _ _ _ _ _, zw HB⟩
     rw [if_neg Cr] at H
     have Ej : (a1_0 == 3) = false := beq_eq_false_iff_ne.mpr Cr
     have Ei : (a1_0 != 3) = true := bne_iff_ne.mpr Cr
     replace H := Option.bind_eq_some_iff.mp H
     obtain ⟨Bx, Fz, H⟩ := H
     have Ka := Aside0.mk Fz
     clear Fz
     replace H := Option.bind_eq_some_iff.mp H
     obtain ⟨Ks, Fy, H⟩ := H
     have J9 := Aside0.mk Fy
     clear Fy
     by_cases Eq : Ks = true
     ·subst Eq
      rw [if_pos rfl] at H
      simp only [Option.some.injEq, Prod.mk.injEq] at H
      obtain ⟨rfl, rfl⟩ := H
      go_wp2_with (first | ((with_reducible refine gate_dst (N := 8) rfl ?_); refine zx (N := 8) (cs := #[.slice none 0 0]) (t := 29) ?_; intro Ak hg w244 hbox hb; have Af := Aside0.mk (hbox); have Ch := zg HB hg; have Ci := zg HB hg; replace HB := zs HB hb; have Ao := zl Ac hg; have As := zr Ac hg; replace Ac := zb Ac hb; have Ai := zl Aa hg; have Aq := zr Aa hg; replace Aa := zb Aa hb; have Ar := zl Ad hg; have Ap := zr Ad hg; replace Ad := zb Ad hb; have Aj := zl Ae hg; have Am := zr Ae hg; replace Ae := zb Ae hb; clear hb hbox hg; have hnb245 := As.out; have hnc245 := Ao.out; have hnb246 := Aq.out; have hnc246 := Ai.out; have hnb247 := Ap.out; have hnc247 := Ar.out; have hnb248 := Am.out; have hnc248 := Aj.out; obtain ⟨_, _⟩ := zc1 Af; have hnb250 := Ax.out; have hnc250 := Ay.out; have hnb251 := Aw.out; have hnc251 := Au.out; have hnb252 := Be.out; have hnc252 := Bc.out; obtain ⟨_, _, _, _, _, _, _, _⟩ := zc4 Aa; have hnb254 := Ba.out; have hnc254 := Az.out; have hnb255 := Bg.out; have hnc255 := Bf.out; obtain ⟨_, _⟩ := zc1 Ac) | ((with_reducible refine gate_callee (f := 67) rfl ?_); refine zG (some 47) Try.func67 #[.agg #[.slice A0_0 l0_0.length c0_0], .string a1_1] ?_; (with_reducible refine (impl_withoutFile.calls _ _ l0_0 a1_1 Bx _ ?side1 ?side2 Ka.out).mono ?_); (case side1 => exact Kd.C_below HR0_0.out (zw HB)); (case side2 => exact Bq.out); rintro e w257 ⟨Kn, rfl, B1, hb⟩; refine ⟨_, rfl, ?_⟩; have Br := Aside0.mk (Kd.R_lower (Kd.R_newB B1 (g := Al) (o := .cells #[.string Ah, .string Ab, .int .i64 Ag] 45 (0, 0)) (zkf Ae)) (below_size (zw HB))); replace Ac := zbf Ac hb; replace Aa := zbf Aa hb; replace Ad := zbf Ad hb; replace Ae := zbf Ae hb; replace Af := Aside0.mk (blk_below (g := Ak) (o := .cells #[.slice none 0 0] 29 (0, 0)) (zj Af) hb); replace HB := zs HB hb; clear B1 hb; obtain ⟨Cj, Cc, Jz⟩ := Kd.R_slice Br.out; subst Jz; obtain ⟨_, _⟩ := zc1 Af) | ((with_reducible refine gate_callee (f := 15) rfl ?_); refine zG (some 94) Try.func15 #[.agg #[.slice Cj Bx.length Cc]] ?_; (with_reducible refine (impl_DiskOk.calls Cu _ _ Bx true _ ?side1 ?side2 J9.out).mono ?_); (case side1 => refine (Kd.R_reads' (e := 45) (base := w.heap.size) (ok := fun k_ => (True ∧ k_ ≠ Al)) (n := Bx.length) (c := Cc) ?_).2.2; exact (zo ((Kd.R_mono (Kd.R_far (p := ⟨Ak, 0, none⟩) (Kd.R_types Br.out Af.out (by decide)) (fun _ hk => hk.2) (.slice Cj Bx.length Cc)) (fun _ h_ => h_.1))))); (case side2 => exact (Kd.R_reads' Br.out).2.1); rintro e w260 ⟨rfl, hb⟩; refine ⟨_, rfl, ?_⟩; replace Br := Aside0.mk (Kd.R_below (zo ((Kd.R_mono (Kd.R_far (p := ⟨Ak, 0, none⟩) (Kd.R_types Br.out Af.out (by decide)) (fun _ hk => hk.2) (.slice Cj Bx.length Cc)) (fun _ h_ => h_.1)))) hb); replace Ac := zbf Ac hb; replace Aa := zbf Aa hb; replace Ad := zbf Ad hb; replace Ae := zbf Ae hb; replace Af := Aside0.mk (blk_below (g := Ak) (o := .cells #[.slice Cj Bx.length Cc] 29 (0, 0)) (zj Af) hb); replace HB := zs HB hb; clear hb; obtain ⟨_, _⟩ := zc1 Af; have hnb262 := Bd.out; have hnc262 := Bb.out; obtain ⟨_, _⟩ := zc1 Ad))
      refine bodyPost_ret (results_ct rfl _ _ Bn 29 #[.slice Cj Bx.length Cc] (0, 0) _ rfl (zj Ad) Try.underlying29 rfl (by kernel_rfl)) rfl ?_
      exact ⟨_, ze, zo (Kd.R_mono (Kd.R_far (p := ⟨Bn, 0, none⟩) (Kd.R_types Br.out Ad.out (by decide)) (fun _ hk => hk.2) (.slice Cj Bx.length Cc)) (fun _ hk => trivial)), zw HB⟩
     replace Eq := Bool.eq_false_iff.mpr Eq
     subst Eq
     rw [if_neg (show ¬ (false = true) by decide)] at H
     simp only [Option.some.injEq, Prod.mk.injEq] at H
     obtain ⟨rfl, rfl⟩ := H
     go_wp2_with (first | ((with_reducible refine gate_dst (N := 8) rfl ?_); refine zx (N := 8) (cs := #[.slice none 0 0]) (t := 29) ?_; intro Ak hg w264 hbox hb; have Af := Aside0.mk (hbox); have Ch := zg HB hg; have Ci := zg HB hg; replace HB := zs HB hb; have Ao := zl Ac hg; have As := zr Ac hg; replace Ac := zb Ac hb; have Ai := zl Aa hg; have Aq := zr Aa hg; replace Aa := zb Aa hb; have Ar := zl Ad hg; have Ap := zr Ad hg; replace Ad := zb Ad hb; have Aj := zl Ae hg; have Am := zr Ae hg; replace Ae := zb Ae hb; clear hb hbox hg; have hnb265 := As.out; have hnc265 := Ao.out; have hnb266 := Aq.out; have hnc266 := Ai.out; have hnb267 := Ap.out; have hnc267 := Ar.out; have hnb268 := Am.out; have hnc268 := Aj.out; obtain ⟨_, _⟩ := zc1 Af; have hnb270 := Ax.out; have hnc270 := Ay.out; have hnb271 := Aw.out; have hnc271 := Au.out; have hnb272 := Be.out; have hnc272 := Bc.out; obtain ⟨_, _, _, _, _, _, _, _⟩ := zc4 Aa; have hnb274 := Ba.out; have hnc274 := Az.out; have hnb275 := Bg.out; have hnc275 := Bf.out; obtain ⟨_, _⟩ := zc1 Ac) | ((with_reducible refine gate_callee (f := 67) rfl ?_); refine zG (some 47) Try.func67 #[.agg #[.slice A0_0 l0_0.length c0_0], .string a1_1] ?_; (with_reducible refine (impl_withoutFile.calls _ _ l0_0 a1_1 Bx _ ?side1 ?side2 Ka.out).mono ?_); (case side1 => exact Kd.C_below HR0_0.out (zw HB)); (case side2 => exact Bq.out); rintro e w277 ⟨Kn, rfl, B1, hb⟩; refine ⟨_, rfl, ?_⟩; have Br := Aside0.mk (Kd.R_lower (Kd.R_newB B1 (g := Al) (o := .cells #[.string Ah, .string Ab, .int .i64 Ag] 45 (0, 0)) (zkf Ae)) (below_size (zw HB))); replace Ac := zbf Ac hb; replace Aa := zbf Aa hb; replace Ad := zbf Ad hb; replace Ae := zbf Ae hb; replace Af := Aside0.mk (blk_below (g := Ak) (o := .cells #[.slice none 0 0] 29 (0, 0)) (zj Af) hb); replace HB := zs HB hb; clear B1 hb; obtain ⟨Cx, Cn, Jy⟩ := Kd.R_slice Br.out; subst Jy; obtain ⟨_, _⟩ := zc1 Af) | ((with_reducible refine gate_callee (f := 15) rfl ?_); refine zG (some 94) Try.func15 #[.agg #[.slice Cx Bx.length Cn]] ?_; (with_reducible refine (impl_DiskOk.calls Cu _ _ Bx false _ ?side1 ?side2 J9.out).mono ?_); (case side1 => refine (Kd.R_reads' (e := 45) (base := w.heap.size) (ok := fun k_ => (True ∧ k_ ≠ Al)) (n := Bx.length) (c := Cn) ?_).2.2; exact (zo ((Kd.R_mono (Kd.R_far (p := ⟨Ak, 0, none⟩) (Kd.R_types Br.out Af.out (by decide)) (fun _ hk => hk.2) (.slice Cx Bx.length Cn)) (fun _ h_ => h_.1))))); (case side2 => exact (Kd.R_reads' Br.out).2.1); rintro e w280 ⟨rfl, hb⟩; refine ⟨_, rfl, ?_⟩; replace Br := Aside0.mk (Kd.R_below (zo ((Kd.R_mono (Kd.R_far (p := ⟨Ak, 0, none⟩) (Kd.R_types Br.out Af.out (by decide)) (fun _ hk => hk.2) (.slice Cx Bx.length Cn)) (fun _ h_ => h_.1)))) hb); replace Ac := zbf Ac hb; replace Aa := zbf Aa hb; replace Ad := zbf Ad hb; replace Ae := zbf Ae hb; replace Af := Aside0.mk (blk_below (g := Ak) (o := .cells #[.slice Cx Bx.length Cn] 29 (0, 0)) (zj Af) hb); replace HB := zs HB hb; clear hb; have hnb281 := Bd.out; have hnc281 := Bb.out; obtain ⟨_, _⟩ := zc1 Ad))
     refine bodyPost_ret (results_ct rfl _ _ Bn 29 #[.slice none 0 0] (0, 0) _ rfl (zj Ad) Try.underlying29 rfl (by kernel_rfl)) rfl ?_
     exact ⟨_, ze, by first | exact Kd.R_nil _ _ _ _ _ | exact Kd.N_nil _ _ _ _ _ | exact Kd.V_nil _ _ _ _ _ | exact Kd.Q_nil _ _ _ _ _ | exact Kd.S_nil _ _ _ _ _, zw HB⟩

end Go.Proofs.Ytdiecogmaiglaaa.PFnActs
