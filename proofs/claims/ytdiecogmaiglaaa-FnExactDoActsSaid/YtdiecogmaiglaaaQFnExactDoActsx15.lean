import Derived.Test.YtdiecogmaiglaaaQFnExactDoActsx0
import Derived.Test.YtdiecogmaiglaaaQFnExactDoActsx12
import Derived.Test.YtdiecogmaiglaaaQFnExactDoActsx13
import Derived.Test.YtdiecogmaiglaaaQFnExactDoActsx14
namespace Go.Proofs.Ytdiecogmaiglaaa.PFnExactDoActs
open Go.RowKit Go.Proofs.YtdiecogmaiglaaaW.PrintWords Go.Proofs.YtdiecogmaiglaaaW.PrintLast Go.Proofs.YtdiecogmaiglaaaW.PrintMore
attribute [local go_sem] max2_int min2_int max_two min_two max_three min_three max_four min_four   -- for this text's walks alone
set_option linter.unusedVariables false
set_option linter.unusedSimpArgs false

/-! ### impl_DoAct: function 37 -/
mutual
def impl_DoAct.j0 : Nat → Int → Bool → List (S45) → Int → ByteArray → ByteArray → ByteArray → Option ((List (S45)) × Bool)
 | 0, _, _, _, _, _, _, _ => none
 | k + 1, x6, x29, x266000, x267000, x267001, x267002, x267003 => if x29 = true then (some (([] : List (S45)), false)) else (if x6 ≥ 0 then (if 0 ≤ x6 then (if x6 < (x266000.length : Int) then (impl_DoAct.j1 k x266000 x267000 x267001 x267002 x267003 ((rd_T45 x266000 x6).f0) ((rd_T45 x266000 x6).f1) ((rd_T45 x266000 x6).f2)) else (none)) else (none)) else (impl_DoAct.j1 k x266000 x267000 x267001 x267002 x267003 x267001 (⟨#[]⟩ : ByteArray) 0))
def impl_DoAct.j1 : Nat → List (S45) → Int → ByteArray → ByteArray → ByteArray → ByteArray → ByteArray → Int → Option ((List (S45)) × Bool)
 | 0, _, _, _, _, _, _, _, _ => none
 | k + 1, x266000, x267000, x267001, x267002, x267003, x272000, x272001, x272002 => if x267000 = 1 then (if x272001.size + x267002.size ≤ 9223372036854775807 then ((impl_withFile.f x266000 x272000 (x272001 ++ x267002) x272002).bind fun t274 => ((impl_DiskOk.f k t274).bind fun t277 => (if t277 = true then (some (t274, true)) else (some (([] : List (S45)), false))))) else (none)) else (if x267000 = 2 then ((impl_withFile.f x266000 x272000 x272001 (x272001.size : Int)).bind fun t278 => ((impl_DiskOk.f k t278).bind fun t281 => (if t281 = true then (some (t278, true)) else (some (([] : List (S45)), false))))) else (if x267000 = 3 then (if x272002 = (x272001.size : Int) then (impl_DoAct.j2 k (x267003.toList == x267001.toList) x266000 x267000 x267001 x267002 x267003 x272000 x272001 x272002) else (impl_DoAct.j2 k true x266000 x267000 x267001 x267002 x267003 x272000 x272001 x272002)) else ((impl_withoutFile.f x266000 x267001).bind fun t289 => ((impl_DiskOk.f k t289).bind fun t292 => (if t292 = true then (some (t289, true)) else (some (([] : List (S45)), false)))))))
def impl_DoAct.j2 : Nat → Bool → List (S45) → Int → ByteArray → ByteArray → ByteArray → ByteArray → ByteArray → Int → Option ((List (S45)) × Bool)
 | 0, _, _, _, _, _, _, _, _, _ => none
 | k + 1, x82, x266000, x267000, x267001, x267002, x267003, x272000, x272001, x272002 => if x82 = true then (some (([] : List (S45)), false)) else ((impl_withoutFile.f x266000 x267001).bind fun t282 => ((impl_withFile.f t282 x267003 x272001 x272002).bind fun t285 => ((impl_DiskOk.f k t285).bind fun t288 => (if t288 = true then (some (t285, true)) else (some (([] : List (S45)), false))))))
end
def impl_DoAct.f (k : Nat) (l0_0 : List (S45)) (a1_0 : Int) (a1_1 : ByteArray) (a1_2 : ByteArray) (a1_3 : ByteArray) : Option ((List (S45)) × Bool) := (impl_placeOf.f l0_0 a1_1).bind fun t268 => ((impl_DiskOk.f k l0_0).bind fun t269 => (if t269 = true then ((impl_actOk.f a1_0 a1_1 a1_2 a1_3).bind fun t270 => (if t270 = true then (if t268 < 0 then (impl_DoAct.j0 k t268 (a1_0 != 1) l0_0 a1_0 a1_1 a1_2 a1_3) else (impl_DoAct.j0 k t268 false l0_0 a1_0 a1_1 a1_2 a1_3)) else (impl_DoAct.j0 k t268 true l0_0 a1_0 a1_1 a1_2 a1_3))) else (impl_DoAct.j0 k t268 true l0_0 a1_0 a1_1 a1_2 a1_3)))
theorem impl_DoAct.mono_l : ∀ k, (∀ y0 y1 y2 y3 y4 y5 y6, LeO (impl_DoAct.j0 k y0 y1 y2 y3 y4 y5 y6) (impl_DoAct.j0 (k + 1) y0 y1 y2 y3 y4 y5 y6)) ∧ (∀ y0 y1 y2 y3 y4 y5 y6 y7, LeO (impl_DoAct.j1 k y0 y1 y2 y3 y4 y5 y6 y7) (impl_DoAct.j1 (k + 1) y0 y1 y2 y3 y4 y5 y6 y7)) ∧ (∀ y0 y1 y2 y3 y4 y5 y6 y7 y8, LeO (impl_DoAct.j2 k y0 y1 y2 y3 y4 y5 y6 y7 y8) (impl_DoAct.j2 (k + 1) y0 y1 y2 y3 y4 y5 y6 y7 y8))
 | 0 => ⟨fun _ _ _ _ _ _ _ r h => by simp [impl_DoAct.j0] at h, fun _ _ _ _ _ _ _ _ r h => by simp [impl_DoAct.j1] at h, fun _ _ _ _ _ _ _ _ _ r h => by simp [impl_DoAct.j2] at h⟩
 | k + 1 => by
  obtain ⟨ih0, ih1, ih2⟩ := impl_DoAct.mono_l k
  refine ⟨?_, ?_, ?_⟩
  ·intro y0 y1 y2 y3 y4 y5 y6
   unfold impl_DoAct.j0
   repeat' first
   | (with_reducible exact ih0 _ _ _ _ _ _ _)
   | (with_reducible exact ih1 _ _ _ _ _ _ _ _)
   | (with_reducible exact ih2 _ _ _ _ _ _ _ _ _)
   | (with_reducible exact impl_DiskOk.mono _ _)
   | (with_reducible exact LeO.refl _)
   | (with_reducible exact LeO.none _)
   | (with_reducible refine LeO.ite ?_ ?_)
   | (with_reducible refine LeO.bind ?_ (fun _ => ?_))
   | exact ih0 _ _ _ _ _ _ _
   | exact ih1 _ _ _ _ _ _ _ _
   | exact ih2 _ _ _ _ _ _ _ _ _
   | exact impl_DiskOk.mono _ _
   | exact LeO.none _
   | refine LeO.ite ?_ ?_
   | refine LeO.bind ?_ (fun _ => ?_)
  ·intro y0 y1 y2 y3 y4 y5 y6 y7
   unfold impl_DoAct.j1
   repeat' first
   | (with_reducible exact ih0 _ _ _ _ _ _ _)
   | (with_reducible exact ih1 _ _ _ _ _ _ _ _)
   | (with_reducible exact ih2 _ _ _ _ _ _ _ _ _)
   | (with_reducible exact impl_DiskOk.mono _ _)
   | (with_reducible exact LeO.refl _)
   | (with_reducible exact LeO.none _)
   | (with_reducible refine LeO.ite ?_ ?_)
   | (with_reducible refine LeO.bind ?_ (fun _ => ?_))
   | exact ih0 _ _ _ _ _ _ _
   | exact ih1 _ _ _ _ _ _ _ _
   | exact ih2 _ _ _ _ _ _ _ _ _
   | exact impl_DiskOk.mono _ _
   | exact LeO.none _
   | refine LeO.ite ?_ ?_
   | refine LeO.bind ?_ (fun _ => ?_)
  intro y0 y1 y2 y3 y4 y5 y6 y7 y8
  unfold impl_DoAct.j2
  repeat' first
  | (with_reducible exact ih0 _ _ _ _ _ _ _)
  | (with_reducible exact ih1 _ _ _ _ _ _ _ _)
  | (with_reducible exact ih2 _ _ _ _ _ _ _ _ _)
  | (with_reducible exact impl_DiskOk.mono _ _)
  | (with_reducible exact LeO.refl _)
  | (with_reducible exact LeO.none _)
  | (with_reducible refine LeO.ite ?_ ?_)
  | (with_reducible refine LeO.bind ?_ (fun _ => ?_))
  | exact ih0 _ _ _ _ _ _ _
  | exact ih1 _ _ _ _ _ _ _ _
  | exact ih2 _ _ _ _ _ _ _ _ _
  | exact impl_DiskOk.mono _ _
  | exact LeO.none _
  | refine LeO.ite ?_ ?_
  | refine LeO.bind ?_ (fun _ => ?_)
theorem impl_DoAct.mono : ∀ a0 a1 a2 a3 a4 k, LeO (impl_DoAct.f k a0 a1 a2 a3 a4) (impl_DoAct.f (k + 1) a0 a1 a2 a3 a4) := by
 intro a0 a1 a2 a3 a4 k
 obtain ⟨ih0, ih1, ih2⟩ := impl_DoAct.mono_l k
 unfold impl_DoAct.f
 repeat' first
   | (with_reducible exact ih0 _ _ _ _ _ _ _)
   | (with_reducible exact ih1 _ _ _ _ _ _ _ _)
   | (with_reducible exact ih2 _ _ _ _ _ _ _ _ _)
   | (with_reducible exact impl_DiskOk.mono _ _)
   | (with_reducible exact LeO.refl _)
   | (with_reducible exact LeO.none _)
   | (with_reducible refine LeO.ite ?_ ?_)
   | (with_reducible refine LeO.bind ?_ (fun _ => ?_))
   | exact ih0 _ _ _ _ _ _ _
   | exact ih1 _ _ _ _ _ _ _ _
   | exact ih2 _ _ _ _ _ _ _ _ _
   | exact impl_DiskOk.mono _ _
   | exact LeO.none _
   | refine LeO.ite ?_ ?_
   | refine LeO.bind ?_ (fun _ => ?_)
abbrev q15_0 := #[o_,o_,o_,o_,o_,o_,o_]
abbrev q15_1 := #[o_,i_,o_,o_,o_,o_,o_]
abbrev q15_2 := #[i_,i_,o_,o_,o_,o_,o_]
abbrev q15_3 := #[i_,i_,i_,o_,o_,o_,o_]
abbrev q15_4 := #[i_,i_,i_,o_,i_,o_,o_]
abbrev q15_5 := #[i_,i_,i_,i_,i_,o_,o_]
abbrev q15_6 := #[i_,i_,i_,i_,i_,i_,o_]
abbrev q15_7 := #[i_,i_,i_,i_,i_,i_,i_]
set_option maxHeartbeats 8000000 in
set_option maxRecDepth 100000 in
theorem impl_DoAct.calls (k : Nat) (A0_0 : Option Addr) (c0_0 : Nat) (l0_0 : List (S45)) (a1_0 : Int) (a1_1 : ByteArray) (a1_2 : ByteArray) (a1_3 : ByteArray) (r1 : List (S45)) (r2 : Bool) (w : World) (hr0_0 : Kd.C k45 w A0_0 l0_0.length l0_0) (hc0_0 : l0_0.length ≤ c0_0) (h : impl_DoAct.f k l0_0 a1_0 a1_1 a1_2 a1_3 = some (r1, r2)) :
  Calls Try.prog 37 #[.agg #[.slice A0_0 l0_0.length c0_0], .agg #[.int .i64 a1_0, .string a1_1, .string a1_2, .string a1_3]] w fun e w' => ∃ v0_ : Value, e = .returned (.tuple #[.agg #[v0_], .bool r2]) ∧ Kd.R k45 45 w' w.heap.size (fun _ => True) v0_ r1 ∧ Below w.heap.size w w' := by
 have hu29 := Try.underlying29
 have hu55 := Try.underlying55
 have hu45 := Try.underlying45
 have HR0_0 := Aside0.mk hr0_0
 have HC0_0 := Aside0.mk hc0_0
 clear hr0_0 hc0_0
 have HB := Aside0.mk (Below.refl w.heap.size w)
 have H : ((impl_placeOf.f l0_0 a1_1).bind fun t268 => ((impl_DiskOk.f k l0_0).bind fun t269 => (if t269 = true then ((impl_actOk.f a1_0 a1_1 a1_2 a1_3).bind fun t270 => (if t270 = true then (if t268 < 0 then (impl_DoAct.j0 k t268 (a1_0 != 1) l0_0 a1_0 a1_1 a1_2 a1_3) else (impl_DoAct.j0 k t268 false l0_0 a1_0 a1_1 a1_2 a1_3)) else (impl_DoAct.j0 k t268 true l0_0 a1_0 a1_1 a1_2 a1_3))) else (impl_DoAct.j0 k t268 true l0_0 a1_0 a1_1 a1_2 a1_3)))) = some (r1, r2) := h
 clear h
 replace H := Option.bind_eq_some_iff.mp H
 obtain ⟨t268, A30, H⟩ := H
 have A3 := Aside0.mk A30
 clear A30
 have HC4 := Aside0.mk H
 clear H
 go_enter Try.func37, Try.ntmps37
 go_upto_region 2 with (first | ((with_reducible refine gate_dst (N := 2) rfl ?_); refine zx (N := 2) (cs := #[.slice A0_0 l0_0.length c0_0]) (t := 29) ?_; intro gb265 hg w5 hbox hb; have BK265 := Aside0.mk (hbox); have GW265 := zg HB hg; have GE265 := zg HB hg; replace HB := zs HB hb; clear hb hbox hg) | ((with_reducible refine gate_dst (N := 3) rfl ?_); refine zx (N := 3) (cs := #[.int .i64 a1_0, .string a1_1, .string a1_2, .string a1_3]) (t := 55) ?_; intro gb266 hg w6 hbox hb; have BK266 := Aside0.mk (hbox); have GW266 := zg HB hg; have GE266 := zg HB hg; replace HB := zs HB hb; have NB265_266 := zl BK265 hg; have NB266_265 := zr BK265 hg; replace BK265 := zb BK265 hb; clear hb hbox hg) | ((with_reducible refine gate_dst (N := 4) rfl ?_); refine zx (N := 4) (cs := #[.slice none 0 0]) (t := 29) ?_; intro gb267 hg w7 hbox hb; have BK267 := Aside0.mk (hbox); have GW267 := zg HB hg; have GE267 := zg HB hg; replace HB := zs HB hb; have NB265_267 := zl BK265 hg; have NB267_265 := zr BK265 hg; replace BK265 := zb BK265 hb; have NB266_267 := zl BK266 hg; have NB267_266 := zr BK266 hg; replace BK266 := zb BK266 hb; clear hb hbox hg; have hnb8 := NB265_266.out; have hnc8 := NB266_265.out; have hnb9 := NB265_267.out; have hnc9 := NB267_265.out; obtain ⟨m10_0, n10_0⟩ := zc1 BK265; have hnb11 := NB266_267.out; have hnc11 := NB267_266.out; obtain ⟨m12_0, m12_1, m12_2, m12_3, n12_0, n12_1, n12_2, n12_3⟩ := zc4 BK266) | ((with_reducible refine gate_callee (f := 54) rfl ?_); refine zG (some 12) Try.func54 #[.agg #[.slice A0_0 l0_0.length c0_0], .string a1_1] ?_; (with_reducible refine (impl_placeOf.calls _ _ l0_0 a1_1 t268 _ ?side1 ?side2 A3.out).mono ?_); (case side1 => exact zI (Kd.C_below HR0_0.out HB.out)); (case side2 => exact HC0_0.out); rintro e w13 ⟨rfl, hb⟩; refine ⟨_, rfl, ?_⟩; replace BK265 := zb BK265 hb; replace BK266 := zb BK266 hb; replace BK267 := zb BK267 hb; replace HB := zs HB hb; clear hb))
 (try simp only [Act.put, zA, zB, zC])
 go_cut [29] (fun v29 wc => ∃ (kq : Nat) (x29_3 : Bool), v29 = .bool x29_3 ∧ Aside0 (impl_DoAct.j0 kq t268 x29_3 l0_0 a1_0 a1_1 a1_2 a1_3 = some (r1, r2)) ∧ Aside0 (kq ≤ k) ∧ Aside0 (wc.heap[gb265]? = some (.cells #[(.slice A0_0 l0_0.length c0_0)] 29 (0, 0))) ∧ Aside0 (wc.heap[gb266]? = some (.cells #[.int .i64 a1_0, .string a1_1, .string a1_2, .string a1_3] 55 (0, 0))) ∧ Aside0 (wc.heap[gb267]? = some (.cells #[(.slice none 0 0)] 29 (0, 0))) ∧ Aside0 (Below w.heap.size w wc))
 case first =>
  have H := HC4.out
  clear HC4
  replace H := Option.bind_eq_some_iff.mp H
  obtain ⟨t269, A140, H⟩ := H
  have A14 := Aside0.mk A140
  clear A140
  by_cases c15 : t269 = true
  ·subst c15
   rw [if_pos rfl] at H
   replace H := Option.bind_eq_some_iff.mp H
   obtain ⟨t270, A160, H⟩ := H
   have A16 := Aside0.mk A160
   clear A160
   by_cases c17 : t270 = true
   ·subst c17
    rw [if_pos rfl] at H
    by_cases c18 : t268 < 0
    ·rw [if_pos c18] at H
     have c18b0 := decide_eq_true c18
     clear c18
     (first | rw [c18b0] | (simp only [i64_w, i32_w]; rw [c18b0]) | skip)
     have H' := Aside0.mk H
     clear H
     have hnb19 := NB265_266.out
     have hnc19 := NB266_265.out
     have hnb20 := NB265_267.out
     have hnc20 := NB267_265.out
     obtain ⟨m21_0, n21_0⟩ := zc1 BK265
     go_wp2_with (first | ((with_reducible refine gate_callee (f := 15) rfl ?_); refine zG (some 14) Try.func15 #[.agg #[.slice A0_0 l0_0.length c0_0]] ?_; (with_reducible refine (impl_DiskOk.calls k _ _ l0_0 true _ ?side1 ?side2 A14.out).mono ?_); (case side1 => exact zI (Kd.C_below HR0_0.out HB.out)); (case side2 => exact HC0_0.out); rintro e w22 ⟨rfl, hb⟩; refine ⟨_, rfl, ?_⟩; replace BK265 := zb BK265 hb; replace BK266 := zb BK266 hb; replace BK267 := zb BK267 hb; replace HB := zs HB hb; clear hb; have hnb23 := NB266_267.out; have hnc23 := NB267_266.out; obtain ⟨m24_0, m24_1, m24_2, m24_3, n24_0, n24_1, n24_2, n24_3⟩ := zc4 BK266) | (go_at_call 65; (with_reducible refine (impl_actOk.calls a1_0 a1_1 a1_2 a1_3 true _ A16.out).mono ?_); rintro e w25 ⟨rfl, hb⟩; replace BK265 := zb BK265 hb; replace BK266 := zb BK266 hb; replace BK267 := zb BK267 hb; replace HB := zs HB hb; clear hb; obtain ⟨m26_0, m26_1, m26_2, m26_3, n26_0, n26_1, n26_2, n26_3⟩ := zc4 BK266))
     go_meet
     case rel => exact ⟨_, ((a1_0 != 1)), zf, H', ⟨by first | omega | exact Nat.le_refl _⟩, ⟨zkf BK265⟩, ⟨zkf BK266⟩, ⟨zkf BK267⟩, ⟨zw HB⟩⟩
    rw [if_neg c18] at H
    have c18b0 := decide_eq_false c18
    clear c18
    (first | rw [c18b0] | (simp only [i64_w, i32_w]; rw [c18b0]) | skip)
    have H' := Aside0.mk H
    clear H
    have hnb27 := NB265_266.out
    have hnc27 := NB266_265.out
    have hnb28 := NB265_267.out
    have hnc28 := NB267_265.out
    obtain ⟨m29_0, n29_0⟩ := zc1 BK265
    go_wp2_with (first | ((with_reducible refine gate_callee (f := 15) rfl ?_); refine zG (some 14) Try.func15 #[.agg #[.slice A0_0 l0_0.length c0_0]] ?_; (with_reducible refine (impl_DiskOk.calls k _ _ l0_0 true _ ?side1 ?side2 A14.out).mono ?_); (case side1 => exact zI (Kd.C_below HR0_0.out HB.out)); (case side2 => exact HC0_0.out); rintro e w30 ⟨rfl, hb⟩; refine ⟨_, rfl, ?_⟩; replace BK265 := zb BK265 hb; replace BK266 := zb BK266 hb; replace BK267 := zb BK267 hb; replace HB := zs HB hb; clear hb; have hnb31 := NB266_267.out; have hnc31 := NB267_266.out; obtain ⟨m32_0, m32_1, m32_2, m32_3, n32_0, n32_1, n32_2, n32_3⟩ := zc4 BK266) | (go_at_call 65; (with_reducible refine (impl_actOk.calls a1_0 a1_1 a1_2 a1_3 true _ A16.out).mono ?_); rintro e w33 ⟨rfl, hb⟩; replace BK265 := zb BK265 hb; replace BK266 := zb BK266 hb; replace BK267 := zb BK267 hb; replace HB := zs HB hb; clear hb))
    go_meet
    case rel => exact ⟨_, (false), zf, H', ⟨by first | omega | exact Nat.le_refl _⟩, ⟨zkf BK265⟩, ⟨zkf BK266⟩, ⟨zkf BK267⟩, ⟨zw HB⟩⟩
   replace c17 := Bool.eq_false_iff.mpr c17
   subst c17
   rw [if_neg (show ¬ (false = true) by decide)] at H
   have H' := Aside0.mk H
   clear H
   have hnb34 := NB265_266.out
   have hnc34 := NB266_265.out
   have hnb35 := NB265_267.out
   have hnc35 := NB267_265.out
   obtain ⟨m36_0, n36_0⟩ := zc1 BK265
   go_wp2_with (first | ((with_reducible refine gate_callee (f := 15) rfl ?_); refine zG (some 14) Try.func15 #[.agg #[.slice A0_0 l0_0.length c0_0]] ?_; (with_reducible refine (impl_DiskOk.calls k _ _ l0_0 true _ ?side1 ?side2 A14.out).mono ?_); (case side1 => exact zI (Kd.C_below HR0_0.out HB.out)); (case side2 => exact HC0_0.out); rintro e w37 ⟨rfl, hb⟩; refine ⟨_, rfl, ?_⟩; replace BK265 := zb BK265 hb; replace BK266 := zb BK266 hb; replace BK267 := zb BK267 hb; replace HB := zs HB hb; clear hb; have hnb38 := NB266_267.out; have hnc38 := NB267_266.out; obtain ⟨m39_0, m39_1, m39_2, m39_3, n39_0, n39_1, n39_2, n39_3⟩ := zc4 BK266) | (go_at_call 65; (with_reducible refine (impl_actOk.calls a1_0 a1_1 a1_2 a1_3 false _ A16.out).mono ?_); rintro e w40 ⟨rfl, hb⟩; replace BK265 := zb BK265 hb; replace BK266 := zb BK266 hb; replace BK267 := zb BK267 hb; replace HB := zs HB hb; clear hb))
   go_meet
   case rel => exact ⟨_, (true), zf, H', ⟨by first | omega | exact Nat.le_refl _⟩, ⟨zkf BK265⟩, ⟨zkf BK266⟩, ⟨zkf BK267⟩, ⟨zw HB⟩⟩
  replace c15 := Bool.eq_false_iff.mpr c15
  subst c15
  rw [if_neg (show ¬ (false = true) by decide)] at H
  have H' := Aside0.mk H
  clear H
  have hnb41 := NB265_266.out
  have hnc41 := NB266_265.out
  have hnb42 := NB265_267.out
  have hnc42 := NB267_265.out
  obtain ⟨m43_0, n43_0⟩ := zc1 BK265
  go_wp2_with (first | ((with_reducible refine gate_callee (f := 15) rfl ?_); refine zG (some 14) Try.func15 #[.agg #[.slice A0_0 l0_0.length c0_0]] ?_; (with_reducible refine (impl_DiskOk.calls k _ _ l0_0 false _ ?side1 ?side2 A14.out).mono ?_); (case side1 => exact zI (Kd.C_below HR0_0.out HB.out)); (case side2 => exact HC0_0.out); rintro e w44 ⟨rfl, hb⟩; refine ⟨_, rfl, ?_⟩; replace BK265 := zb BK265 hb; replace BK266 := zb BK266 hb; replace BK267 := zb BK267 hb; replace HB := zs HB hb; clear hb))
  go_meet
  case rel => exact ⟨_, (true), zf, H', ⟨by first | omega | exact Nat.le_refl _⟩, ⟨zkf BK265⟩, ⟨zkf BK266⟩, ⟨zkf BK267⟩, ⟨zw HB⟩⟩
 case rest =>
  clear HC4
  try clear c1
  try clear c2
  try clear p2
  try clear c3
  try clear c4
  try clear c5
  try clear c8
  try clear c9
  try clear c11
  try clear c15
  try clear c17
  try clear c18
  try clear c18b0
  try clear c19
  try clear c20
  try clear c23
  try clear c27
  try clear c28
  try clear c31
  try clear c34
  try clear c35
  try clear c37
  try clear c38
  try clear c41
  try clear c42
  try clear m10_0
  try clear m12_0
  try clear m12_1
  try clear m12_2
  try clear m12_3
  try clear m21_0
  try clear m24_0
  try clear m24_1
  try clear m24_2
  try clear m24_3
  try clear m26_0
  try clear m26_1
  try clear m26_2
  try clear m26_3
  try clear m29_0
  try clear m32_0
  try clear m32_1
  try clear m32_2
  try clear m32_3
  try clear m36_0
  try clear m39_0
  try clear m39_1
  try clear m39_2
  try clear m39_3
  try clear m43_0
  try clear n10_0
  try clear n12_0
  try clear n12_1
  try clear n12_2
  try clear n12_3
  try clear n21_0
  try clear n24_0
  try clear n24_1
  try clear n24_2
  try clear n24_3
  try clear n26_0
  try clear n26_1
  try clear n26_2
  try clear n26_3
  try clear n29_0
  try clear n32_0
  try clear n32_1
  try clear n32_2
  try clear n32_3
  try clear n36_0
  try clear n39_0
  try clear n39_1
  try clear n39_2
  try clear n39_3
  try clear n43_0
  obtain ⟨kq, x29_3, rfl, HA, HJ3, BK265, BK266, BK267, HB⟩ := hcut
  cases kq with
  | zero => exact absurd HA.out (by simp [impl_DoAct.j0])
  | succ kj3 =>
   have H := HA.out
   clear HA
   simp only [impl_DoAct.j0] at H
   by_cases c45 : x29_3 = true
   ·subst c45
    rw [if_pos rfl] at H
    simp only [Option.some.injEq, Prod.mk.injEq] at H
    obtain ⟨rfl, rfl⟩ := H
    have hnb46 := NB267_265.out
    have hnc46 := NB265_267.out
    have hnb47 := NB267_266.out
    have hnc47 := NB266_267.out
    obtain ⟨m48_0, n48_0⟩ := zc1 BK267
    go_wp2
    refine bodyPost_ret (results_ct rfl _ _ gb267 29 #[.slice none 0 0] (0, 0) _ rfl (by (with_reducible repeat (first | refine blk_drewN ?_ _ | refine blk_drew ?_ | refine blk_alloc ?_ _)); refine blk_put (cs := #[.slice none 0 0]) ?_ 0 _ rfl; (with_reducible repeat (first | refine blk_drewN ?_ _ | refine blk_drew ?_ | refine blk_alloc ?_ _)); exact BK267.out) Try.underlying29 rfl (by kernel_rfl)) rfl ?_
    exact ⟨_, ze, by first | exact Kd.R_nil _ _ _ _ _ | exact Kd.N_nil _ _ _ _ _ | exact Kd.V_nil _ _ _ _ _ | exact Kd.Q_nil _ _ _ _ _ | exact Kd.S_nil _ _ _ _ _, zw HB⟩
   replace c45 := Bool.eq_false_iff.mpr c45
   subst c45
   rw [if_neg (show ¬ (false = true) by decide)] at H
   have HC49 := Aside0.mk H
   clear H
   have hnb50 := NB266_265.out
   have hnc50 := NB265_266.out
   have hnb51 := NB266_267.out
   have hnc51 := NB267_266.out
   obtain ⟨m52_0, m52_1, m52_2, m52_3, n52_0, n52_1, n52_2, n52_3⟩ := zc4 BK266
   go_upto_if 35 with (first | ((with_reducible refine gate_dst (N := 7) rfl ?_); refine zx (N := 7) (cs := #[.string (⟨#[]⟩ : ByteArray), .string (⟨#[]⟩ : ByteArray), .int .i64 0]) (t := 45) ?_; intro gb271 hg w53 hbox hb; have BK271 := Aside0.mk (hbox); have GW271 := zg HB hg; have GE271 := zg HB hg; replace HB := zs HB hb; have NB265_271 := zl BK265 hg; have NB271_265 := zr BK265 hg; replace BK265 := zb BK265 hb; have NB266_271 := zl BK266 hg; have NB271_266 := zr BK266 hg; replace BK266 := zb BK266 hb; have NB267_271 := zl BK267 hg; have NB271_267 := zr BK267 hg; replace BK267 := zb BK267 hb; clear hb hbox hg; have hnb54 := NB271_265.out; have hnc54 := NB265_271.out; have hnb55 := NB271_266.out; have hnc55 := NB266_271.out; have hnb56 := NB271_267.out; have hnc56 := NB267_271.out; obtain ⟨m57_0, m57_1, m57_2, n57_0, n57_1, n57_2⟩ := zc3 BK271))
   (try simp only [Act.put, zA, zB, zC])
   go_cut [] (fun wc => ∃ (kq : Nat) (x272000_48 : ByteArray) (x272001_48 : ByteArray) (x272002_48 : Int), Aside0 (impl_DoAct.j1 kq l0_0 a1_0 a1_1 a1_2 a1_3 x272000_48 x272001_48 x272002_48 = some (r1, r2)) ∧ Aside0 (kq ≤ kj3) ∧ Aside0 (wc.heap[gb265]? = some (.cells #[(.slice A0_0 l0_0.length c0_0)] 29 (0, 0))) ∧ Aside0 (wc.heap[gb266]? = some (.cells #[.int .i64 a1_0, .string a1_1, .string a1_2, .string a1_3] 55 (0, 0))) ∧ Aside0 (wc.heap[gb267]? = some (.cells #[(.slice none 0 0)] 29 (0, 0))) ∧ Aside0 (wc.heap[gb271]? = some (.cells #[.string x272000_48, .string x272001_48, .int .i64 x272002_48] 45 (0, 0))) ∧ Aside0 (Below w.heap.size w wc))
   case first =>
    have H := HC49.out
    clear HC49
    by_cases c58 : t268 ≥ 0
    ·rw [if_pos c58] at H
     have c58b0 : decide (0 ≤ t268) = true := decide_eq_true c58
     clear c58
     (first | rw [c58b0] | (simp only [i64_w, i32_w]; rw [c58b0]) | skip)
     by_cases c59 : 0 ≤ t268
     ·rw [if_pos c59] at H
      have c59b0 := decide_eq_true c59
      clear c59
      by_cases c60 : t268 < (l0_0.length : Int)
      ·rw [if_pos c60] at H
       have c60b0 := decide_eq_true c60
       clear c60
       have H' := Aside0.mk H
       clear H
       have hnb61 := NB265_266.out
       have hnc61 := NB266_265.out
       have hnb62 := NB265_267.out
       have hnc62 := NB267_265.out
       have hnb63 := NB265_271.out
       have hnc63 := NB271_265.out
       obtain ⟨m64_0, n64_0⟩ := zc1 BK265
       have p272 : 0 ≤ (t268 : Int) := of_decide_eq_true za
       have q272 : t268 < (l0_0.length : Int) := of_decide_eq_true za
       obtain ⟨ad272, e272, hx272_0, hx272_1, hx272_2⟩ := at_T45 HR0_0.out t268 p272 q272
       cases e272
       have hn272_0 : ad272.block ≠ gb271 := Nat.ne_of_lt (Nat.lt_of_lt_of_le (by have := World.block_lt_of_cell? _ _ hx272_0; first | rwa [add_block] at this | exact this) GW271.out)
       have hn272_1 : ad272.block ≠ gb271 := Nat.ne_of_lt (Nat.lt_of_lt_of_le (by have := World.block_lt_of_cell? _ _ hx272_0; first | rwa [add_block] at this | exact this) GW271.out)
       have hn272_2 : ad272.block ≠ gb271 := Nat.ne_of_lt (Nat.lt_of_lt_of_le (by have := World.block_lt_of_cell? _ _ hx272_0; first | rwa [add_block] at this | exact this) GW271.out)
       replace hx272_0 := zU HB.out hx272_0
       replace hx272_1 := zU HB.out hx272_1
       replace hx272_2 := zU HB.out hx272_2
       replace hx272_0 := (cell_far (p := ⟨gb271, 0, none⟩) (by first | (rw [add_block]; exact hn272_0) | (show (Addr.add _ _).block ≠ _; rw [add_block]; exact hn272_0) | exact hn272_0) (.string a1_1)).trans hx272_0
       replace hx272_1 := (cell_far (p := ⟨gb271, 0, none⟩) (by first | (rw [add_block]; exact hn272_0) | (show (Addr.add _ _).block ≠ _; rw [add_block]; exact hn272_0) | exact hn272_0) (.string a1_1)).trans hx272_1
       replace hx272_2 := (cell_far (p := ⟨gb271, 0, none⟩) (by first | (rw [add_block]; exact hn272_0) | (show (Addr.add _ _).block ≠ _; rw [add_block]; exact hn272_0) | exact hn272_0) (.string a1_1)).trans hx272_2
       replace hx272_0 := (cell_far (p := ⟨gb271, 1, none⟩) (by first | (rw [add_block]; exact hn272_1) | (show (Addr.add _ _).block ≠ _; rw [add_block]; exact hn272_1) | exact hn272_1) (.string (⟨#[]⟩ : ByteArray))).trans hx272_0
       replace hx272_1 := (cell_far (p := ⟨gb271, 1, none⟩) (by first | (rw [add_block]; exact hn272_1) | (show (Addr.add _ _).block ≠ _; rw [add_block]; exact hn272_1) | exact hn272_1) (.string (⟨#[]⟩ : ByteArray))).trans hx272_1
       replace hx272_2 := (cell_far (p := ⟨gb271, 1, none⟩) (by first | (rw [add_block]; exact hn272_1) | (show (Addr.add _ _).block ≠ _; rw [add_block]; exact hn272_1) | exact hn272_1) (.string (⟨#[]⟩ : ByteArray))).trans hx272_2
       replace hx272_0 := (cell_far (p := ⟨gb271, 2, none⟩) (by first | (rw [add_block]; exact hn272_2) | (show (Addr.add _ _).block ≠ _; rw [add_block]; exact hn272_2) | exact hn272_2) (.int .i64 0)).trans hx272_0
       replace hx272_1 := (cell_far (p := ⟨gb271, 2, none⟩) (by first | (rw [add_block]; exact hn272_2) | (show (Addr.add _ _).block ≠ _; rw [add_block]; exact hn272_2) | exact hn272_2) (.int .i64 0)).trans hx272_1
       replace hx272_2 := (cell_far (p := ⟨gb271, 2, none⟩) (by first | (rw [add_block]; exact hn272_2) | (show (Addr.add _ _).block ≠ _; rw [add_block]; exact hn272_2) | exact hn272_2) (.int .i64 0)).trans hx272_2
       clear hn272_0
       clear hn272_1
       clear hn272_2
       replace p272 := eq_true p272
       replace q272 := eq_true q272
       have hnb65 := NB271_266.out
       have hnc65 := NB266_271.out
       have hnb66 := NB271_267.out
       have hnc66 := NB267_271.out
       obtain ⟨m67_0, m67_1, m67_2, n67_0, n67_1, n67_2⟩ := zc3 BK271
       go_wp2
       go_meet
       case rel => exact ⟨_, ((rd_T45 l0_0 t268).f0), ((rd_T45 l0_0 t268).f1), ((rd_T45 l0_0 t268).f2), H', ⟨by have := HJ3.out; first | omega | exact Nat.le_refl _⟩, ⟨zkf BK265⟩, ⟨zkf BK266⟩, ⟨zkf BK267⟩, ⟨by (with_reducible repeat (first | refine blk_drewN ?_ _ | refine blk_drew ?_ | refine blk_alloc ?_ _)); refine blk_put (cs := #[.string ((rd_T45 l0_0 t268).f0), .string ((rd_T45 l0_0 t268).f1), .int .i64 0]) ?_ 2 _ rfl; (with_reducible repeat (first | refine blk_drewN ?_ _ | refine blk_drew ?_ | refine blk_alloc ?_ _)); refine blk_put (cs := #[.string ((rd_T45 l0_0 t268).f0), .string (⟨#[]⟩ : ByteArray), .int .i64 0]) ?_ 1 _ rfl; (with_reducible repeat (first | refine blk_drewN ?_ _ | refine blk_drew ?_ | refine blk_alloc ?_ _)); refine blk_put (cs := #[.string a1_1, .string (⟨#[]⟩ : ByteArray), .int .i64 0]) ?_ 0 _ rfl; (with_reducible repeat (first | refine blk_drewN ?_ _ | refine blk_drew ?_ | refine blk_alloc ?_ _)); refine blk_put (cs := #[.string a1_1, .string (⟨#[]⟩ : ByteArray), .int .i64 0]) ?_ 2 _ rfl; (with_reducible repeat (first | refine blk_drewN ?_ _ | refine blk_drew ?_ | refine blk_alloc ?_ _)); refine blk_put (cs := #[.string a1_1, .string (⟨#[]⟩ : ByteArray), .int .i64 0]) ?_ 1 _ rfl; (with_reducible repeat (first | refine blk_drewN ?_ _ | refine blk_drew ?_ | refine blk_alloc ?_ _)); refine blk_put (cs := #[.string (⟨#[]⟩ : ByteArray), .string (⟨#[]⟩ : ByteArray), .int .i64 0]) ?_ 0 _ rfl; (with_reducible repeat (first | refine blk_drewN ?_ _ | refine blk_drew ?_ | refine blk_alloc ?_ _)); exact BK271.out⟩, ⟨zw HB⟩⟩
      rw [if_neg c60] at H
      exact absurd H (by simp)
     rw [if_neg c59] at H
     exact absurd H (by simp)
    rw [if_neg c58] at H
    have c58b0 : decide (0 ≤ t268) = false := decide_eq_false c58
    clear c58
    (first | rw [c58b0] | (simp only [i64_w, i32_w]; rw [c58b0]) | skip)
    have H' := Aside0.mk H
    clear H
    go_wp2
    go_meet
    case rel => exact ⟨_, (a1_1), ((⟨#[]⟩ : ByteArray)), (0), H', ⟨by have := HJ3.out; first | omega | exact Nat.le_refl _⟩, ⟨zkf BK265⟩, ⟨zkf BK266⟩, ⟨zkf BK267⟩, ⟨by (with_reducible repeat (first | refine blk_drewN ?_ _ | refine blk_drew ?_ | refine blk_alloc ?_ _)); refine blk_put (cs := #[.string a1_1, .string (⟨#[]⟩ : ByteArray), .int .i64 0]) ?_ 2 _ rfl; (with_reducible repeat (first | refine blk_drewN ?_ _ | refine blk_drew ?_ | refine blk_alloc ?_ _)); refine blk_put (cs := #[.string a1_1, .string (⟨#[]⟩ : ByteArray), .int .i64 0]) ?_ 1 _ rfl; (with_reducible repeat (first | refine blk_drewN ?_ _ | refine blk_drew ?_ | refine blk_alloc ?_ _)); refine blk_put (cs := #[.string (⟨#[]⟩ : ByteArray), .string (⟨#[]⟩ : ByteArray), .int .i64 0]) ?_ 0 _ rfl; (with_reducible repeat (first | refine blk_drewN ?_ _ | refine blk_drew ?_ | refine blk_alloc ?_ _)); exact BK271.out⟩, ⟨zw HB⟩⟩
   case rest =>
    clear HC49
    try clear c1
    try clear c2
    try clear p2
    try clear q2
    try clear hx2
    try clear c3
    try clear c4
    try clear c5
    try clear c6
    try clear c8
    try clear c9
    try clear c11
    try clear c15
    try clear c17
    try clear c18
    try clear c18b0
    try clear c19
    try clear c20
    try clear c23
    try clear c27
    try clear p27
    try clear q27
    try clear hx27
    try clear c28
    try clear c31
    try clear c34
    try clear c35
    try clear c37
    try clear c38
    try clear c41
    try clear c42
    try clear c45
    try clear c46
    try clear c47
    try clear c50
    try clear c51
    try clear c54
    try clear c55
    try clear c56
    try clear c58
    try clear c58b0
    try clear c59
    try clear c59b0
    try clear c60
    try clear c60b0
    try clear c61
    try clear c62
    try clear c63
    try clear c65
    try clear c66
    try clear m10_0
    try clear m12_0
    try clear m12_1
    try clear m12_2
    try clear m12_3
    try clear m21_0
    try clear m24_0
    try clear m24_1
    try clear m24_2
    try clear m24_3
    try clear m26_0
    try clear m26_1
    try clear m26_2
    try clear m26_3
    try clear m29_0
    try clear m32_0
    try clear m32_1
    try clear m32_2
    try clear m32_3
    try clear m36_0
    try clear m39_0
    try clear m39_1
    try clear m39_2
    try clear m39_3
    try clear m43_0
    try clear m48_0
    try clear m52_0
    try clear m52_1
    try clear m52_2
    try clear m52_3
    try clear m57_0
    try clear m57_1
    try clear m57_2
    try clear m64_0
    try clear m67_0
    try clear m67_1
    try clear m67_2
    try clear n10_0
    try clear n12_0
    try clear n12_1
    try clear n12_2
    try clear n12_3
    try clear n21_0
    try clear n24_0
    try clear n24_1
    try clear n24_2
    try clear n24_3
    try clear n26_0
    try clear n26_1
    try clear n26_2
    try clear n26_3
    try clear n29_0
    try clear n32_0
    try clear n32_1
    try clear n32_2
    try clear n32_3
    try clear n36_0
    try clear n39_0
    try clear n39_1
    try clear n39_2
    try clear n39_3
    try clear n43_0
    try clear n48_0
    try clear n52_0
    try clear n52_1
    try clear n52_2
    try clear n52_3
    try clear n57_0
    try clear n57_1
    try clear n57_2
    try clear n64_0
    try clear n67_0
    try clear n67_1
    try clear n67_2
    try clear hx272_0
    try clear hx272_1
    try clear hx272_2
    try clear p2
    try clear p272
    try clear q272
    obtain ⟨kq, x272000_48, x272001_48, x272002_48, HA, HJ48, BK265, BK266, BK267, BK271, HB⟩ := hcut
    cases kq with
    | zero => exact absurd HA.out (by simp [impl_DoAct.j1])
    | succ kj48 =>
     have H := HA.out
     clear HA
     simp only [impl_DoAct.j1] at H
     by_cases c68 : a1_0 = 1
     ·rw [if_pos c68] at H
      have c68b0 : (a1_0 == 1) = true := beq_iff_eq.mpr c68
      have c68b1 : (a1_0 != 1) = false := bne_eq_false_iff_eq.mpr c68
      clear c68
      by_cases c69 : x272001_48.size + a1_2.size ≤ 9223372036854775807
      ·rw [if_pos c69] at H
       have c69b0 := eq_true c69
       have c69b1 := decide_eq_true c69
       try have c69b2 : (9223372036854775807 < x272001_48.size + a1_2.size) = False := eq_false (Nat.not_lt.2 c69)
       replace H := Option.bind_eq_some_iff.mp H
       obtain ⟨t274, A700, H⟩ := H
       have A70 := Aside0.mk A700
       clear A700
       replace H := Option.bind_eq_some_iff.mp H
       obtain ⟨t277, A710, H⟩ := H
       have A71 := Aside0.mk A710
       clear A710
       by_cases c72 : t277 = true
       ·subst c72
        rw [if_pos rfl] at H
        simp only [Option.some.injEq, Prod.mk.injEq] at H
        obtain ⟨rfl, rfl⟩ := H
        go_wp2_with (first | ((with_reducible refine gate_dst (N := 8) rfl ?_); refine zx (N := 8) (cs := #[.slice none 0 0]) (t := 29) ?_; intro gb273 hg w73 hbox hb; have BK273 := Aside0.mk (hbox); have GW273 := zg HB hg; have GE273 := zg HB hg; replace HB := zs HB hb; have NB265_273 := zl BK265 hg; have NB273_265 := zr BK265 hg; replace BK265 := zb BK265 hb; have NB266_273 := zl BK266 hg; have NB273_266 := zr BK266 hg; replace BK266 := zb BK266 hb; have NB267_273 := zl BK267 hg; have NB273_267 := zr BK267 hg; replace BK267 := zb BK267 hb; have NB271_273 := zl BK271 hg; have NB273_271 := zr BK271 hg; replace BK271 := zb BK271 hb; clear hb hbox hg; have hnb74 := NB273_265.out; have hnc74 := NB265_273.out; have hnb75 := NB273_266.out; have hnc75 := NB266_273.out; have hnb76 := NB273_267.out; have hnc76 := NB267_273.out; have hnb77 := NB273_271.out; have hnc77 := NB271_273.out; obtain ⟨m78_0, n78_0⟩ := zc1 BK273; have hnb79 := NB266_265.out; have hnc79 := NB265_266.out; have hnb80 := NB266_267.out; have hnc80 := NB267_266.out; have hnb81 := NB266_271.out; have hnc81 := NB271_266.out; obtain ⟨m82_0, m82_1, m82_2, m82_3, n82_0, n82_1, n82_2, n82_3⟩ := zc4 BK266; have hnb83 := NB271_265.out; have hnc83 := NB265_271.out; have hnb84 := NB271_267.out; have hnc84 := NB267_271.out; obtain ⟨m85_0, m85_1, m85_2, n85_0, n85_1, n85_2⟩ := zc3 BK271; have hnb86 := NB265_267.out; have hnc86 := NB267_265.out; obtain ⟨m87_0, n87_0⟩ := zc1 BK265) | ((with_reducible refine gate_callee (f := 66) rfl ?_); refine zG (some 58) Try.func66 #[.agg #[.slice A0_0 l0_0.length c0_0], .agg #[.string x272000_48, .string (x272001_48 ++ a1_2), .int .i64 x272002_48]] ?_; (with_reducible refine (impl_withFile.calls _ _ l0_0 x272000_48 (x272001_48 ++ a1_2) x272002_48 t274 _ ?side1 ?side2 A70.out).mono ?_); (case side1 => exact Kd.C_below HR0_0.out (zw HB)); (case side2 => exact HC0_0.out); rintro e w88 ⟨v275, rfl, ho0, hb⟩; refine ⟨_, rfl, ?_⟩; have HO276 := Aside0.mk (Kd.R_lower (Kd.R_newB ho0 (g := gb271) (o := .cells #[.string x272000_48, .string (x272001_48 ++ a1_2), .int .i64 x272002_48] 45 (0, 0)) (by (with_reducible repeat (first | refine blk_drewN ?_ _ | refine blk_drew ?_ | refine blk_alloc ?_ _)); refine blk_put (cs := #[.string x272000_48, .string x272001_48, .int .i64 x272002_48]) ?_ 1 _ rfl; (with_reducible repeat (first | refine blk_drewN ?_ _ | refine blk_drew ?_ | refine blk_alloc ?_ _)); refine blk_far ?_ NB271_273.out _; (with_reducible repeat (first | refine blk_drewN ?_ _ | refine blk_drew ?_ | refine blk_alloc ?_ _)); exact BK271.out)) (below_size (zw HB))); replace BK265 := zbf BK265 hb; replace BK266 := zbf BK266 hb; replace BK267 := zbf BK267 hb; replace BK271 := Aside0.mk (blk_below (g := gb271) (o := .cells #[.string x272000_48, .string (x272001_48 ++ a1_2), .int .i64 x272002_48] 45 (0, 0)) (by (with_reducible repeat (first | refine blk_drewN ?_ _ | refine blk_drew ?_ | refine blk_alloc ?_ _)); refine blk_put (cs := #[.string x272000_48, .string x272001_48, .int .i64 x272002_48]) ?_ 1 _ rfl; (with_reducible repeat (first | refine blk_drewN ?_ _ | refine blk_drew ?_ | refine blk_alloc ?_ _)); refine blk_far ?_ NB271_273.out _; (with_reducible repeat (first | refine blk_drewN ?_ _ | refine blk_drew ?_ | refine blk_alloc ?_ _)); exact BK271.out) hb); replace BK273 := Aside0.mk (blk_below (g := gb273) (o := .cells #[.slice none 0 0] 29 (0, 0)) (by (with_reducible repeat (first | refine blk_drewN ?_ _ | refine blk_drew ?_ | refine blk_alloc ?_ _)); refine blk_far ?_ NB273_271.out _; (with_reducible repeat (first | refine blk_drewN ?_ _ | refine blk_drew ?_ | refine blk_alloc ?_ _)); refine blk_put (cs := #[.slice none 0 0]) ?_ 0 _ rfl; (with_reducible repeat (first | refine blk_drewN ?_ _ | refine blk_drew ?_ | refine blk_alloc ?_ _)); exact BK273.out) hb); replace HB := zs HB hb; clear ho0 hb; obtain ⟨Ao89, co89, eo89⟩ := Kd.R_slice HO276.out; subst eo89; obtain ⟨m90_0, n90_0⟩ := zc1 BK273) | ((with_reducible refine gate_callee (f := 15) rfl ?_); refine zG (some 94) Try.func15 #[.agg #[.slice Ao89 t274.length co89]] ?_; (with_reducible refine (impl_DiskOk.calls kj48 _ _ t274 true _ ?side1 ?side2 A71.out).mono ?_); (case side1 => refine (Kd.R_reads' (e := 45) (base := w.heap.size) (ok := fun k_ => (True ∧ k_ ≠ gb271)) (n := t274.length) (c := co89) ?_).2.2; exact (zo ((Kd.R_mono (Kd.R_far (p := ⟨gb273, 0, none⟩) (Kd.R_types HO276.out BK273.out (by decide)) (fun _ hk => hk.2) (.slice Ao89 t274.length co89)) (fun _ h_ => h_.1))))); (case side2 => exact (Kd.R_reads' HO276.out).2.1); rintro e w91 ⟨rfl, hb⟩; refine ⟨_, rfl, ?_⟩; replace HO276 := Aside0.mk (Kd.R_below (zo ((Kd.R_mono (Kd.R_far (p := ⟨gb273, 0, none⟩) (Kd.R_types HO276.out BK273.out (by decide)) (fun _ hk => hk.2) (.slice Ao89 t274.length co89)) (fun _ h_ => h_.1)))) hb); replace BK265 := zbf BK265 hb; replace BK266 := zbf BK266 hb; replace BK267 := zbf BK267 hb; replace BK271 := zbf BK271 hb; replace BK273 := Aside0.mk (blk_below (g := gb273) (o := .cells #[.slice Ao89 t274.length co89] 29 (0, 0)) (by (with_reducible repeat (first | refine blk_drewN ?_ _ | refine blk_drew ?_ | refine blk_alloc ?_ _)); refine blk_put (cs := #[.slice none 0 0]) ?_ 0 _ rfl; (with_reducible repeat (first | refine blk_drewN ?_ _ | refine blk_drew ?_ | refine blk_alloc ?_ _)); exact BK273.out) hb); replace HB := zs HB hb; clear hb; obtain ⟨m92_0, n92_0⟩ := zc1 BK273; obtain ⟨m93_0, n93_0⟩ := zc1 BK267))
        refine bodyPost_ret (results_ct rfl _ _ gb267 29 #[.slice Ao89 t274.length co89] (0, 0) _ rfl (by (with_reducible repeat (first | refine blk_drewN ?_ _ | refine blk_drew ?_ | refine blk_alloc ?_ _)); refine blk_put (cs := #[.slice none 0 0]) ?_ 0 _ rfl; (with_reducible repeat (first | refine blk_drewN ?_ _ | refine blk_drew ?_ | refine blk_alloc ?_ _)); exact BK267.out) Try.underlying29 rfl (by kernel_rfl)) rfl ?_
        exact ⟨_, ze, zo (Kd.R_mono (Kd.R_far (p := ⟨gb267, 0, none⟩) (Kd.R_types HO276.out BK267.out (by decide)) (fun _ hk => hk.2) (.slice Ao89 t274.length co89)) (fun _ hk => trivial)), zw HB⟩
       replace c72 := Bool.eq_false_iff.mpr c72
       subst c72
       rw [if_neg (show ¬ (false = true) by decide)] at H
       simp only [Option.some.injEq, Prod.mk.injEq] at H
       obtain ⟨rfl, rfl⟩ := H
       go_wp2_with (first | ((with_reducible refine gate_dst (N := 8) rfl ?_); refine zx (N := 8) (cs := #[.slice none 0 0]) (t := 29) ?_; intro gb273 hg w94 hbox hb; have BK273 := Aside0.mk (hbox); have GW273 := zg HB hg; have GE273 := zg HB hg; replace HB := zs HB hb; have NB265_273 := zl BK265 hg; have NB273_265 := zr BK265 hg; replace BK265 := zb BK265 hb; have NB266_273 := zl BK266 hg; have NB273_266 := zr BK266 hg; replace BK266 := zb BK266 hb; have NB267_273 := zl BK267 hg; have NB273_267 := zr BK267 hg; replace BK267 := zb BK267 hb; have NB271_273 := zl BK271 hg; have NB273_271 := zr BK271 hg; replace BK271 := zb BK271 hb; clear hb hbox hg; have hnb95 := NB273_265.out; have hnc95 := NB265_273.out; have hnb96 := NB273_266.out; have hnc96 := NB266_273.out; have hnb97 := NB273_267.out; have hnc97 := NB267_273.out; have hnb98 := NB273_271.out; have hnc98 := NB271_273.out; obtain ⟨m99_0, n99_0⟩ := zc1 BK273; have hnb100 := NB266_265.out; have hnc100 := NB265_266.out; have hnb101 := NB266_267.out; have hnc101 := NB267_266.out; have hnb102 := NB266_271.out; have hnc102 := NB271_266.out; obtain ⟨m103_0, m103_1, m103_2, m103_3, n103_0, n103_1, n103_2, n103_3⟩ := zc4 BK266; have hnb104 := NB271_265.out; have hnc104 := NB265_271.out; have hnb105 := NB271_267.out; have hnc105 := NB267_271.out; obtain ⟨m106_0, m106_1, m106_2, n106_0, n106_1, n106_2⟩ := zc3 BK271; have hnb107 := NB265_267.out; have hnc107 := NB267_265.out; obtain ⟨m108_0, n108_0⟩ := zc1 BK265) | ((with_reducible refine gate_callee (f := 66) rfl ?_); refine zG (some 58) Try.func66 #[.agg #[.slice A0_0 l0_0.length c0_0], .agg #[.string x272000_48, .string (x272001_48 ++ a1_2), .int .i64 x272002_48]] ?_; (with_reducible refine (impl_withFile.calls _ _ l0_0 x272000_48 (x272001_48 ++ a1_2) x272002_48 t274 _ ?side1 ?side2 A70.out).mono ?_); (case side1 => exact Kd.C_below HR0_0.out (zw HB)); (case side2 => exact HC0_0.out); rintro e w109 ⟨v275, rfl, ho0, hb⟩; refine ⟨_, rfl, ?_⟩; have HO276 := Aside0.mk (Kd.R_lower (Kd.R_newB ho0 (g := gb271) (o := .cells #[.string x272000_48, .string (x272001_48 ++ a1_2), .int .i64 x272002_48] 45 (0, 0)) (by (with_reducible repeat (first | refine blk_drewN ?_ _ | refine blk_drew ?_ | refine blk_alloc ?_ _)); refine blk_put (cs := #[.string x272000_48, .string x272001_48, .int .i64 x272002_48]) ?_ 1 _ rfl; (with_reducible repeat (first | refine blk_drewN ?_ _ | refine blk_drew ?_ | refine blk_alloc ?_ _)); refine blk_far ?_ NB271_273.out _; (with_reducible repeat (first | refine blk_drewN ?_ _ | refine blk_drew ?_ | refine blk_alloc ?_ _)); exact BK271.out)) (below_size (zw HB))); replace BK265 := zbf BK265 hb; replace BK266 := zbf BK266 hb; replace BK267 := zbf BK267 hb; replace BK271 := Aside0.mk (blk_below (g := gb271) (o := .cells #[.string x272000_48, .string (x272001_48 ++ a1_2), .int .i64 x272002_48] 45 (0, 0)) (by (with_reducible repeat (first | refine blk_drewN ?_ _ | refine blk_drew ?_ | refine blk_alloc ?_ _)); refine blk_put (cs := #[.string x272000_48, .string x272001_48, .int .i64 x272002_48]) ?_ 1 _ rfl; (with_reducible repeat (first | refine blk_drewN ?_ _ | refine blk_drew ?_ | refine blk_alloc ?_ _)); refine blk_far ?_ NB271_273.out _; (with_reducible repeat (first | refine blk_drewN ?_ _ | refine blk_drew ?_ | refine blk_alloc ?_ _)); exact BK271.out) hb); replace BK273 := Aside0.mk (blk_below (g := gb273) (o := .cells #[.slice none 0 0] 29 (0, 0)) (by (with_reducible repeat (first | refine blk_drewN ?_ _ | refine blk_drew ?_ | refine blk_alloc ?_ _)); refine blk_far ?_ NB273_271.out _; (with_reducible repeat (first | refine blk_drewN ?_ _ | refine blk_drew ?_ | refine blk_alloc ?_ _)); refine blk_put (cs := #[.slice none 0 0]) ?_ 0 _ rfl; (with_reducible repeat (first | refine blk_drewN ?_ _ | refine blk_drew ?_ | refine blk_alloc ?_ _)); exact BK273.out) hb); replace HB := zs HB hb; clear ho0 hb; obtain ⟨Ao110, co110, eo110⟩ := Kd.R_slice HO276.out; subst eo110; obtain ⟨m111_0, n111_0⟩ := zc1 BK273) | ((with_reducible refine gate_callee (f := 15) rfl ?_); refine zG (some 94) Try.func15 #[.agg #[.slice Ao110 t274.length co110]] ?_; (with_reducible refine (impl_DiskOk.calls kj48 _ _ t274 false _ ?side1 ?side2 A71.out).mono ?_); (case side1 => refine (Kd.R_reads' (e := 45) (base := w.heap.size) (ok := fun k_ => (True ∧ k_ ≠ gb271)) (n := t274.length) (c := co110) ?_).2.2; exact (zo ((Kd.R_mono (Kd.R_far (p := ⟨gb273, 0, none⟩) (Kd.R_types HO276.out BK273.out (by decide)) (fun _ hk => hk.2) (.slice Ao110 t274.length co110)) (fun _ h_ => h_.1))))); (case side2 => exact (Kd.R_reads' HO276.out).2.1); rintro e w112 ⟨rfl, hb⟩; refine ⟨_, rfl, ?_⟩; replace HO276 := Aside0.mk (Kd.R_below (zo ((Kd.R_mono (Kd.R_far (p := ⟨gb273, 0, none⟩) (Kd.R_types HO276.out BK273.out (by decide)) (fun _ hk => hk.2) (.slice Ao110 t274.length co110)) (fun _ h_ => h_.1)))) hb); replace BK265 := zbf BK265 hb; replace BK266 := zbf BK266 hb; replace BK267 := zbf BK267 hb; replace BK271 := zbf BK271 hb; replace BK273 := Aside0.mk (blk_below (g := gb273) (o := .cells #[.slice Ao110 t274.length co110] 29 (0, 0)) (by (with_reducible repeat (first | refine blk_drewN ?_ _ | refine blk_drew ?_ | refine blk_alloc ?_ _)); refine blk_put (cs := #[.slice none 0 0]) ?_ 0 _ rfl; (with_reducible repeat (first | refine blk_drewN ?_ _ | refine blk_drew ?_ | refine blk_alloc ?_ _)); exact BK273.out) hb); replace HB := zs HB hb; clear hb; obtain ⟨m113_0, n113_0⟩ := zc1 BK267))
       refine bodyPost_ret (results_ct rfl _ _ gb267 29 #[.slice none 0 0] (0, 0) _ rfl (by (with_reducible repeat (first | refine blk_drewN ?_ _ | refine blk_drew ?_ | refine blk_alloc ?_ _)); refine blk_put (cs := #[.slice none 0 0]) ?_ 0 _ rfl; (with_reducible repeat (first | refine blk_drewN ?_ _ | refine blk_drew ?_ | refine blk_alloc ?_ _)); exact BK267.out) Try.underlying29 rfl (by kernel_rfl)) rfl ?_
       exact ⟨_, ze, by first | exact Kd.R_nil _ _ _ _ _ | exact Kd.N_nil _ _ _ _ _ | exact Kd.V_nil _ _ _ _ _ | exact Kd.Q_nil _ _ _ _ _ | exact Kd.S_nil _ _ _ _ _, zw HB⟩
      rw [if_neg c69] at H
      exact absurd H (by simp)
     rw [if_neg c68] at H
     have c68b0 : (a1_0 == 1) = false := beq_eq_false_iff_ne.mpr c68
     have c68b1 : (a1_0 != 1) = true := bne_iff_ne.mpr c68
     by_cases c114 : a1_0 = 2
     ·rw [if_pos c114] at H
      have c114b0 : (a1_0 == 2) = true := beq_iff_eq.mpr c114
      have c114b1 : (a1_0 != 2) = false := bne_eq_false_iff_eq.mpr c114
      clear c114
      replace H := Option.bind_eq_some_iff.mp H
      obtain ⟨t278, A1150, H⟩ := H
      have A115 := Aside0.mk A1150
      clear A1150
      replace H := Option.bind_eq_some_iff.mp H
      obtain ⟨t281, A1160, H⟩ := H
      have A116 := Aside0.mk A1160
      clear A1160
      by_cases c117 : t281 = true
      ·subst c117
       rw [if_pos rfl] at H
       simp only [Option.some.injEq, Prod.mk.injEq] at H
       obtain ⟨rfl, rfl⟩ := H
       go_wp2_with (first | ((with_reducible refine gate_dst (N := 8) rfl ?_); refine zx (N := 8) (cs := #[.slice none 0 0]) (t := 29) ?_; intro gb273 hg w118 hbox hb; have BK273 := Aside0.mk (hbox); have GW273 := zg HB hg; have GE273 := zg HB hg; replace HB := zs HB hb; have NB265_273 := zl BK265 hg; have NB273_265 := zr BK265 hg; replace BK265 := zb BK265 hb; have NB266_273 := zl BK266 hg; have NB273_266 := zr BK266 hg; replace BK266 := zb BK266 hb; have NB267_273 := zl BK267 hg; have NB273_267 := zr BK267 hg; replace BK267 := zb BK267 hb; have NB271_273 := zl BK271 hg; have NB273_271 := zr BK271 hg; replace BK271 := zb BK271 hb; clear hb hbox hg; have hnb119 := NB273_265.out; have hnc119 := NB265_273.out; have hnb120 := NB273_266.out; have hnc120 := NB266_273.out; have hnb121 := NB273_267.out; have hnc121 := NB267_273.out; have hnb122 := NB273_271.out; have hnc122 := NB271_273.out; obtain ⟨m123_0, n123_0⟩ := zc1 BK273; have hnb124 := NB266_265.out; have hnc124 := NB265_266.out; have hnb125 := NB266_267.out; have hnc125 := NB267_266.out; have hnb126 := NB266_271.out; have hnc126 := NB271_266.out; obtain ⟨m127_0, m127_1, m127_2, m127_3, n127_0, n127_1, n127_2, n127_3⟩ := zc4 BK266; have hnb128 := NB271_265.out; have hnc128 := NB265_271.out; have hnb129 := NB271_267.out; have hnc129 := NB267_271.out; obtain ⟨m130_0, m130_1, m130_2, n130_0, n130_1, n130_2⟩ := zc3 BK271; have hnb131 := NB265_267.out; have hnc131 := NB267_265.out; obtain ⟨m132_0, n132_0⟩ := zc1 BK265) | ((with_reducible refine gate_callee (f := 66) rfl ?_); refine zG (some 67) Try.func66 #[.agg #[.slice A0_0 l0_0.length c0_0], .agg #[.string x272000_48, .string x272001_48, .int .i64 (x272001_48.size : Int)]] ?_; (with_reducible refine (impl_withFile.calls _ _ l0_0 x272000_48 x272001_48 (x272001_48.size : Int) t278 _ ?side1 ?side2 A115.out).mono ?_); (case side1 => exact Kd.C_below HR0_0.out (zw HB)); (case side2 => exact HC0_0.out); rintro e w133 ⟨v279, rfl, ho0, hb⟩; refine ⟨_, rfl, ?_⟩; have HO280 := Aside0.mk (Kd.R_lower (Kd.R_newB ho0 (g := gb271) (o := .cells #[.string x272000_48, .string x272001_48, .int .i64 (x272001_48.size : Int)] 45 (0, 0)) (by (with_reducible repeat (first | refine blk_drewN ?_ _ | refine blk_drew ?_ | refine blk_alloc ?_ _)); refine blk_put (cs := #[.string x272000_48, .string x272001_48, .int .i64 x272002_48]) ?_ 2 _ rfl; (with_reducible repeat (first | refine blk_drewN ?_ _ | refine blk_drew ?_ | refine blk_alloc ?_ _)); refine blk_far ?_ NB271_273.out _; (with_reducible repeat (first | refine blk_drewN ?_ _ | refine blk_drew ?_ | refine blk_alloc ?_ _)); exact BK271.out)) (below_size (zw HB))); replace BK265 := zbf BK265 hb; replace BK266 := zbf BK266 hb; replace BK267 := zbf BK267 hb; replace BK271 := Aside0.mk (blk_below (g := gb271) (o := .cells #[.string x272000_48, .string x272001_48, .int .i64 (x272001_48.size : Int)] 45 (0, 0)) (by (with_reducible repeat (first | refine blk_drewN ?_ _ | refine blk_drew ?_ | refine blk_alloc ?_ _)); refine blk_put (cs := #[.string x272000_48, .string x272001_48, .int .i64 x272002_48]) ?_ 2 _ rfl; (with_reducible repeat (first | refine blk_drewN ?_ _ | refine blk_drew ?_ | refine blk_alloc ?_ _)); refine blk_far ?_ NB271_273.out _; (with_reducible repeat (first | refine blk_drewN ?_ _ | refine blk_drew ?_ | refine blk_alloc ?_ _)); exact BK271.out) hb); replace BK273 := Aside0.mk (blk_below (g := gb273) (o := .cells #[.slice none 0 0] 29 (0, 0)) (by (with_reducible repeat (first | refine blk_drewN ?_ _ | refine blk_drew ?_ | refine blk_alloc ?_ _)); refine blk_far ?_ NB273_271.out _; (with_reducible repeat (first | refine blk_drewN ?_ _ | refine blk_drew ?_ | refine blk_alloc ?_ _)); refine blk_put (cs := #[.slice none 0 0]) ?_ 0 _ rfl; (with_reducible repeat (first | refine blk_drewN ?_ _ | refine blk_drew ?_ | refine blk_alloc ?_ _)); exact BK273.out) hb); replace HB := zs HB hb; clear ho0 hb; obtain ⟨Ao134, co134, eo134⟩ := Kd.R_slice HO280.out; subst eo134; obtain ⟨m135_0, n135_0⟩ := zc1 BK273) | ((with_reducible refine gate_callee (f := 15) rfl ?_); refine zG (some 94) Try.func15 #[.agg #[.slice Ao134 t278.length co134]] ?_; (with_reducible refine (impl_DiskOk.calls kj48 _ _ t278 true _ ?side1 ?side2 A116.out).mono ?_); (case side1 => refine (Kd.R_reads' (e := 45) (base := w.heap.size) (ok := fun k_ => (True ∧ k_ ≠ gb271)) (n := t278.length) (c := co134) ?_).2.2; exact (zo ((Kd.R_mono (Kd.R_far (p := ⟨gb273, 0, none⟩) (Kd.R_types HO280.out BK273.out (by decide)) (fun _ hk => hk.2) (.slice Ao134 t278.length co134)) (fun _ h_ => h_.1))))); (case side2 => exact (Kd.R_reads' HO280.out).2.1); rintro e w136 ⟨rfl, hb⟩; refine ⟨_, rfl, ?_⟩; replace HO280 := Aside0.mk (Kd.R_below (zo ((Kd.R_mono (Kd.R_far (p := ⟨gb273, 0, none⟩) (Kd.R_types HO280.out BK273.out (by decide)) (fun _ hk => hk.2) (.slice Ao134 t278.length co134)) (fun _ h_ => h_.1)))) hb); replace BK265 := zbf BK265 hb; replace BK266 := zbf BK266 hb; replace BK267 := zbf BK267 hb; replace BK271 := zbf BK271 hb; replace BK273 := Aside0.mk (blk_below (g := gb273) (o := .cells #[.slice Ao134 t278.length co134] 29 (0, 0)) (by (with_reducible repeat (first | refine blk_drewN ?_ _ | refine blk_drew ?_ | refine blk_alloc ?_ _)); refine blk_put (cs := #[.slice none 0 0]) ?_ 0 _ rfl; (with_reducible repeat (first | refine blk_drewN ?_ _ | refine blk_drew ?_ | refine blk_alloc ?_ _)); exact BK273.out) hb); replace HB := zs HB hb; clear hb; obtain ⟨m137_0, n137_0⟩ := zc1 BK273; obtain ⟨m138_0, n138_0⟩ := zc1 BK267))
       refine bodyPost_ret (results_ct rfl _ _ gb267 29 #[.slice Ao134 t278.length co134] (0, 0) _ rfl (by (with_reducible repeat (first | refine blk_drewN ?_ _ | refine blk_drew ?_ | refine blk_alloc ?_ _)); refine blk_put (cs := #[.slice none 0 0]) ?_ 0 _ rfl; (with_reducible repeat (first | refine blk_drewN ?_ _ | refine blk_drew ?_ | refine blk_alloc ?_ _)); exact BK267.out) Try.underlying29 rfl (by kernel_rfl)) rfl ?_
       exact ⟨_, ze, zo (Kd.R_mono (Kd.R_far (p := ⟨gb267, 0, none⟩) (Kd.R_types HO280.out BK267.out (by decide)) (fun _ hk => hk.2) (.slice Ao134 t278.length co134)) (fun _ hk => trivial)), zw HB⟩
      replace c117 := Bool.eq_false_iff.mpr c117
      subst c117
      rw [if_neg (show ¬ (false = true) by decide)] at H
      simp only [Option.some.injEq, Prod.mk.injEq] at H
      obtain ⟨rfl, rfl⟩ := H
      go_wp2_with (first | ((with_reducible refine gate_dst (N := 8) rfl ?_); refine zx (N := 8) (cs := #[.slice none 0 0]) (t := 29) ?_; intro gb273 hg w139 hbox hb; have BK273 := Aside0.mk (hbox); have GW273 := zg HB hg; have GE273 := zg HB hg; replace HB := zs HB hb; have NB265_273 := zl BK265 hg; have NB273_265 := zr BK265 hg; replace BK265 := zb BK265 hb; have NB266_273 := zl BK266 hg; have NB273_266 := zr BK266 hg; replace BK266 := zb BK266 hb; have NB267_273 := zl BK267 hg; have NB273_267 := zr BK267 hg; replace BK267 := zb BK267 hb; have NB271_273 := zl BK271 hg; have NB273_271 := zr BK271 hg; replace BK271 := zb BK271 hb; clear hb hbox hg; have hnb140 := NB273_265.out; have hnc140 := NB265_273.out; have hnb141 := NB273_266.out; have hnc141 := NB266_273.out; have hnb142 := NB273_267.out; have hnc142 := NB267_273.out; have hnb143 := NB273_271.out; have hnc143 := NB271_273.out; obtain ⟨m144_0, n144_0⟩ := zc1 BK273; have hnb145 := NB266_265.out; have hnc145 := NB265_266.out; have hnb146 := NB266_267.out; have hnc146 := NB267_266.out; have hnb147 := NB266_271.out; have hnc147 := NB271_266.out; obtain ⟨m148_0, m148_1, m148_2, m148_3, n148_0, n148_1, n148_2, n148_3⟩ := zc4 BK266; have hnb149 := NB271_265.out; have hnc149 := NB265_271.out; have hnb150 := NB271_267.out; have hnc150 := NB267_271.out; obtain ⟨m151_0, m151_1, m151_2, n151_0, n151_1, n151_2⟩ := zc3 BK271; have hnb152 := NB265_267.out; have hnc152 := NB267_265.out; obtain ⟨m153_0, n153_0⟩ := zc1 BK265) | ((with_reducible refine gate_callee (f := 66) rfl ?_); refine zG (some 67) Try.func66 #[.agg #[.slice A0_0 l0_0.length c0_0], .agg #[.string x272000_48, .string x272001_48, .int .i64 (x272001_48.size : Int)]] ?_; (with_reducible refine (impl_withFile.calls _ _ l0_0 x272000_48 x272001_48 (x272001_48.size : Int) t278 _ ?side1 ?side2 A115.out).mono ?_); (case side1 => exact Kd.C_below HR0_0.out (zw HB)); (case side2 => exact HC0_0.out); rintro e w154 ⟨v279, rfl, ho0, hb⟩; refine ⟨_, rfl, ?_⟩; have HO280 := Aside0.mk (Kd.R_lower (Kd.R_newB ho0 (g := gb271) (o := .cells #[.string x272000_48, .string x272001_48, .int .i64 (x272001_48.size : Int)] 45 (0, 0)) (by (with_reducible repeat (first | refine blk_drewN ?_ _ | refine blk_drew ?_ | refine blk_alloc ?_ _)); refine blk_put (cs := #[.string x272000_48, .string x272001_48, .int .i64 x272002_48]) ?_ 2 _ rfl; (with_reducible repeat (first | refine blk_drewN ?_ _ | refine blk_drew ?_ | refine blk_alloc ?_ _)); refine blk_far ?_ NB271_273.out _; (with_reducible repeat (first | refine blk_drewN ?_ _ | refine blk_drew ?_ | refine blk_alloc ?_ _)); exact BK271.out)) (below_size (zw HB))); replace BK265 := zbf BK265 hb; replace BK266 := zbf BK266 hb; replace BK267 := zbf BK267 hb; replace BK271 := Aside0.mk (blk_below (g := gb271) (o := .cells #[.string x272000_48, .string x272001_48, .int .i64 (x272001_48.size : Int)] 45 (0, 0)) (by (with_reducible repeat (first | refine blk_drewN ?_ _ | refine blk_drew ?_ | refine blk_alloc ?_ _)); refine blk_put (cs := #[.string x272000_48, .string x272001_48, .int .i64 x272002_48]) ?_ 2 _ rfl; (with_reducible repeat (first | refine blk_drewN ?_ _ | refine blk_drew ?_ | refine blk_alloc ?_ _)); refine blk_far ?_ NB271_273.out _; (with_reducible repeat (first | refine blk_drewN ?_ _ | refine blk_drew ?_ | refine blk_alloc ?_ _)); exact BK271.out) hb); replace BK273 := Aside0.mk (blk_below (g := gb273) (o := .cells #[.slice none 0 0] 29 (0, 0)) (by (with_reducible repeat (first | refine blk_drewN ?_ _ | refine blk_drew ?_ | refine blk_alloc ?_ _)); refine blk_far ?_ NB273_271.out _; (with_reducible repeat (first | refine blk_drewN ?_ _ | refine blk_drew ?_ | refine blk_alloc ?_ _)); refine blk_put (cs := #[.slice none 0 0]) ?_ 0 _ rfl; (with_reducible repeat (first | refine blk_drewN ?_ _ | refine blk_drew ?_ | refine blk_alloc ?_ _)); exact BK273.out) hb); replace HB := zs HB hb; clear ho0 hb; obtain ⟨Ao155, co155, eo155⟩ := Kd.R_slice HO280.out; subst eo155; obtain ⟨m156_0, n156_0⟩ := zc1 BK273) | ((with_reducible refine gate_callee (f := 15) rfl ?_); refine zG (some 94) Try.func15 #[.agg #[.slice Ao155 t278.length co155]] ?_; (with_reducible refine (impl_DiskOk.calls kj48 _ _ t278 false _ ?side1 ?side2 A116.out).mono ?_); (case side1 => refine (Kd.R_reads' (e := 45) (base := w.heap.size) (ok := fun k_ => (True ∧ k_ ≠ gb271)) (n := t278.length) (c := co155) ?_).2.2; exact (zo ((Kd.R_mono (Kd.R_far (p := ⟨gb273, 0, none⟩) (Kd.R_types HO280.out BK273.out (by decide)) (fun _ hk => hk.2) (.slice Ao155 t278.length co155)) (fun _ h_ => h_.1))))); (case side2 => exact (Kd.R_reads' HO280.out).2.1); rintro e w157 ⟨rfl, hb⟩; refine ⟨_, rfl, ?_⟩; replace HO280 := Aside0.mk (Kd.R_below (zo ((Kd.R_mono (Kd.R_far (p := ⟨gb273, 0, none⟩) (Kd.R_types HO280.out BK273.out (by decide)) (fun _ hk => hk.2) (.slice Ao155 t278.length co155)) (fun _ h_ => h_.1)))) hb); replace BK265 := zbf BK265 hb; replace BK266 := zbf BK266 hb; replace BK267 := zbf BK267 hb; replace BK271 := zbf BK271 hb; replace BK273 := Aside0.mk (blk_below (g := gb273) (o := .cells #[.slice Ao155 t278.length co155] 29 (0, 0)) (by (with_reducible repeat (first | refine blk_drewN ?_ _ | refine blk_drew ?_ | refine blk_alloc ?_ _)); refine blk_put (cs := #[.slice none 0 0]) ?_ 0 _ rfl; (with_reducible repeat (first | refine blk_drewN ?_ _ | refine blk_drew ?_ | refine blk_alloc ?_ _)); exact BK273.out) hb); replace HB := zs HB hb; clear hb; obtain ⟨m158_0, n158_0⟩ := zc1 BK267))
      refine bodyPost_ret (results_ct rfl _ _ gb267 29 #[.slice none 0 0] (0, 0) _ rfl (by (with_reducible repeat (first | refine blk_drewN ?_ _ | refine blk_drew ?_ | refine blk_alloc ?_ _)); refine blk_put (cs := #[.slice none 0 0]) ?_ 0 _ rfl; (with_reducible repeat (first | refine blk_drewN ?_ _ | refine blk_drew ?_ | refine blk_alloc ?_ _)); exact BK267.out) Try.underlying29 rfl (by kernel_rfl)) rfl ?_
      exact ⟨_, ze, by first | exact Kd.R_nil _ _ _ _ _ | exact Kd.N_nil _ _ _ _ _ | exact Kd.V_nil _ _ _ _ _ | exact Kd.Q_nil _ _ _ _ _ | exact Kd.S_nil _ _ _ _ _, zw HB⟩
     rw [if_neg c114] at H
     have c114b0 : (a1_0 == 2) = false := beq_eq_false_iff_ne.mpr c114
     have c114b1 : (a1_0 != 2) = true := bne_iff_ne.mpr c114
     by_cases c159 : a1_0 = 3
     ·rw [if_pos c159] at H
      have c159b0 : (a1_0 == 3) = true := beq_iff_eq.mpr c159
      have c159b1 : (a1_0 != 3) = false := bne_eq_false_iff_eq.mpr c159
      clear c159
      have HC160 := Aside0.mk H
      clear H
      go_upto_region 17 with (first | ((with_reducible refine gate_dst (N := 8) rfl ?_); refine zx (N := 8) (cs := #[.slice none 0 0]) (t := 29) ?_; intro gb273 hg w161 hbox hb; have BK273 := Aside0.mk (hbox); have GW273 := zg HB hg; have GE273 := zg HB hg; replace HB := zs HB hb; have NB265_273 := zl BK265 hg; have NB273_265 := zr BK265 hg; replace BK265 := zb BK265 hb; have NB266_273 := zl BK266 hg; have NB273_266 := zr BK266 hg; replace BK266 := zb BK266 hb; have NB267_273 := zl BK267 hg; have NB273_267 := zr BK267 hg; replace BK267 := zb BK267 hb; have NB271_273 := zl BK271 hg; have NB273_271 := zr BK271 hg; replace BK271 := zb BK271 hb; clear hb hbox hg; have hnb162 := NB273_265.out; have hnc162 := NB265_273.out; have hnb163 := NB273_266.out; have hnc163 := NB266_273.out; have hnb164 := NB273_267.out; have hnc164 := NB267_273.out; have hnb165 := NB273_271.out; have hnc165 := NB271_273.out; obtain ⟨m166_0, n166_0⟩ := zc1 BK273; have hnb167 := NB266_265.out; have hnc167 := NB265_266.out; have hnb168 := NB266_267.out; have hnc168 := NB267_266.out; have hnb169 := NB266_271.out; have hnc169 := NB271_266.out; obtain ⟨m170_0, m170_1, m170_2, m170_3, n170_0, n170_1, n170_2, n170_3⟩ := zc4 BK266))
      (try simp only [Act.put, zA, zB, zC])
      go_cut [82] (fun v82 wc => ∃ (kq : Nat) (x82_159 : Bool), v82 = .bool x82_159 ∧ Aside0 (impl_DoAct.j2 kq x82_159 l0_0 a1_0 a1_1 a1_2 a1_3 x272000_48 x272001_48 x272002_48 = some (r1, r2)) ∧ Aside0 (kq ≤ kj48) ∧ Aside0 (wc.heap[gb265]? = some (.cells #[(.slice A0_0 l0_0.length c0_0)] 29 (0, 0))) ∧ Aside0 (wc.heap[gb266]? = some (.cells #[.int .i64 a1_0, .string a1_1, .string a1_2, .string a1_3] 55 (0, 0))) ∧ Aside0 (wc.heap[gb267]? = some (.cells #[(.slice none 0 0)] 29 (0, 0))) ∧ Aside0 (wc.heap[gb271]? = some (.cells #[.string x272000_48, .string x272001_48, .int .i64 x272002_48] 45 (0, 0))) ∧ Aside0 (wc.heap[gb273]? = some (.cells #[(.slice none 0 0)] 29 (0, 0))) ∧ Aside0 (Below w.heap.size w wc))
      case first =>
       have H := HC160.out
       clear HC160
       by_cases c171 : x272002_48 = (x272001_48.size : Int)
       ·rw [if_pos c171] at H
        have c171b0 : (x272002_48 == (x272001_48.size : Int)) = true := beq_iff_eq.mpr c171
        have c171b1 : (x272002_48 != (x272001_48.size : Int)) = false := bne_eq_false_iff_eq.mpr c171
        clear c171
        (first | rw [c171b0] | (simp only [i64_w, i32_w]; rw [c171b0]) | skip)
        have H' := Aside0.mk H
        clear H
        have hnb172 := NB271_265.out
        have hnc172 := NB265_271.out
        have hnb173 := NB271_266.out
        have hnc173 := NB266_271.out
        have hnb174 := NB271_267.out
        have hnc174 := NB267_271.out
        have hnb175 := NB271_273.out
        have hnc175 := NB273_271.out
        obtain ⟨m176_0, m176_1, m176_2, n176_0, n176_1, n176_2⟩ := zc3 BK271
        have hnb177 := NB266_265.out
        have hnc177 := NB265_266.out
        have hnb178 := NB266_267.out
        have hnc178 := NB267_266.out
        have hnb179 := NB266_273.out
        have hnc179 := NB273_266.out
        obtain ⟨m180_0, m180_1, m180_2, m180_3, n180_0, n180_1, n180_2, n180_3⟩ := zc4 BK266
        go_wp2
        go_meet
        case rel => exact ⟨_, ((a1_3.toList == a1_1.toList)), zf, H', ⟨by have := HJ3.out; have := HJ48.out; first | omega | exact Nat.le_refl _⟩, ⟨zkf BK265⟩, ⟨zkf BK266⟩, ⟨zkf BK267⟩, ⟨zkf BK271⟩, ⟨by (with_reducible repeat (first | refine blk_drewN ?_ _ | refine blk_drew ?_ | refine blk_alloc ?_ _)); refine blk_put (cs := #[.slice none 0 0]) ?_ 0 _ rfl; (with_reducible repeat (first | refine blk_drewN ?_ _ | refine blk_drew ?_ | refine blk_alloc ?_ _)); exact BK273.out⟩, ⟨zw HB⟩⟩
       rw [if_neg c171] at H
       have c171b0 : (x272002_48 == (x272001_48.size : Int)) = false := beq_eq_false_iff_ne.mpr c171
       have c171b1 : (x272002_48 != (x272001_48.size : Int)) = true := bne_iff_ne.mpr c171
       (first | rw [c171b0] | (simp only [i64_w, i32_w]; rw [c171b0]) | skip)
       have H' := Aside0.mk H
       clear H
       have hnb181 := NB271_265.out
       have hnc181 := NB265_271.out
       have hnb182 := NB271_266.out
       have hnc182 := NB266_271.out
       have hnb183 := NB271_267.out
       have hnc183 := NB267_271.out
       have hnb184 := NB271_273.out
       have hnc184 := NB273_271.out
       obtain ⟨m185_0, m185_1, m185_2, n185_0, n185_1, n185_2⟩ := zc3 BK271
       go_wp2
       go_meet
       case rel => exact ⟨_, (true), zf, H', ⟨by have := HJ3.out; have := HJ48.out; first | omega | exact Nat.le_refl _⟩, ⟨zkf BK265⟩, ⟨zkf BK266⟩, ⟨zkf BK267⟩, ⟨zkf BK271⟩, ⟨by (with_reducible repeat (first | refine blk_drewN ?_ _ | refine blk_drew ?_ | refine blk_alloc ?_ _)); refine blk_put (cs := #[.slice none 0 0]) ?_ 0 _ rfl; (with_reducible repeat (first | refine blk_drewN ?_ _ | refine blk_drew ?_ | refine blk_alloc ?_ _)); exact BK273.out⟩, ⟨zw HB⟩⟩
      case rest =>
       clear HC160
       try clear c1
       try clear c2
       try clear p2
       try clear q2
       try clear hx2
       try clear c3
       try clear c4
       try clear c5
       try clear c6
       try clear c7
       try clear c8
       try clear c9
       try clear c10
       try clear c11
       try clear c12
       try clear c13
       try clear c14
       try clear c15
       try clear c16
       try clear c17
       try clear c18
       try clear c18b0
       try clear c19
       try clear c20
       try clear c23
       try clear c27
       try clear p27
       try clear q27
       try clear hx27
       try clear c28
       try clear c31
       try clear c34
       try clear c35
       try clear c37
       try clear c38
       try clear c41
       try clear c42
       try clear c45
       try clear c46
       try clear c47
       try clear c50
       try clear c51
       try clear c54
       try clear c55
       try clear c56
       try clear c58
       try clear c58b0
       try clear c59
       try clear c59b0
       try clear c60
       try clear c60b0
       try clear c61
       try clear c62
       try clear c63
       try clear c65
       try clear c66
       try clear c68
       try clear c68b0
       try clear c68b1
       try clear c69
       try clear c69b0
       try clear c69b1
       try clear c69b2
       try clear c72
       try clear c74
       try clear c75
       try clear c76
       try clear c77
       try clear c79
       try clear c80
       try clear c81
       try clear c83
       try clear c84
       try clear c86
       try clear c95
       try clear c96
       try clear c97
       try clear c98
       try clear c100
       try clear c101
       try clear c102
       try clear c104
       try clear c105
       try clear c107
       try clear c114
       try clear c114b0
       try clear c114b1
       try clear c117
       try clear c119
       try clear c120
       try clear c121
       try clear c122
       try clear c124
       try clear c125
       try clear c126
       try clear c128
       try clear c129
       try clear c131
       try clear c140
       try clear c141
       try clear c142
       try clear c143
       try clear c145
       try clear c146
       try clear c147
       try clear c149
       try clear c150
       try clear c152
       try clear c159
       try clear c159b0
       try clear c159b1
       try clear c162
       try clear c163
       try clear c164
       try clear c165
       try clear c167
       try clear c168
       try clear c169
       try clear c171
       try clear c171b0
       try clear c171b1
       try clear c172
       try clear c173
       try clear c174
       try clear c175
       try clear c177
       try clear c178
       try clear c179
       try clear c181
       try clear c182
       try clear c183
       try clear c184
       try clear m103_0
       try clear m103_1
       try clear m103_2
       try clear m103_3
       try clear m106_0
       try clear m106_1
       try clear m106_2
       try clear m108_0
       try clear m10_0
       try clear m111_0
       try clear m113_0
       try clear m123_0
       try clear m127_0
       try clear m127_1
       try clear m127_2
       try clear m127_3
       try clear m12_0
       try clear m12_1
       try clear m12_2
       try clear m12_3
       try clear m130_0
       try clear m130_1
       try clear m130_2
       try clear m132_0
       try clear m135_0
       try clear m137_0
       try clear m138_0
       try clear m144_0
       try clear m148_0
       try clear m148_1
       try clear m148_2
       try clear m148_3
       try clear m151_0
       try clear m151_1
       try clear m151_2
       try clear m153_0
       try clear m156_0
       try clear m158_0
       try clear m166_0
       try clear m170_0
       try clear m170_1
       try clear m170_2
       try clear m170_3
       try clear m176_0
       try clear m176_1
       try clear m176_2
       try clear m180_0
       try clear m180_1
       try clear m180_2
       try clear m180_3
       try clear m185_0
       try clear m185_1
       try clear m185_2
       try clear m21_0
       try clear m24_0
       try clear m24_1
       try clear m24_2
       try clear m24_3
       try clear m26_0
       try clear m26_1
       try clear m26_2
       try clear m26_3
       try clear m29_0
       try clear m32_0
       try clear m32_1
       try clear m32_2
       try clear m32_3
       try clear m36_0
       try clear m39_0
       try clear m39_1
       try clear m39_2
       try clear m39_3
       try clear m43_0
       try clear m48_0
       try clear m52_0
       try clear m52_1
       try clear m52_2
       try clear m52_3
       try clear m57_0
       try clear m57_1
       try clear m57_2
       try clear m64_0
       try clear m67_0
       try clear m67_1
       try clear m67_2
       try clear m78_0
       try clear m82_0
       try clear m82_1
       try clear m82_2
       try clear m82_3
       try clear m85_0
       try clear m85_1
       try clear m85_2
       try clear m87_0
       try clear m90_0
       try clear m92_0
       try clear m93_0
       try clear m99_0
       try clear n103_0
       try clear n103_1
       try clear n103_2
       try clear n103_3
       try clear n106_0
       try clear n106_1
       try clear n106_2
       try clear n108_0
       try clear n10_0
       try clear n111_0
       try clear n113_0
       try clear n123_0
       try clear n127_0
       try clear n127_1
       try clear n127_2
       try clear n127_3
       try clear n12_0
       try clear n12_1
       try clear n12_2
       try clear n12_3
       try clear n130_0
       try clear n130_1
       try clear n130_2
       try clear n132_0
       try clear n135_0
       try clear n137_0
       try clear n138_0
       try clear n144_0
       try clear n148_0
       try clear n148_1
       try clear n148_2
       try clear n148_3
       try clear n151_0
       try clear n151_1
       try clear n151_2
       try clear n153_0
       try clear n156_0
       try clear n158_0
       try clear n166_0
       try clear n170_0
       try clear n170_1
       try clear n170_2
       try clear n170_3
       try clear n176_0
       try clear n176_1
       try clear n176_2
       try clear n180_0
       try clear n180_1
       try clear n180_2
       try clear n180_3
       try clear n185_0
       try clear n185_1
       try clear n185_2
       try clear n21_0
       try clear n24_0
       try clear n24_1
       try clear n24_2
       try clear n24_3
       try clear n26_0
       try clear n26_1
       try clear n26_2
       try clear n26_3
       try clear n29_0
       try clear n32_0
       try clear n32_1
       try clear n32_2
       try clear n32_3
       try clear n36_0
       try clear n39_0
       try clear n39_1
       try clear n39_2
       try clear n39_3
       try clear n43_0
       try clear n48_0
       try clear n52_0
       try clear n52_1
       try clear n52_2
       try clear n52_3
       try clear n57_0
       try clear n57_1
       try clear n57_2
       try clear n64_0
       try clear n67_0
       try clear n67_1
       try clear n67_2
       try clear n78_0
       try clear n82_0
       try clear n82_1
       try clear n82_2
       try clear n82_3
       try clear n85_0
       try clear n85_1
       try clear n85_2
       try clear n87_0
       try clear n90_0
       try clear n92_0
       try clear n93_0
       try clear n99_0
       try clear hx272_0
       try clear hx272_1
       try clear hx272_2
       try clear p2
       try clear p27
       try clear p272
       try clear q2
       try clear q27
       try clear q272
       obtain ⟨kq, x82_159, rfl, HA, HJ159, BK265, BK266, BK267, BK271, BK273, HB⟩ := hcut
       cases kq with
       | zero => exact absurd HA.out (by simp [impl_DoAct.j2])
       | succ kj159 =>
        have H := HA.out
        clear HA
        simp only [impl_DoAct.j2] at H
        by_cases c186 : x82_159 = true
        ·subst c186
         rw [if_pos rfl] at H
         simp only [Option.some.injEq, Prod.mk.injEq] at H
         obtain ⟨rfl, rfl⟩ := H
         have hnb187 := NB267_265.out
         have hnc187 := NB265_267.out
         have hnb188 := NB267_266.out
         have hnc188 := NB266_267.out
         have hnb189 := NB267_271.out
         have hnc189 := NB271_267.out
         have hnb190 := NB267_273.out
         have hnc190 := NB273_267.out
         obtain ⟨m191_0, n191_0⟩ := zc1 BK267
         go_wp2
         refine bodyPost_ret (results_ct rfl _ _ gb267 29 #[.slice none 0 0] (0, 0) _ rfl (by (with_reducible repeat (first | refine blk_drewN ?_ _ | refine blk_drew ?_ | refine blk_alloc ?_ _)); refine blk_put (cs := #[.slice none 0 0]) ?_ 0 _ rfl; (with_reducible repeat (first | refine blk_drewN ?_ _ | refine blk_drew ?_ | refine blk_alloc ?_ _)); exact BK267.out) Try.underlying29 rfl (by kernel_rfl)) rfl ?_
         exact ⟨_, ze, by first | exact Kd.R_nil _ _ _ _ _ | exact Kd.N_nil _ _ _ _ _ | exact Kd.V_nil _ _ _ _ _ | exact Kd.Q_nil _ _ _ _ _ | exact Kd.S_nil _ _ _ _ _, zw HB⟩
        replace c186 := Bool.eq_false_iff.mpr c186
        subst c186
        rw [if_neg (show ¬ (false = true) by decide)] at H
        replace H := Option.bind_eq_some_iff.mp H
        obtain ⟨t282, A1920, H⟩ := H
        have A192 := Aside0.mk A1920
        clear A1920
        replace H := Option.bind_eq_some_iff.mp H
        obtain ⟨t285, A1930, H⟩ := H
        have A193 := Aside0.mk A1930
        clear A1930
        replace H := Option.bind_eq_some_iff.mp H
        obtain ⟨t288, A1940, H⟩ := H
        have A194 := Aside0.mk A1940
        clear A1940
        by_cases c195 : t288 = true
        ·subst c195
         rw [if_pos rfl] at H
         simp only [Option.some.injEq, Prod.mk.injEq] at H
         obtain ⟨rfl, rfl⟩ := H
         have hnb196 := NB266_265.out
         have hnc196 := NB265_266.out
         have hnb197 := NB266_267.out
         have hnc197 := NB267_266.out
         have hnb198 := NB266_271.out
         have hnc198 := NB271_266.out
         have hnb199 := NB266_273.out
         have hnc199 := NB273_266.out
         obtain ⟨m200_0, m200_1, m200_2, m200_3, n200_0, n200_1, n200_2, n200_3⟩ := zc4 BK266
         have hnb201 := NB271_265.out
         have hnc201 := NB265_271.out
         have hnb202 := NB271_267.out
         have hnc202 := NB267_271.out
         have hnb203 := NB271_273.out
         have hnc203 := NB273_271.out
         obtain ⟨m204_0, m204_1, m204_2, n204_0, n204_1, n204_2⟩ := zc3 BK271
         try go_wp2
         have n0_ : Aside0 ((wc.setCell ⟨gb271, 0, none⟩ (.string a1_3)).heap[gb265]? = some (.cells #[.slice A0_0 l0_0.length c0_0] 29 (0, 0))) := ⟨zkf BK265⟩
         have n1_ : Aside0 ((wc.setCell ⟨gb271, 0, none⟩ (.string a1_3)).heap[gb266]? = some (.cells #[.int .i64 a1_0, .string a1_1, .string a1_2, .string a1_3] 55 (0, 0))) := ⟨zkf BK266⟩
         have n2_ : Aside0 ((wc.setCell ⟨gb271, 0, none⟩ (.string a1_3)).heap[gb267]? = some (.cells #[.slice none 0 0] 29 (0, 0))) := ⟨zkf BK267⟩
         have n3_ : Aside0 ((wc.setCell ⟨gb271, 0, none⟩ (.string a1_3)).heap[gb271]? = some (.cells #[.string a1_3, .string x272001_48, .int .i64 x272002_48] 45 (0, 0))) := ⟨by (with_reducible repeat (first | refine blk_drewN ?_ _ | refine blk_drew ?_ | refine blk_alloc ?_ _)); refine blk_put (cs := #[.string x272000_48, .string x272001_48, .int .i64 x272002_48]) ?_ 0 _ rfl; (with_reducible repeat (first | refine blk_drewN ?_ _ | refine blk_drew ?_ | refine blk_alloc ?_ _)); exact BK271.out⟩
         have n4_ : Aside0 ((wc.setCell ⟨gb271, 0, none⟩ (.string a1_3)).heap[gb273]? = some (.cells #[.slice none 0 0] 29 (0, 0))) := ⟨zkf BK273⟩
         have n5_ : Aside0 (Below w.heap.size w (wc.setCell ⟨gb271, 0, none⟩ (.string a1_3))) := ⟨zw HB⟩
         (try clear BK265)
         (try clear BK266)
         (try clear BK267)
         (try clear BK271)
         (try clear BK273)
         (try clear HB)
         generalize (wc.setCell ⟨gb271, 0, none⟩ (.string a1_3)) = w205 at n0_ n1_ n2_ n3_ n4_ n5_ ⊢
         have BK265 := n0_
         have BK266 := n1_
         have BK267 := n2_
         have BK271 := n3_
         have BK273 := n4_
         have HB := n5_
         clear n0_ n1_ n2_ n3_ n4_ n5_
         replace BK265 := Aside0.mk (blk_drew BK265.out)
         replace BK266 := Aside0.mk (blk_drew BK266.out)
         replace BK267 := Aside0.mk (blk_drew BK267.out)
         replace BK271 := Aside0.mk (blk_drew BK271.out)
         replace BK273 := Aside0.mk (blk_drew BK273.out)
         replace HB := Aside0.mk (below_drew1 HB.out)
         refine start_ (n := 7) (S := fun w' => w'.cell? ⟨gb265, 0, none⟩ = some (.slice A0_0 l0_0.length c0_0) ∧ w'.cell? ⟨gb266, 0, none⟩ = some (.int .i64 a1_0) ∧ w'.cell? ⟨gb266, 1, none⟩ = some (.string a1_1) ∧ w'.cell? ⟨gb266, 2, none⟩ = some (.string a1_2) ∧ w'.cell? ⟨gb266, 3, none⟩ = some (.string a1_3) ∧ w'.cell? ⟨gb271, 0, none⟩ = some (.string a1_3) ∧ w'.cell? ⟨gb271, 1, none⟩ = some (.string x272001_48) ∧ w'.cell? ⟨gb271, 2, none⟩ = some (.int .i64 x272002_48)) (ds := []) q15_0 (by kernel_rfl) rfl rfl ⟨zv BK265, zv BK266, zv BK266, zv BK266, zv BK266, zv BK271, zv BK271, zv BK271⟩ (fun hHeld => ?_)
         generalize w205.drew = w206 at BK265 BK266 BK267 BK271 BK273 HB hHeld ⊢
         refine pure_ (i := 1) (N := some 88) (v := ?_) (a' := ?_) q15_1 rfl rfl (by kernel_rfl) (fun _ _ _ h => h) (Or.inl ⟨by rfl, ?_⟩) ?_ ?_
         rotate_left
         ·intro w'
          go_simp
          with_reducible rfl
         rotate_left
         ·simp only [Act.put, zA, zB, zC, i64_w, i32_w]
          rfl
         refine take_ (i := 0) (N := some 87) (v := ?_) (a' := ?_) q15_2 rfl rfl (by kernel_rfl) (fun _ _ _ h => h) (Or.inl ⟨by rfl, ?_⟩) hHeld ?_ ?_
         rotate_left
         ·rintro w' ⟨s0, s1, s2, s3, s4, s5, s6, s7⟩
          go_simp
          with_reducible rfl
         rotate_left
         ·simp only [Act.put, zA, zB, zC, i64_w, i32_w]
          rfl
         refine take_ (i := 2) (N := some 89) (v := ?_) (a' := ?_) q15_3 rfl rfl (by kernel_rfl) (fun _ _ _ h => h) (Or.inl ⟨by rfl, ?_⟩) hHeld ?_ ?_
         rotate_left
         ·rintro w' ⟨s0, s1, s2, s3, s4, s5, s6, s7⟩
          go_simp
          with_reducible rfl
         rotate_left
         ·simp only [Act.put, zA, zB, zC, i64_w, i32_w]
          rfl
         refine take_ (i := 4) (N := some 91) (v := ?_) (a' := ?_) q15_4 rfl rfl (by kernel_rfl) (fun _ _ _ h => h) (Or.inl ⟨by rfl, ?_⟩) hHeld ?_ ?_
         rotate_left
         ·rintro w' ⟨s0, s1, s2, s3, s4, s5, s6, s7⟩
          go_simp
          with_reducible rfl
         rotate_left
         ·simp only [Act.put, zA, zB, zC, i64_w, i32_w]
          rfl
         refine one_ (i := 3) (N := some 90) q15_5 rfl rfl (by kernel_rfl) (by decide) (fun K hK => ?_)
         refine zH Try.func67 #[.agg #[.slice A0_0 l0_0.length c0_0], .string a1_1] ?_
         with_reducible refine (impl_withoutFile.calls _ _ l0_0 a1_1 t282 _ ?side1 ?side2 A192.out).mono ?_
         (case side1 => exact zI (Kd.C_below HR0_0.out HB.out))
         (case side2 => exact HC0_0.out)
         rintro e w207 ⟨v283, rfl, ho0, hb⟩
         refine ⟨_, rfl, ?_⟩
         have HO284 := Aside0.mk (Kd.R_lower (Kd.R_newB ho0 (g := gb271) (o := .cells #[.string a1_3, .string x272001_48, .int .i64 x272002_48] 45 (0, 0)) (zk BK271)) (below_size (zw HB)))
         replace BK265 := zb BK265 hb
         replace BK266 := zb BK266 hb
         replace BK267 := zb BK267 hb
         replace BK271 := zb BK271 hb
         replace BK273 := zb BK273 hb
         replace HB := zs HB hb
         (try clear hb)
         (try clear hb2)
         (try clear hk)
         (try clear hi)
         (try clear ho0)
         obtain ⟨Ao208, co208, eo208⟩ := Kd.R_slice HO284.out
         (first | subst eo208 | (injection eo208 with f1_ f2_ f3_; have f4_ := f1_.symm; have f5_ := f3_.symm; clear f1_ f2_ f3_; subst f4_; subst f5_))
         refine hK.out _ _ ⟨zv BK265, zv BK266, zv BK266, zv BK266, zv BK266, zv BK271, zv BK271, zv BK271⟩ (fun hHeld => ?_)
         clear hK K
         refine zN ?_
         refine one_ (i := 5) (N := some 92) q15_6 rfl rfl (by kernel_rfl) (by decide) (fun K hK => ?_)
         refine zH Try.func66 #[.agg #[.slice Ao208 t282.length co208], .agg #[.string a1_3, .string x272001_48, .int .i64 x272002_48]] ?_
         with_reducible refine (impl_withFile.calls _ _ t282 a1_3 x272001_48 x272002_48 t285 _ ?side1 ?side2 A193.out).mono ?_
         (case side1 => exact zI (Kd.R_reads' HO284.out).2.2)
         (case side2 => exact (Kd.R_reads' HO284.out).2.1)
         rintro e w209 ⟨v286, rfl, ho0, hb⟩
         refine ⟨_, rfl, ?_⟩
         have HO287 := Aside0.mk (Kd.R_lower (Kd.R_newB (Kd.R_new' ho0 (Kd.R_lt (zo HO284.out))) (g := gb271) (o := .cells #[.string a1_3, .string x272001_48, .int .i64 x272002_48] 45 (0, 0)) (zk BK271)) (below_size (zw HB)))
         replace HO284 := Aside0.mk (Kd.R_elder' (zo HO284.out) (Kd.R_base ho0) hb)
         replace BK265 := zb BK265 hb
         replace BK266 := zb BK266 hb
         replace BK267 := zb BK267 hb
         replace BK271 := zb BK271 hb
         replace BK273 := zb BK273 hb
         replace HB := zs HB hb
         (try clear hb)
         (try clear hb2)
         (try clear hk)
         (try clear hi)
         (try clear ho0)
         obtain ⟨Ao210, co210, eo210⟩ := Kd.R_slice HO287.out
         (first | subst eo210 | (injection eo210 with f1_ f2_ f3_; have f4_ := f1_.symm; have f5_ := f3_.symm; clear f1_ f2_ f3_; subst f4_; subst f5_))
         refine hK.out _ _ ⟨zv BK265, zv BK266, zv BK266, zv BK266, zv BK266, zv BK271, zv BK271, zv BK271⟩ (fun hHeld => ?_)
         clear hK K
         refine zN ?_
         refine one_ (i := 6) (N := none) q15_7 rfl rfl (by kernel_rfl) (by decide) (fun K hK => ?_)
         have hs211 : w209.cell? ⟨gb273, 0, none⟩ = some (.slice none 0 0) := zv BK273
         have hfs211 := blk_frozen BK273.out 0
         have hns211_0 := NB265_273.out
         have hns211_1 := NB266_273.out
         have hns211_2 := NB267_273.out
         have hns211_3 := NB271_273.out
         have hms211_0 := NB273_265.out
         have hms211_1 := NB273_266.out
         have hms211_2 := NB273_267.out
         have hms211_3 := NB273_271.out
         refine skip_ (w1 := ?_) (by rfl) rfl ?_ ?_
         rotate_left
         ·go_simp
          rfl
         refine hK.out _ _ ⟨((cell_far (p := ⟨gb273, _, none⟩) NB265_273.out _).trans (hHeld.1)), ((cell_far (p := ⟨gb273, _, none⟩) NB266_273.out _).trans (hHeld.2.1)), ((cell_far (p := ⟨gb273, _, none⟩) NB266_273.out _).trans (hHeld.2.2.1)), ((cell_far (p := ⟨gb273, _, none⟩) NB266_273.out _).trans (hHeld.2.2.2.1)), ((cell_far (p := ⟨gb273, _, none⟩) NB266_273.out _).trans (hHeld.2.2.2.2.1)), ((cell_far (p := ⟨gb273, _, none⟩) NB271_273.out _).trans (hHeld.2.2.2.2.2.1)), ((cell_far (p := ⟨gb273, _, none⟩) NB271_273.out _).trans (hHeld.2.2.2.2.2.2.1)), ((cell_far (p := ⟨gb273, _, none⟩) NB271_273.out _).trans (hHeld.2.2.2.2.2.2.2))⟩ (fun hHeld => ?_)
         clear hK K
         refine done_ (by kernel_rfl) ?_
         have hnb212 := NB273_265.out
         have hnc212 := NB265_273.out
         have hnb213 := NB273_267.out
         have hnc213 := NB267_273.out
         obtain ⟨m214_0, n214_0⟩ := zc1 BK273
         try go_wp2_with (first | ((with_reducible refine gate_callee (f := 15) rfl ?_); refine zG (some 94) Try.func15 #[.agg #[.slice Ao210 t285.length co210]] ?_; (with_reducible refine (impl_DiskOk.calls kj159 _ _ t285 true _ ?side1 ?side2 A194.out).mono ?_); (case side1 => refine (Kd.R_reads' (e := 45) (base := w.heap.size) (ok := fun k_ => ((True ∧ some k_ ≠ (.slice Ao208 t282.length co208 : Value).ownBlock) ∧ k_ ≠ gb271)) (n := t285.length) (c := co210) ?_).2.2; exact (zo ((Kd.R_mono (Kd.R_far (p := ⟨gb273, 0, none⟩) (Kd.R_types HO287.out BK273.out (by decide)) (fun _ hk => hk.2) (.slice Ao210 t285.length co210)) (fun _ h_ => h_.1))))); (case side2 => exact (Kd.R_reads' HO287.out).2.1); rintro e w215 ⟨rfl, hb⟩; refine ⟨_, rfl, ?_⟩; replace HO284 := Aside0.mk (Kd.R_below (zo ((Kd.R_mono (Kd.R_far (p := ⟨gb273, 0, none⟩) (Kd.R_types HO284.out BK273.out (by decide)) (fun _ hk => hk.2) (.slice Ao210 t285.length co210)) (fun _ h_ => h_.1)))) hb); replace HO287 := Aside0.mk (Kd.R_below (zo ((Kd.R_mono (Kd.R_far (p := ⟨gb273, 0, none⟩) (Kd.R_types HO287.out BK273.out (by decide)) (fun _ hk => hk.2) (.slice Ao210 t285.length co210)) (fun _ h_ => h_.1)))) hb); replace BK265 := zbf BK265 hb; replace BK266 := zbf BK266 hb; replace BK267 := zbf BK267 hb; replace BK271 := zbf BK271 hb; replace BK273 := Aside0.mk (blk_below (g := gb273) (o := .cells #[.slice Ao210 t285.length co210] 29 (0, 0)) (by (with_reducible repeat (first | refine blk_drewN ?_ _ | refine blk_drew ?_ | refine blk_alloc ?_ _)); refine blk_put (cs := #[.slice none 0 0]) ?_ 0 _ rfl; (with_reducible repeat (first | refine blk_drewN ?_ _ | refine blk_drew ?_ | refine blk_alloc ?_ _)); exact BK273.out) hb); replace HB := zs HB hb; clear hb; obtain ⟨m216_0, n216_0⟩ := zc1 BK273; have hnb217 := NB267_265.out; have hnc217 := NB265_267.out; obtain ⟨m218_0, n218_0⟩ := zc1 BK267))
         refine bodyPost_ret (results_ct rfl _ _ gb267 29 #[.slice Ao210 t285.length co210] (0, 0) _ rfl (by (with_reducible repeat (first | refine blk_drewN ?_ _ | refine blk_drew ?_ | refine blk_alloc ?_ _)); refine blk_put (cs := #[.slice none 0 0]) ?_ 0 _ rfl; (with_reducible repeat (first | refine blk_drewN ?_ _ | refine blk_drew ?_ | refine blk_alloc ?_ _)); exact BK267.out) Try.underlying29 rfl (by kernel_rfl)) rfl ?_
         exact ⟨_, ze, zo (Kd.R_mono (Kd.R_far (p := ⟨gb267, 0, none⟩) (Kd.R_types HO287.out BK267.out (by decide)) (fun _ hk => hk.2) (.slice Ao210 t285.length co210)) (fun _ hk => trivial)), zw HB⟩
        replace c195 := Bool.eq_false_iff.mpr c195
        subst c195
        rw [if_neg (show ¬ (false = true) by decide)] at H
        simp only [Option.some.injEq, Prod.mk.injEq] at H
        obtain ⟨rfl, rfl⟩ := H
        have hnb219 := NB266_265.out
        have hnc219 := NB265_266.out
        have hnb220 := NB266_267.out
        have hnc220 := NB267_266.out
        have hnb221 := NB266_271.out
        have hnc221 := NB271_266.out
        have hnb222 := NB266_273.out
        have hnc222 := NB273_266.out
        obtain ⟨m223_0, m223_1, m223_2, m223_3, n223_0, n223_1, n223_2, n223_3⟩ := zc4 BK266
        have hnb224 := NB271_265.out
        have hnc224 := NB265_271.out
        have hnb225 := NB271_267.out
        have hnc225 := NB267_271.out
        have hnb226 := NB271_273.out
        have hnc226 := NB273_271.out
        obtain ⟨m227_0, m227_1, m227_2, n227_0, n227_1, n227_2⟩ := zc3 BK271
        try go_wp2
        have n0_ : Aside0 ((wc.setCell ⟨gb271, 0, none⟩ (.string a1_3)).heap[gb265]? = some (.cells #[.slice A0_0 l0_0.length c0_0] 29 (0, 0))) := ⟨zkf BK265⟩
        have n1_ : Aside0 ((wc.setCell ⟨gb271, 0, none⟩ (.string a1_3)).heap[gb266]? = some (.cells #[.int .i64 a1_0, .string a1_1, .string a1_2, .string a1_3] 55 (0, 0))) := ⟨zkf BK266⟩
        have n2_ : Aside0 ((wc.setCell ⟨gb271, 0, none⟩ (.string a1_3)).heap[gb267]? = some (.cells #[.slice none 0 0] 29 (0, 0))) := ⟨zkf BK267⟩
        have n3_ : Aside0 ((wc.setCell ⟨gb271, 0, none⟩ (.string a1_3)).heap[gb271]? = some (.cells #[.string a1_3, .string x272001_48, .int .i64 x272002_48] 45 (0, 0))) := ⟨by (with_reducible repeat (first | refine blk_drewN ?_ _ | refine blk_drew ?_ | refine blk_alloc ?_ _)); refine blk_put (cs := #[.string x272000_48, .string x272001_48, .int .i64 x272002_48]) ?_ 0 _ rfl; (with_reducible repeat (first | refine blk_drewN ?_ _ | refine blk_drew ?_ | refine blk_alloc ?_ _)); exact BK271.out⟩
        have n4_ : Aside0 ((wc.setCell ⟨gb271, 0, none⟩ (.string a1_3)).heap[gb273]? = some (.cells #[.slice none 0 0] 29 (0, 0))) := ⟨zkf BK273⟩
        have n5_ : Aside0 (Below w.heap.size w (wc.setCell ⟨gb271, 0, none⟩ (.string a1_3))) := ⟨zw HB⟩
        (try clear BK265)
        (try clear BK266)
        (try clear BK267)
        (try clear BK271)
        (try clear BK273)
        (try clear HB)
        generalize (wc.setCell ⟨gb271, 0, none⟩ (.string a1_3)) = w228 at n0_ n1_ n2_ n3_ n4_ n5_ ⊢
        have BK265 := n0_
        have BK266 := n1_
        have BK267 := n2_
        have BK271 := n3_
        have BK273 := n4_
        have HB := n5_
        clear n0_ n1_ n2_ n3_ n4_ n5_
        replace BK265 := Aside0.mk (blk_drew BK265.out)
        replace BK266 := Aside0.mk (blk_drew BK266.out)
        replace BK267 := Aside0.mk (blk_drew BK267.out)
        replace BK271 := Aside0.mk (blk_drew BK271.out)
        replace BK273 := Aside0.mk (blk_drew BK273.out)
        replace HB := Aside0.mk (below_drew1 HB.out)
        refine start_ (n := 7) (S := fun w' => w'.cell? ⟨gb265, 0, none⟩ = some (.slice A0_0 l0_0.length c0_0) ∧ w'.cell? ⟨gb266, 0, none⟩ = some (.int .i64 a1_0) ∧ w'.cell? ⟨gb266, 1, none⟩ = some (.string a1_1) ∧ w'.cell? ⟨gb266, 2, none⟩ = some (.string a1_2) ∧ w'.cell? ⟨gb266, 3, none⟩ = some (.string a1_3) ∧ w'.cell? ⟨gb271, 0, none⟩ = some (.string a1_3) ∧ w'.cell? ⟨gb271, 1, none⟩ = some (.string x272001_48) ∧ w'.cell? ⟨gb271, 2, none⟩ = some (.int .i64 x272002_48)) (ds := []) q15_0 (by kernel_rfl) rfl rfl ⟨zv BK265, zv BK266, zv BK266, zv BK266, zv BK266, zv BK271, zv BK271, zv BK271⟩ (fun hHeld => ?_)
        generalize w228.drew = w229 at BK265 BK266 BK267 BK271 BK273 HB hHeld ⊢
        refine pure_ (i := 1) (N := some 88) (v := ?_) (a' := ?_) q15_1 rfl rfl (by kernel_rfl) (fun _ _ _ h => h) (Or.inl ⟨by rfl, ?_⟩) ?_ ?_
        rotate_left
        ·intro w'
         go_simp
         with_reducible rfl
        rotate_left
        ·simp only [Act.put, zA, zB, zC, i64_w, i32_w]
         rfl
        refine take_ (i := 0) (N := some 87) (v := ?_) (a' := ?_) q15_2 rfl rfl (by kernel_rfl) (fun _ _ _ h => h) (Or.inl ⟨by rfl, ?_⟩) hHeld ?_ ?_
        rotate_left
        ·rintro w' ⟨s0, s1, s2, s3, s4, s5, s6, s7⟩
         go_simp
         with_reducible rfl
        rotate_left
        ·simp only [Act.put, zA, zB, zC, i64_w, i32_w]
         rfl
        refine take_ (i := 2) (N := some 89) (v := ?_) (a' := ?_) q15_3 rfl rfl (by kernel_rfl) (fun _ _ _ h => h) (Or.inl ⟨by rfl, ?_⟩) hHeld ?_ ?_
        rotate_left
        ·rintro w' ⟨s0, s1, s2, s3, s4, s5, s6, s7⟩
         go_simp
         with_reducible rfl
        rotate_left
        ·simp only [Act.put, zA, zB, zC, i64_w, i32_w]
         rfl
        refine take_ (i := 4) (N := some 91) (v := ?_) (a' := ?_) q15_4 rfl rfl (by kernel_rfl) (fun _ _ _ h => h) (Or.inl ⟨by rfl, ?_⟩) hHeld ?_ ?_
        rotate_left
        ·rintro w' ⟨s0, s1, s2, s3, s4, s5, s6, s7⟩
         go_simp
         with_reducible rfl
        rotate_left
        ·simp only [Act.put, zA, zB, zC, i64_w, i32_w]
         rfl
        refine one_ (i := 3) (N := some 90) q15_5 rfl rfl (by kernel_rfl) (by decide) (fun K hK => ?_)
        refine zH Try.func67 #[.agg #[.slice A0_0 l0_0.length c0_0], .string a1_1] ?_
        with_reducible refine (impl_withoutFile.calls _ _ l0_0 a1_1 t282 _ ?side1 ?side2 A192.out).mono ?_
        (case side1 => exact zI (Kd.C_below HR0_0.out HB.out))
        (case side2 => exact HC0_0.out)
        rintro e w230 ⟨v283, rfl, ho0, hb⟩
        refine ⟨_, rfl, ?_⟩
        have HO284 := Aside0.mk (Kd.R_lower (Kd.R_newB ho0 (g := gb271) (o := .cells #[.string a1_3, .string x272001_48, .int .i64 x272002_48] 45 (0, 0)) (zk BK271)) (below_size (zw HB)))
        replace BK265 := zb BK265 hb
        replace BK266 := zb BK266 hb
        replace BK267 := zb BK267 hb
        replace BK271 := zb BK271 hb
        replace BK273 := zb BK273 hb
        replace HB := zs HB hb
        (try clear hb)
        (try clear hb2)
        (try clear hk)
        (try clear hi)
        (try clear ho0)
        obtain ⟨Ao231, co231, eo231⟩ := Kd.R_slice HO284.out
        (first | subst eo231 | (injection eo231 with f1_ f2_ f3_; have f4_ := f1_.symm; have f5_ := f3_.symm; clear f1_ f2_ f3_; subst f4_; subst f5_))
        refine hK.out _ _ ⟨zv BK265, zv BK266, zv BK266, zv BK266, zv BK266, zv BK271, zv BK271, zv BK271⟩ (fun hHeld => ?_)
        clear hK K
        refine zN ?_
        refine one_ (i := 5) (N := some 92) q15_6 rfl rfl (by kernel_rfl) (by decide) (fun K hK => ?_)
        refine zH Try.func66 #[.agg #[.slice Ao231 t282.length co231], .agg #[.string a1_3, .string x272001_48, .int .i64 x272002_48]] ?_
        with_reducible refine (impl_withFile.calls _ _ t282 a1_3 x272001_48 x272002_48 t285 _ ?side1 ?side2 A193.out).mono ?_
        (case side1 => exact zI (Kd.R_reads' HO284.out).2.2)
        (case side2 => exact (Kd.R_reads' HO284.out).2.1)
        rintro e w232 ⟨v286, rfl, ho0, hb⟩
        refine ⟨_, rfl, ?_⟩
        have HO287 := Aside0.mk (Kd.R_lower (Kd.R_newB (Kd.R_new' ho0 (Kd.R_lt (zo HO284.out))) (g := gb271) (o := .cells #[.string a1_3, .string x272001_48, .int .i64 x272002_48] 45 (0, 0)) (zk BK271)) (below_size (zw HB)))
        replace HO284 := Aside0.mk (Kd.R_elder' (zo HO284.out) (Kd.R_base ho0) hb)
        replace BK265 := zb BK265 hb
        replace BK266 := zb BK266 hb
        replace BK267 := zb BK267 hb
        replace BK271 := zb BK271 hb
        replace BK273 := zb BK273 hb
        replace HB := zs HB hb
        (try clear hb)
        (try clear hb2)
        (try clear hk)
        (try clear hi)
        (try clear ho0)
        obtain ⟨Ao233, co233, eo233⟩ := Kd.R_slice HO287.out
        (first | subst eo233 | (injection eo233 with f1_ f2_ f3_; have f4_ := f1_.symm; have f5_ := f3_.symm; clear f1_ f2_ f3_; subst f4_; subst f5_))
        refine hK.out _ _ ⟨zv BK265, zv BK266, zv BK266, zv BK266, zv BK266, zv BK271, zv BK271, zv BK271⟩ (fun hHeld => ?_)
        clear hK K
        refine zN ?_
        refine one_ (i := 6) (N := none) q15_7 rfl rfl (by kernel_rfl) (by decide) (fun K hK => ?_)
        have hs234 : w232.cell? ⟨gb273, 0, none⟩ = some (.slice none 0 0) := zv BK273
        have hfs234 := blk_frozen BK273.out 0
        have hns234_0 := NB265_273.out
        have hns234_1 := NB266_273.out
        have hns234_2 := NB267_273.out
        have hns234_3 := NB271_273.out
        have hms234_0 := NB273_265.out
        have hms234_1 := NB273_266.out
        have hms234_2 := NB273_267.out
        have hms234_3 := NB273_271.out
        refine skip_ (w1 := ?_) (by rfl) rfl ?_ ?_
        rotate_left
        ·go_simp
         rfl
        refine hK.out _ _ ⟨((cell_far (p := ⟨gb273, _, none⟩) NB265_273.out _).trans (hHeld.1)), ((cell_far (p := ⟨gb273, _, none⟩) NB266_273.out _).trans (hHeld.2.1)), ((cell_far (p := ⟨gb273, _, none⟩) NB266_273.out _).trans (hHeld.2.2.1)), ((cell_far (p := ⟨gb273, _, none⟩) NB266_273.out _).trans (hHeld.2.2.2.1)), ((cell_far (p := ⟨gb273, _, none⟩) NB266_273.out _).trans (hHeld.2.2.2.2.1)), ((cell_far (p := ⟨gb273, _, none⟩) NB271_273.out _).trans (hHeld.2.2.2.2.2.1)), ((cell_far (p := ⟨gb273, _, none⟩) NB271_273.out _).trans (hHeld.2.2.2.2.2.2.1)), ((cell_far (p := ⟨gb273, _, none⟩) NB271_273.out _).trans (hHeld.2.2.2.2.2.2.2))⟩ (fun hHeld => ?_)
        clear hK K
        refine done_ (by kernel_rfl) ?_
        have hnb235 := NB273_265.out
        have hnc235 := NB265_273.out
        have hnb236 := NB273_267.out
        have hnc236 := NB267_273.out
        obtain ⟨m237_0, n237_0⟩ := zc1 BK273
        try go_wp2_with (first | ((with_reducible refine gate_callee (f := 15) rfl ?_); refine zG (some 94) Try.func15 #[.agg #[.slice Ao233 t285.length co233]] ?_; (with_reducible refine (impl_DiskOk.calls kj159 _ _ t285 false _ ?side1 ?side2 A194.out).mono ?_); (case side1 => refine (Kd.R_reads' (e := 45) (base := w.heap.size) (ok := fun k_ => ((True ∧ some k_ ≠ (.slice Ao231 t282.length co231 : Value).ownBlock) ∧ k_ ≠ gb271)) (n := t285.length) (c := co233) ?_).2.2; exact (zo ((Kd.R_mono (Kd.R_far (p := ⟨gb273, 0, none⟩) (Kd.R_types HO287.out BK273.out (by decide)) (fun _ hk => hk.2) (.slice Ao233 t285.length co233)) (fun _ h_ => h_.1))))); (case side2 => exact (Kd.R_reads' HO287.out).2.1); rintro e w238 ⟨rfl, hb⟩; refine ⟨_, rfl, ?_⟩; replace HO284 := Aside0.mk (Kd.R_below (zo ((Kd.R_mono (Kd.R_far (p := ⟨gb273, 0, none⟩) (Kd.R_types HO284.out BK273.out (by decide)) (fun _ hk => hk.2) (.slice Ao233 t285.length co233)) (fun _ h_ => h_.1)))) hb); replace HO287 := Aside0.mk (Kd.R_below (zo ((Kd.R_mono (Kd.R_far (p := ⟨gb273, 0, none⟩) (Kd.R_types HO287.out BK273.out (by decide)) (fun _ hk => hk.2) (.slice Ao233 t285.length co233)) (fun _ h_ => h_.1)))) hb); replace BK265 := zbf BK265 hb; replace BK266 := zbf BK266 hb; replace BK267 := zbf BK267 hb; replace BK271 := zbf BK271 hb; replace BK273 := Aside0.mk (blk_below (g := gb273) (o := .cells #[.slice Ao233 t285.length co233] 29 (0, 0)) (by (with_reducible repeat (first | refine blk_drewN ?_ _ | refine blk_drew ?_ | refine blk_alloc ?_ _)); refine blk_put (cs := #[.slice none 0 0]) ?_ 0 _ rfl; (with_reducible repeat (first | refine blk_drewN ?_ _ | refine blk_drew ?_ | refine blk_alloc ?_ _)); exact BK273.out) hb); replace HB := zs HB hb; clear hb; have hnb239 := NB267_265.out; have hnc239 := NB265_267.out; obtain ⟨m240_0, n240_0⟩ := zc1 BK267))
        refine bodyPost_ret (results_ct rfl _ _ gb267 29 #[.slice none 0 0] (0, 0) _ rfl (by (with_reducible repeat (first | refine blk_drewN ?_ _ | refine blk_drew ?_ | refine blk_alloc ?_ _)); refine blk_put (cs := #[.slice none 0 0]) ?_ 0 _ rfl; (with_reducible repeat (first | refine blk_drewN ?_ _ | refine blk_drew ?_ | refine blk_alloc ?_ _)); exact BK267.out) Try.underlying29 rfl (by kernel_rfl)) rfl ?_
        exact ⟨_, ze, by first | exact Kd.R_nil _ _ _ _ _ | exact Kd.N_nil _ _ _ _ _ | exact Kd.V_nil _ _ _ _ _ | exact Kd.Q_nil _ _ _ _ _ | exact Kd.S_nil _ _ _ _ _, zw HB⟩
     rw [if_neg c159] at H
     have c159b0 : (a1_0 == 3) = false := beq_eq_false_iff_ne.mpr c159
     have c159b1 : (a1_0 != 3) = true := bne_iff_ne.mpr c159
     replace H := Option.bind_eq_some_iff.mp H
     obtain ⟨t289, A2410, H⟩ := H
     have A241 := Aside0.mk A2410
     clear A2410
     replace H := Option.bind_eq_some_iff.mp H
     obtain ⟨t292, A2420, H⟩ := H
     have A242 := Aside0.mk A2420
     clear A2420
     by_cases c243 : t292 = true
     ·subst c243
      rw [if_pos rfl] at H
      simp only [Option.some.injEq, Prod.mk.injEq] at H
      obtain ⟨rfl, rfl⟩ := H
      go_wp2_with (first | ((with_reducible refine gate_dst (N := 8) rfl ?_); refine zx (N := 8) (cs := #[.slice none 0 0]) (t := 29) ?_; intro gb273 hg w244 hbox hb; have BK273 := Aside0.mk (hbox); have GW273 := zg HB hg; have GE273 := zg HB hg; replace HB := zs HB hb; have NB265_273 := zl BK265 hg; have NB273_265 := zr BK265 hg; replace BK265 := zb BK265 hb; have NB266_273 := zl BK266 hg; have NB273_266 := zr BK266 hg; replace BK266 := zb BK266 hb; have NB267_273 := zl BK267 hg; have NB273_267 := zr BK267 hg; replace BK267 := zb BK267 hb; have NB271_273 := zl BK271 hg; have NB273_271 := zr BK271 hg; replace BK271 := zb BK271 hb; clear hb hbox hg; have hnb245 := NB273_265.out; have hnc245 := NB265_273.out; have hnb246 := NB273_266.out; have hnc246 := NB266_273.out; have hnb247 := NB273_267.out; have hnc247 := NB267_273.out; have hnb248 := NB273_271.out; have hnc248 := NB271_273.out; obtain ⟨m249_0, n249_0⟩ := zc1 BK273; have hnb250 := NB266_265.out; have hnc250 := NB265_266.out; have hnb251 := NB266_267.out; have hnc251 := NB267_266.out; have hnb252 := NB266_271.out; have hnc252 := NB271_266.out; obtain ⟨m253_0, m253_1, m253_2, m253_3, n253_0, n253_1, n253_2, n253_3⟩ := zc4 BK266; have hnb254 := NB265_267.out; have hnc254 := NB267_265.out; have hnb255 := NB265_271.out; have hnc255 := NB271_265.out; obtain ⟨m256_0, n256_0⟩ := zc1 BK265) | ((with_reducible refine gate_callee (f := 67) rfl ?_); refine zG (some 47) Try.func67 #[.agg #[.slice A0_0 l0_0.length c0_0], .string a1_1] ?_; (with_reducible refine (impl_withoutFile.calls _ _ l0_0 a1_1 t289 _ ?side1 ?side2 A241.out).mono ?_); (case side1 => exact Kd.C_below HR0_0.out (zw HB)); (case side2 => exact HC0_0.out); rintro e w257 ⟨v290, rfl, ho0, hb⟩; refine ⟨_, rfl, ?_⟩; have HO291 := Aside0.mk (Kd.R_lower (Kd.R_newB ho0 (g := gb271) (o := .cells #[.string x272000_48, .string x272001_48, .int .i64 x272002_48] 45 (0, 0)) (zkf BK271)) (below_size (zw HB))); replace BK265 := zbf BK265 hb; replace BK266 := zbf BK266 hb; replace BK267 := zbf BK267 hb; replace BK271 := zbf BK271 hb; replace BK273 := Aside0.mk (blk_below (g := gb273) (o := .cells #[.slice none 0 0] 29 (0, 0)) (by (with_reducible repeat (first | refine blk_drewN ?_ _ | refine blk_drew ?_ | refine blk_alloc ?_ _)); refine blk_put (cs := #[.slice none 0 0]) ?_ 0 _ rfl; (with_reducible repeat (first | refine blk_drewN ?_ _ | refine blk_drew ?_ | refine blk_alloc ?_ _)); exact BK273.out) hb); replace HB := zs HB hb; clear ho0 hb; obtain ⟨Ao258, co258, eo258⟩ := Kd.R_slice HO291.out; subst eo258; obtain ⟨m259_0, n259_0⟩ := zc1 BK273) | ((with_reducible refine gate_callee (f := 15) rfl ?_); refine zG (some 94) Try.func15 #[.agg #[.slice Ao258 t289.length co258]] ?_; (with_reducible refine (impl_DiskOk.calls kj48 _ _ t289 true _ ?side1 ?side2 A242.out).mono ?_); (case side1 => refine (Kd.R_reads' (e := 45) (base := w.heap.size) (ok := fun k_ => (True ∧ k_ ≠ gb271)) (n := t289.length) (c := co258) ?_).2.2; exact (zo ((Kd.R_mono (Kd.R_far (p := ⟨gb273, 0, none⟩) (Kd.R_types HO291.out BK273.out (by decide)) (fun _ hk => hk.2) (.slice Ao258 t289.length co258)) (fun _ h_ => h_.1))))); (case side2 => exact (Kd.R_reads' HO291.out).2.1); rintro e w260 ⟨rfl, hb⟩; refine ⟨_, rfl, ?_⟩; replace HO291 := Aside0.mk (Kd.R_below (zo ((Kd.R_mono (Kd.R_far (p := ⟨gb273, 0, none⟩) (Kd.R_types HO291.out BK273.out (by decide)) (fun _ hk => hk.2) (.slice Ao258 t289.length co258)) (fun _ h_ => h_.1)))) hb); replace BK265 := zbf BK265 hb; replace BK266 := zbf BK266 hb; replace BK267 := zbf BK267 hb; replace BK271 := zbf BK271 hb; replace BK273 := Aside0.mk (blk_below (g := gb273) (o := .cells #[.slice Ao258 t289.length co258] 29 (0, 0)) (by (with_reducible repeat (first | refine blk_drewN ?_ _ | refine blk_drew ?_ | refine blk_alloc ?_ _)); refine blk_put (cs := #[.slice none 0 0]) ?_ 0 _ rfl; (with_reducible repeat (first | refine blk_drewN ?_ _ | refine blk_drew ?_ | refine blk_alloc ?_ _)); exact BK273.out) hb); replace HB := zs HB hb; clear hb; obtain ⟨m261_0, n261_0⟩ := zc1 BK273; have hnb262 := NB267_271.out; have hnc262 := NB271_267.out; obtain ⟨m263_0, n263_0⟩ := zc1 BK267))
      refine bodyPost_ret (results_ct rfl _ _ gb267 29 #[.slice Ao258 t289.length co258] (0, 0) _ rfl (by (with_reducible repeat (first | refine blk_drewN ?_ _ | refine blk_drew ?_ | refine blk_alloc ?_ _)); refine blk_put (cs := #[.slice none 0 0]) ?_ 0 _ rfl; (with_reducible repeat (first | refine blk_drewN ?_ _ | refine blk_drew ?_ | refine blk_alloc ?_ _)); exact BK267.out) Try.underlying29 rfl (by kernel_rfl)) rfl ?_
      exact ⟨_, ze, zo (Kd.R_mono (Kd.R_far (p := ⟨gb267, 0, none⟩) (Kd.R_types HO291.out BK267.out (by decide)) (fun _ hk => hk.2) (.slice Ao258 t289.length co258)) (fun _ hk => trivial)), zw HB⟩
     replace c243 := Bool.eq_false_iff.mpr c243
     subst c243
     rw [if_neg (show ¬ (false = true) by decide)] at H
     simp only [Option.some.injEq, Prod.mk.injEq] at H
     obtain ⟨rfl, rfl⟩ := H
     go_wp2_with (first | ((with_reducible refine gate_dst (N := 8) rfl ?_); refine zx (N := 8) (cs := #[.slice none 0 0]) (t := 29) ?_; intro gb273 hg w264 hbox hb; have BK273 := Aside0.mk (hbox); have GW273 := zg HB hg; have GE273 := zg HB hg; replace HB := zs HB hb; have NB265_273 := zl BK265 hg; have NB273_265 := zr BK265 hg; replace BK265 := zb BK265 hb; have NB266_273 := zl BK266 hg; have NB273_266 := zr BK266 hg; replace BK266 := zb BK266 hb; have NB267_273 := zl BK267 hg; have NB273_267 := zr BK267 hg; replace BK267 := zb BK267 hb; have NB271_273 := zl BK271 hg; have NB273_271 := zr BK271 hg; replace BK271 := zb BK271 hb; clear hb hbox hg; have hnb265 := NB273_265.out; have hnc265 := NB265_273.out; have hnb266 := NB273_266.out; have hnc266 := NB266_273.out; have hnb267 := NB273_267.out; have hnc267 := NB267_273.out; have hnb268 := NB273_271.out; have hnc268 := NB271_273.out; obtain ⟨m269_0, n269_0⟩ := zc1 BK273; have hnb270 := NB266_265.out; have hnc270 := NB265_266.out; have hnb271 := NB266_267.out; have hnc271 := NB267_266.out; have hnb272 := NB266_271.out; have hnc272 := NB271_266.out; obtain ⟨m273_0, m273_1, m273_2, m273_3, n273_0, n273_1, n273_2, n273_3⟩ := zc4 BK266; have hnb274 := NB265_267.out; have hnc274 := NB267_265.out; have hnb275 := NB265_271.out; have hnc275 := NB271_265.out; obtain ⟨m276_0, n276_0⟩ := zc1 BK265) | ((with_reducible refine gate_callee (f := 67) rfl ?_); refine zG (some 47) Try.func67 #[.agg #[.slice A0_0 l0_0.length c0_0], .string a1_1] ?_; (with_reducible refine (impl_withoutFile.calls _ _ l0_0 a1_1 t289 _ ?side1 ?side2 A241.out).mono ?_); (case side1 => exact Kd.C_below HR0_0.out (zw HB)); (case side2 => exact HC0_0.out); rintro e w277 ⟨v290, rfl, ho0, hb⟩; refine ⟨_, rfl, ?_⟩; have HO291 := Aside0.mk (Kd.R_lower (Kd.R_newB ho0 (g := gb271) (o := .cells #[.string x272000_48, .string x272001_48, .int .i64 x272002_48] 45 (0, 0)) (zkf BK271)) (below_size (zw HB))); replace BK265 := zbf BK265 hb; replace BK266 := zbf BK266 hb; replace BK267 := zbf BK267 hb; replace BK271 := zbf BK271 hb; replace BK273 := Aside0.mk (blk_below (g := gb273) (o := .cells #[.slice none 0 0] 29 (0, 0)) (by (with_reducible repeat (first | refine blk_drewN ?_ _ | refine blk_drew ?_ | refine blk_alloc ?_ _)); refine blk_put (cs := #[.slice none 0 0]) ?_ 0 _ rfl; (with_reducible repeat (first | refine blk_drewN ?_ _ | refine blk_drew ?_ | refine blk_alloc ?_ _)); exact BK273.out) hb); replace HB := zs HB hb; clear ho0 hb; obtain ⟨Ao278, co278, eo278⟩ := Kd.R_slice HO291.out; subst eo278; obtain ⟨m279_0, n279_0⟩ := zc1 BK273) | ((with_reducible refine gate_callee (f := 15) rfl ?_); refine zG (some 94) Try.func15 #[.agg #[.slice Ao278 t289.length co278]] ?_; (with_reducible refine (impl_DiskOk.calls kj48 _ _ t289 false _ ?side1 ?side2 A242.out).mono ?_); (case side1 => refine (Kd.R_reads' (e := 45) (base := w.heap.size) (ok := fun k_ => (True ∧ k_ ≠ gb271)) (n := t289.length) (c := co278) ?_).2.2; exact (zo ((Kd.R_mono (Kd.R_far (p := ⟨gb273, 0, none⟩) (Kd.R_types HO291.out BK273.out (by decide)) (fun _ hk => hk.2) (.slice Ao278 t289.length co278)) (fun _ h_ => h_.1))))); (case side2 => exact (Kd.R_reads' HO291.out).2.1); rintro e w280 ⟨rfl, hb⟩; refine ⟨_, rfl, ?_⟩; replace HO291 := Aside0.mk (Kd.R_below (zo ((Kd.R_mono (Kd.R_far (p := ⟨gb273, 0, none⟩) (Kd.R_types HO291.out BK273.out (by decide)) (fun _ hk => hk.2) (.slice Ao278 t289.length co278)) (fun _ h_ => h_.1)))) hb); replace BK265 := zbf BK265 hb; replace BK266 := zbf BK266 hb; replace BK267 := zbf BK267 hb; replace BK271 := zbf BK271 hb; replace BK273 := Aside0.mk (blk_below (g := gb273) (o := .cells #[.slice Ao278 t289.length co278] 29 (0, 0)) (by (with_reducible repeat (first | refine blk_drewN ?_ _ | refine blk_drew ?_ | refine blk_alloc ?_ _)); refine blk_put (cs := #[.slice none 0 0]) ?_ 0 _ rfl; (with_reducible repeat (first | refine blk_drewN ?_ _ | refine blk_drew ?_ | refine blk_alloc ?_ _)); exact BK273.out) hb); replace HB := zs HB hb; clear hb; have hnb281 := NB267_271.out; have hnc281 := NB271_267.out; obtain ⟨m282_0, n282_0⟩ := zc1 BK267))
     refine bodyPost_ret (results_ct rfl _ _ gb267 29 #[.slice none 0 0] (0, 0) _ rfl (by (with_reducible repeat (first | refine blk_drewN ?_ _ | refine blk_drew ?_ | refine blk_alloc ?_ _)); refine blk_put (cs := #[.slice none 0 0]) ?_ 0 _ rfl; (with_reducible repeat (first | refine blk_drewN ?_ _ | refine blk_drew ?_ | refine blk_alloc ?_ _)); exact BK267.out) Try.underlying29 rfl (by kernel_rfl)) rfl ?_
     exact ⟨_, ze, by first | exact Kd.R_nil _ _ _ _ _ | exact Kd.N_nil _ _ _ _ _ | exact Kd.V_nil _ _ _ _ _ | exact Kd.Q_nil _ _ _ _ _ | exact Kd.S_nil _ _ _ _ _, zw HB⟩

end Go.Proofs.Ytdiecogmaiglaaa.PFnExactDoActs
