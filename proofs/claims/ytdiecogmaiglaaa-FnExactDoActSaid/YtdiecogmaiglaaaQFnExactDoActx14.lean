import Derived.Test.YtdiecogmaiglaaaQFnExactDoActx0
import Derived.Test.YtdiecogmaiglaaaQFnExactDoActx11
import Derived.Test.YtdiecogmaiglaaaQFnExactDoActx12
import Derived.Test.YtdiecogmaiglaaaQFnExactDoActx13
namespace Go.Proofs.Ytdiecogmaiglaaa.PFnExactDoAct
open Go.RowKit Go.Proofs.YtdiecogmaiglaaaW.PrintWords Go.Proofs.YtdiecogmaiglaaaW.PrintLast Go.Proofs.YtdiecogmaiglaaaW.PrintMore
attribute [local go_sem] max2_int min2_int max_two min_two max_three min_three max_four min_four   -- for this text's walks alone
set_option linter.unusedVariables false
set_option linter.unusedSimpArgs false

/-! ### impl_DoAct: function 37 -/
mutual
def impl_DoAct.j0 : Nat → Int → Bool → List (S45) → Int → ByteArray → ByteArray → ByteArray → Option ((List (S45)) × Bool)
 | 0, _, _, _, _, _, _, _ => none
 | k + 1, x6, x29, x240000, x241000, x241001, x241002, x241003 => if x29 = true then (some (([] : List (S45)), false)) else (if x6 ≥ 0 then (if 0 ≤ x6 then (if x6 < (x240000.length : Int) then (impl_DoAct.j1 k x240000 x241000 x241001 x241002 x241003 ((rd_T45 x240000 x6).f0) ((rd_T45 x240000 x6).f1) ((rd_T45 x240000 x6).f2)) else (none)) else (none)) else (impl_DoAct.j1 k x240000 x241000 x241001 x241002 x241003 x241001 (⟨#[]⟩ : ByteArray) 0))
def impl_DoAct.j1 : Nat → List (S45) → Int → ByteArray → ByteArray → ByteArray → ByteArray → ByteArray → Int → Option ((List (S45)) × Bool)
 | 0, _, _, _, _, _, _, _, _ => none
 | k + 1, x240000, x241000, x241001, x241002, x241003, x246000, x246001, x246002 => if x241000 = 1 then (if x246001.size + x241002.size ≤ 9223372036854775807 then ((impl_withFile.f x240000 x246000 (x246001 ++ x241002) x246002).bind fun t248 => ((impl_DiskOk.f k t248).bind fun t251 => (if t251 = true then (some (t248, true)) else (some (([] : List (S45)), false))))) else (none)) else (if x241000 = 2 then ((impl_withFile.f x240000 x246000 x246001 (x246001.size : Int)).bind fun t252 => ((impl_DiskOk.f k t252).bind fun t255 => (if t255 = true then (some (t252, true)) else (some (([] : List (S45)), false))))) else (if x241000 = 3 then (if x246002 = (x246001.size : Int) then (impl_DoAct.j2 k (x241003.toList == x241001.toList) x240000 x241000 x241001 x241002 x241003 x246000 x246001 x246002) else (impl_DoAct.j2 k true x240000 x241000 x241001 x241002 x241003 x246000 x246001 x246002)) else ((impl_withoutFile.f x240000 x241001).bind fun t263 => ((impl_DiskOk.f k t263).bind fun t266 => (if t266 = true then (some (t263, true)) else (some (([] : List (S45)), false)))))))
def impl_DoAct.j2 : Nat → Bool → List (S45) → Int → ByteArray → ByteArray → ByteArray → ByteArray → ByteArray → Int → Option ((List (S45)) × Bool)
 | 0, _, _, _, _, _, _, _, _, _ => none
 | k + 1, x82, x240000, x241000, x241001, x241002, x241003, x246000, x246001, x246002 => if x82 = true then (some (([] : List (S45)), false)) else ((impl_withoutFile.f x240000 x241001).bind fun t256 => ((impl_withFile.f t256 x241003 x246001 x246002).bind fun t259 => ((impl_DiskOk.f k t259).bind fun t262 => (if t262 = true then (some (t259, true)) else (some (([] : List (S45)), false))))))
end
def impl_DoAct.f (k : Nat) (l0_0 : List (S45)) (a1_0 : Int) (a1_1 : ByteArray) (a1_2 : ByteArray) (a1_3 : ByteArray) : Option ((List (S45)) × Bool) := (impl_placeOf.f l0_0 a1_1).bind fun t242 => ((impl_DiskOk.f k l0_0).bind fun t243 => (if t243 = true then ((impl_actOk.f a1_0 a1_1 a1_2 a1_3).bind fun t244 => (if t244 = true then (if t242 < 0 then (impl_DoAct.j0 k t242 (a1_0 != 1) l0_0 a1_0 a1_1 a1_2 a1_3) else (impl_DoAct.j0 k t242 false l0_0 a1_0 a1_1 a1_2 a1_3)) else (impl_DoAct.j0 k t242 true l0_0 a1_0 a1_1 a1_2 a1_3))) else (impl_DoAct.j0 k t242 true l0_0 a1_0 a1_1 a1_2 a1_3)))
theorem impl_DoAct.mono_l : ∀ k, (∀ y0 y1 y2 y3 y4 y5 y6, LeO (impl_DoAct.j0 k y0 y1 y2 y3 y4 y5 y6) (impl_DoAct.j0 (k + 1) y0 y1 y2 y3 y4 y5 y6)) ∧ (∀ y0 y1 y2 y3 y4 y5 y6 y7, LeO (impl_DoAct.j1 k y0 y1 y2 y3 y4 y5 y6 y7) (impl_DoAct.j1 (k + 1) y0 y1 y2 y3 y4 y5 y6 y7)) ∧ (∀ y0 y1 y2 y3 y4 y5 y6 y7 y8, LeO (impl_DoAct.j2 k y0 y1 y2 y3 y4 y5 y6 y7 y8) (impl_DoAct.j2 (k + 1) y0 y1 y2 y3 y4 y5 y6 y7 y8))
 | 0 => ⟨fun _ _ _ _ _ _ _ r h => by simp [impl_DoAct.j0] at h, fun _ _ _ _ _ _ _ _ r h => by simp [impl_DoAct.j1] at h, fun _ _ _ _ _ _ _ _ _ r h => by simp [impl_DoAct.j2] at h⟩
 | k + 1 => by
  obtain ⟨ih0, ih1, ih2⟩ := impl_DoAct.mono_l k
  refine ⟨?_, ?_, ?_⟩
  ·intro y0 y1 y2 y3 y4 y5 y6
   unfold impl_DoAct.j0
   repeat' first
   | (with_reducible exact ih0 _ _ _ _ _ _ _)
   | (with_reducible exact ih1 _ _ _ _ _ _ _ _)
   | (with_reducible exact ih2 _ _ _ _ _ _ _ _ _)
   | (with_reducible exact impl_DiskOk.mono _ _)
   | (with_reducible exact LeO.refl _)
   | (with_reducible exact LeO.none _)
   | (with_reducible refine LeO.ite ?_ ?_)
   | (with_reducible refine LeO.bind ?_ (fun _ => ?_))
   | exact ih0 _ _ _ _ _ _ _
   | exact ih1 _ _ _ _ _ _ _ _
   | exact ih2 _ _ _ _ _ _ _ _ _
   | exact impl_DiskOk.mono _ _
   | exact LeO.none _
   | refine LeO.ite ?_ ?_
   | refine LeO.bind ?_ (fun _ => ?_)
  ·intro y0 y1 y2 y3 y4 y5 y6 y7
   unfold impl_DoAct.j1
   repeat' first
   | (with_reducible exact ih0 _ _ _ _ _ _ _)
   | (with_reducible exact ih1 _ _ _ _ _ _ _ _)
   | (with_reducible exact ih2 _ _ _ _ _ _ _ _ _)
   | (with_reducible exact impl_DiskOk.mono _ _)
   | (with_reducible exact LeO.refl _)
   | (with_reducible exact LeO.none _)
   | (with_reducible refine LeO.ite ?_ ?_)
   | (with_reducible refine LeO.bind ?_ (fun _ => ?_))
   | exact ih0 _ _ _ _ _ _ _
   | exact ih1 _ _ _ _ _ _ _ _
   | exact ih2 _ _ _ _ _ _ _ _ _
   | exact impl_DiskOk.mono _ _
   | exact LeO.none _
   | refine LeO.ite ?_ ?_
   | refine LeO.bind ?_ (fun _ => ?_)
  ·intro y0 y1 y2 y3 y4 y5 y6 y7 y8
   unfold impl_DoAct.j2
   repeat' first
   | (with_reducible exact ih0 _ _ _ _ _ _ _)
   | (with_reducible exact ih1 _ _ _ _ _ _ _ _)
   | (with_reducible exact ih2 _ _ _ _ _ _ _ _ _)
   | (with_reducible exact impl_DiskOk.mono _ _)
   | (with_reducible exact LeO.refl _)
   | (with_reducible exact LeO.none _)
   | (with_reducible refine LeO.ite ?_ ?_)
   | (with_reducible refine LeO.bind ?_ (fun _ => ?_))
   | exact ih0 _ _ _ _ _ _ _
   | exact ih1 _ _ _ _ _ _ _ _
   | exact ih2 _ _ _ _ _ _ _ _ _
   | exact impl_DiskOk.mono _ _
   | exact LeO.none _
   | refine LeO.ite ?_ ?_
   | refine LeO.bind ?_ (fun _ => ?_)
theorem impl_DoAct.mono : ∀ a0 a1 a2 a3 a4 k, LeO (impl_DoAct.f k a0 a1 a2 a3 a4) (impl_DoAct.f (k + 1) a0 a1 a2 a3 a4) := by
 intro a0 a1 a2 a3 a4 k
 obtain ⟨ih0, ih1, ih2⟩ := impl_DoAct.mono_l k
 unfold impl_DoAct.f
 repeat' first
   | (with_reducible exact ih0 _ _ _ _ _ _ _)
   | (with_reducible exact ih1 _ _ _ _ _ _ _ _)
   | (with_reducible exact ih2 _ _ _ _ _ _ _ _ _)
   | (with_reducible exact impl_DiskOk.mono _ _)
   | (with_reducible exact LeO.refl _)
   | (with_reducible exact LeO.none _)
   | (with_reducible refine LeO.ite ?_ ?_)
   | (with_reducible refine LeO.bind ?_ (fun _ => ?_))
   | exact ih0 _ _ _ _ _ _ _
   | exact ih1 _ _ _ _ _ _ _ _
   | exact ih2 _ _ _ _ _ _ _ _ _
   | exact impl_DiskOk.mono _ _
   | exact LeO.none _
   | refine LeO.ite ?_ ?_
   | refine LeO.bind ?_ (fun _ => ?_)
abbrev q14_0 : Array Bool := #[false, false, false, false, false, false, false]
abbrev q14_1 : Array Bool := #[false, true, false, false, false, false, false]
abbrev q14_2 : Array Bool := #[true, true, false, false, false, false, false]
abbrev q14_3 : Array Bool := #[true, true, true, false, false, false, false]
abbrev q14_4 : Array Bool := #[true, true, true, false, true, false, false]
abbrev q14_5 : Array Bool := #[true, true, true, true, true, false, false]
abbrev q14_6 : Array Bool := #[true, true, true, true, true, true, false]
abbrev q14_7 : Array Bool := #[true, true, true, true, true, true, true]
set_option maxHeartbeats 8000000 in
set_option maxRecDepth 100000 in
theorem impl_DoAct.calls (k : Nat) (A0_0 : Option Addr) (c0_0 : Nat) (l0_0 : List (S45)) (a1_0 : Int) (a1_1 : ByteArray) (a1_2 : ByteArray) (a1_3 : ByteArray) (r1 : List (S45)) (r2 : Bool) (w : World) (hr0_0 : Kd.C k45 w A0_0 l0_0.length l0_0) (hc0_0 : l0_0.length ≤ c0_0) (h : impl_DoAct.f k l0_0 a1_0 a1_1 a1_2 a1_3 = some (r1, r2)) :
  Calls Try.prog 37 #[.agg #[.slice A0_0 l0_0.length c0_0], .agg #[.int .i64 a1_0, .string a1_1, .string a1_2, .string a1_3]] w fun e w' => ∃ v0_ : Value, e = .returned (.tuple #[.agg #[v0_], .bool r2]) ∧ Kd.R k45 45 w' w.heap.size (fun _ => True) v0_ r1 ∧ Below w.heap.size w w' := by
 have hu29 := Try.underlying29
 have hu55 := Try.underlying55
 have hu45 := Try.underlying45
 have HR0_0 := Aside0.mk hr0_0
 have HC0_0 := Aside0.mk hc0_0
 clear hr0_0 hc0_0
 have HB := Aside0.mk (Below.refl w.heap.size w)
 have H : ((impl_placeOf.f l0_0 a1_1).bind fun t242 => ((impl_DiskOk.f k l0_0).bind fun t243 => (if t243 = true then ((impl_actOk.f a1_0 a1_1 a1_2 a1_3).bind fun t244 => (if t244 = true then (if t242 < 0 then (impl_DoAct.j0 k t242 (a1_0 != 1) l0_0 a1_0 a1_1 a1_2 a1_3) else (impl_DoAct.j0 k t242 false l0_0 a1_0 a1_1 a1_2 a1_3)) else (impl_DoAct.j0 k t242 true l0_0 a1_0 a1_1 a1_2 a1_3))) else (impl_DoAct.j0 k t242 true l0_0 a1_0 a1_1 a1_2 a1_3)))) = some (r1, r2) := h
 clear h
 replace H := Option.bind_eq_some_iff.mp H
 obtain ⟨t242, A30, H⟩ := H
 have A3 := Aside0.mk A30
 clear A30
 have HC4 := Aside0.mk H
 clear H
 go_enter Try.func37, Try.ntmps37
 go_upto_region 2 with (first | ((with_reducible refine gate_dst (N := 2) rfl ?_); refine zx (N := 2) (cs := #[.slice A0_0 l0_0.length c0_0]) (t := 29) ?_; intro gb239 hg w5 hbox hb; have BK239 := Aside0.mk (hbox); have GW239 := zg HB hg; have GE239 := zg HB hg; replace HB := zs HB hb; clear hb hbox hg) | ((with_reducible refine gate_dst (N := 3) rfl ?_); refine zx (N := 3) (cs := #[.int .i64 a1_0, .string a1_1, .string a1_2, .string a1_3]) (t := 55) ?_; intro gb240 hg w6 hbox hb; have BK240 := Aside0.mk (hbox); have GW240 := zg HB hg; have GE240 := zg HB hg; replace HB := zs HB hb; have NB239_240 := zl BK239 hg; have NB240_239 := zr BK239 hg; replace BK239 := zb BK239 hb; clear hb hbox hg) | ((with_reducible refine gate_dst (N := 4) rfl ?_); refine zx (N := 4) (cs := #[.slice none 0 0]) (t := 29) ?_; intro gb241 hg w7 hbox hb; have BK241 := Aside0.mk (hbox); have GW241 := zg HB hg; have GE241 := zg HB hg; replace HB := zs HB hb; have NB239_241 := zl BK239 hg; have NB241_239 := zr BK239 hg; replace BK239 := zb BK239 hb; have NB240_241 := zl BK240 hg; have NB241_240 := zr BK240 hg; replace BK240 := zb BK240 hb; clear hb hbox hg; have hnb8 := NB239_240.out; have hnc8 := NB240_239.out; have hnb9 := NB239_241.out; have hnc9 := NB241_239.out; have hcz10_0 : w7.cell? ⟨gb239, 0, none⟩ = some (.slice A0_0 l0_0.length c0_0) := (blk_cell BK239.out 0).trans rfl; have hfz10_0 := blk_frozen BK239.out 0; have hnb11 := NB240_241.out; have hnc11 := NB241_240.out; have hcz12_0 : w7.cell? ⟨gb240, 0, none⟩ = some (.int .i64 a1_0) := (blk_cell BK240.out 0).trans rfl; have hcz12_1 : w7.cell? ⟨gb240, 1, none⟩ = some (.string a1_1) := (blk_cell BK240.out 1).trans rfl; have hcz12_2 : w7.cell? ⟨gb240, 2, none⟩ = some (.string a1_2) := (blk_cell BK240.out 2).trans rfl; have hcz12_3 : w7.cell? ⟨gb240, 3, none⟩ = some (.string a1_3) := (blk_cell BK240.out 3).trans rfl; have hfz12_0 := blk_frozen BK240.out 0; have hfz12_1 := blk_frozen BK240.out 1; have hfz12_2 := blk_frozen BK240.out 2; have hfz12_3 := blk_frozen BK240.out 3) | ((with_reducible refine gate_callee (f := 54) rfl ?_); refine zG (some 12) Try.func54 #[.agg #[.slice A0_0 l0_0.length c0_0], .string a1_1] ?_; (with_reducible refine (impl_placeOf.calls _ _ l0_0 a1_1 t242 _ ?side1 ?side2 A3.out).mono ?_); (case side1 => exact zI (Kd.C_below HR0_0.out HB.out)); (case side2 => exact HC0_0.out); rintro e w13 ⟨rfl, hb⟩; refine ⟨_, rfl, ?_⟩; replace BK239 := zb BK239 hb; replace BK240 := zb BK240 hb; replace BK241 := zb BK241 hb; replace HB := zs HB hb; clear hb))
 (try simp only [Act.put, zA, zB, zC])
 go_cut [29] (fun v29 wc => ∃ (kq : Nat) (x29_3 : Bool), v29 = .bool x29_3 ∧ Aside0 (impl_DoAct.j0 kq t242 x29_3 l0_0 a1_0 a1_1 a1_2 a1_3 = some (r1, r2)) ∧ Aside0 (kq ≤ k) ∧ Aside0 (wc.heap[gb239]? = some (.cells #[(.slice A0_0 l0_0.length c0_0)] 29 (0, 0))) ∧ Aside0 (wc.heap[gb240]? = some (.cells #[.int .i64 a1_0, .string a1_1, .string a1_2, .string a1_3] 55 (0, 0))) ∧ Aside0 (wc.heap[gb241]? = some (.cells #[(.slice none 0 0)] 29 (0, 0))) ∧ Aside0 (Below w.heap.size w wc))
 case first =>
  have H := HC4.out
  clear HC4
  replace H := Option.bind_eq_some_iff.mp H
  obtain ⟨t243, A140, H⟩ := H
  have A14 := Aside0.mk A140
  clear A140
  by_cases c15 : t243 = true
  ·subst c15
   rw [if_pos rfl] at H
   replace H := Option.bind_eq_some_iff.mp H
   obtain ⟨t244, A160, H⟩ := H
   have A16 := Aside0.mk A160
   clear A160
   by_cases c17 : t244 = true
   ·subst c17
    rw [if_pos rfl] at H
    by_cases c18 : t242 < 0
    ·rw [if_pos c18] at H
     have c18b0 : decide (t242 < 0) = true := decide_eq_true c18
     clear c18
     (first | rw [c18b0] | (simp only [i64_w, i32_w]; rw [c18b0]) | skip)
     have H' := Aside0.mk H
     clear H
     have hnb19 := NB239_240.out
     have hnc19 := NB240_239.out
     have hnb20 := NB239_241.out
     have hnc20 := NB241_239.out
     have hcz21_0 : w13.cell? ⟨gb239, 0, none⟩ = some (.slice A0_0 l0_0.length c0_0) := (blk_cell BK239.out 0).trans rfl
     have hfz21_0 := blk_frozen BK239.out 0
     go_wp2_with (first | ((with_reducible refine gate_callee (f := 15) rfl ?_); refine zG (some 14) Try.func15 #[.agg #[.slice A0_0 l0_0.length c0_0]] ?_; (with_reducible refine (impl_DiskOk.calls k _ _ l0_0 true _ ?side1 ?side2 A14.out).mono ?_); (case side1 => exact zI (Kd.C_below HR0_0.out HB.out)); (case side2 => exact HC0_0.out); rintro e w22 ⟨rfl, hb⟩; refine ⟨_, rfl, ?_⟩; replace BK239 := zb BK239 hb; replace BK240 := zb BK240 hb; replace BK241 := zb BK241 hb; replace HB := zs HB hb; clear hb; have hnb23 := NB240_241.out; have hnc23 := NB241_240.out; have hcz24_0 : w22.cell? ⟨gb240, 0, none⟩ = some (.int .i64 a1_0) := (blk_cell BK240.out 0).trans rfl; have hcz24_1 : w22.cell? ⟨gb240, 1, none⟩ = some (.string a1_1) := (blk_cell BK240.out 1).trans rfl; have hcz24_2 : w22.cell? ⟨gb240, 2, none⟩ = some (.string a1_2) := (blk_cell BK240.out 2).trans rfl; have hcz24_3 : w22.cell? ⟨gb240, 3, none⟩ = some (.string a1_3) := (blk_cell BK240.out 3).trans rfl; have hfz24_0 := blk_frozen BK240.out 0; have hfz24_1 := blk_frozen BK240.out 1; have hfz24_2 := blk_frozen BK240.out 2; have hfz24_3 := blk_frozen BK240.out 3) | (go_at_call 65; (with_reducible refine (impl_actOk.calls a1_0 a1_1 a1_2 a1_3 true _ A16.out).mono ?_); rintro e w25 ⟨rfl, hb⟩; replace BK239 := zb BK239 hb; replace BK240 := zb BK240 hb; replace BK241 := zb BK241 hb; replace HB := zs HB hb; clear hb; have hcz26_0 : w25.cell? ⟨gb240, 0, none⟩ = some (.int .i64 a1_0) := (blk_cell BK240.out 0).trans rfl; have hcz26_1 : w25.cell? ⟨gb240, 1, none⟩ = some (.string a1_1) := (blk_cell BK240.out 1).trans rfl; have hcz26_2 : w25.cell? ⟨gb240, 2, none⟩ = some (.string a1_2) := (blk_cell BK240.out 2).trans rfl; have hcz26_3 : w25.cell? ⟨gb240, 3, none⟩ = some (.string a1_3) := (blk_cell BK240.out 3).trans rfl; have hfz26_0 := blk_frozen BK240.out 0; have hfz26_1 := blk_frozen BK240.out 1; have hfz26_2 := blk_frozen BK240.out 2; have hfz26_3 := blk_frozen BK240.out 3))
     go_meet
     case rel => exact ⟨_, ((a1_0 != 1)), zf, H', ⟨by first | omega | exact Nat.le_refl _⟩, ⟨zkf BK239⟩, ⟨zkf BK240⟩, ⟨zkf BK241⟩, ⟨zw HB⟩⟩
    ·rw [if_neg c18] at H
     have c18b0 : decide (t242 < 0) = false := decide_eq_false c18
     clear c18
     (first | rw [c18b0] | (simp only [i64_w, i32_w]; rw [c18b0]) | skip)
     have H' := Aside0.mk H
     clear H
     have hnb27 := NB239_240.out
     have hnc27 := NB240_239.out
     have hnb28 := NB239_241.out
     have hnc28 := NB241_239.out
     have hcz29_0 : w13.cell? ⟨gb239, 0, none⟩ = some (.slice A0_0 l0_0.length c0_0) := (blk_cell BK239.out 0).trans rfl
     have hfz29_0 := blk_frozen BK239.out 0
     go_wp2_with (first | ((with_reducible refine gate_callee (f := 15) rfl ?_); refine zG (some 14) Try.func15 #[.agg #[.slice A0_0 l0_0.length c0_0]] ?_; (with_reducible refine (impl_DiskOk.calls k _ _ l0_0 true _ ?side1 ?side2 A14.out).mono ?_); (case side1 => exact zI (Kd.C_below HR0_0.out HB.out)); (case side2 => exact HC0_0.out); rintro e w30 ⟨rfl, hb⟩; refine ⟨_, rfl, ?_⟩; replace BK239 := zb BK239 hb; replace BK240 := zb BK240 hb; replace BK241 := zb BK241 hb; replace HB := zs HB hb; clear hb; have hnb31 := NB240_241.out; have hnc31 := NB241_240.out; have hcz32_0 : w30.cell? ⟨gb240, 0, none⟩ = some (.int .i64 a1_0) := (blk_cell BK240.out 0).trans rfl; have hcz32_1 : w30.cell? ⟨gb240, 1, none⟩ = some (.string a1_1) := (blk_cell BK240.out 1).trans rfl; have hcz32_2 : w30.cell? ⟨gb240, 2, none⟩ = some (.string a1_2) := (blk_cell BK240.out 2).trans rfl; have hcz32_3 : w30.cell? ⟨gb240, 3, none⟩ = some (.string a1_3) := (blk_cell BK240.out 3).trans rfl; have hfz32_0 := blk_frozen BK240.out 0; have hfz32_1 := blk_frozen BK240.out 1; have hfz32_2 := blk_frozen BK240.out 2; have hfz32_3 := blk_frozen BK240.out 3) | (go_at_call 65; (with_reducible refine (impl_actOk.calls a1_0 a1_1 a1_2 a1_3 true _ A16.out).mono ?_); rintro e w33 ⟨rfl, hb⟩; replace BK239 := zb BK239 hb; replace BK240 := zb BK240 hb; replace BK241 := zb BK241 hb; replace HB := zs HB hb; clear hb))
     go_meet
     case rel => exact ⟨_, (false), zf, H', ⟨by first | omega | exact Nat.le_refl _⟩, ⟨zkf BK239⟩, ⟨zkf BK240⟩, ⟨zkf BK241⟩, ⟨zw HB⟩⟩
   ·replace c17 := Bool.eq_false_iff.mpr c17
    subst c17
    rw [if_neg (show ¬ (false = true) by decide)] at H
    have H' := Aside0.mk H
    clear H
    have hnb34 := NB239_240.out
    have hnc34 := NB240_239.out
    have hnb35 := NB239_241.out
    have hnc35 := NB241_239.out
    have hcz36_0 : w13.cell? ⟨gb239, 0, none⟩ = some (.slice A0_0 l0_0.length c0_0) := (blk_cell BK239.out 0).trans rfl
    have hfz36_0 := blk_frozen BK239.out 0
    go_wp2_with (first | ((with_reducible refine gate_callee (f := 15) rfl ?_); refine zG (some 14) Try.func15 #[.agg #[.slice A0_0 l0_0.length c0_0]] ?_; (with_reducible refine (impl_DiskOk.calls k _ _ l0_0 true _ ?side1 ?side2 A14.out).mono ?_); (case side1 => exact zI (Kd.C_below HR0_0.out HB.out)); (case side2 => exact HC0_0.out); rintro e w37 ⟨rfl, hb⟩; refine ⟨_, rfl, ?_⟩; replace BK239 := zb BK239 hb; replace BK240 := zb BK240 hb; replace BK241 := zb BK241 hb; replace HB := zs HB hb; clear hb; have hnb38 := NB240_241.out; have hnc38 := NB241_240.out; have hcz39_0 : w37.cell? ⟨gb240, 0, none⟩ = some (.int .i64 a1_0) := (blk_cell BK240.out 0).trans rfl; have hcz39_1 : w37.cell? ⟨gb240, 1, none⟩ = some (.string a1_1) := (blk_cell BK240.out 1).trans rfl; have hcz39_2 : w37.cell? ⟨gb240, 2, none⟩ = some (.string a1_2) := (blk_cell BK240.out 2).trans rfl; have hcz39_3 : w37.cell? ⟨gb240, 3, none⟩ = some (.string a1_3) := (blk_cell BK240.out 3).trans rfl; have hfz39_0 := blk_frozen BK240.out 0; have hfz39_1 := blk_frozen BK240.out 1; have hfz39_2 := blk_frozen BK240.out 2; have hfz39_3 := blk_frozen BK240.out 3) | (go_at_call 65; (with_reducible refine (impl_actOk.calls a1_0 a1_1 a1_2 a1_3 false _ A16.out).mono ?_); rintro e w40 ⟨rfl, hb⟩; replace BK239 := zb BK239 hb; replace BK240 := zb BK240 hb; replace BK241 := zb BK241 hb; replace HB := zs HB hb; clear hb))
    go_meet
    case rel => exact ⟨_, (true), zf, H', ⟨by first | omega | exact Nat.le_refl _⟩, ⟨zkf BK239⟩, ⟨zkf BK240⟩, ⟨zkf BK241⟩, ⟨zw HB⟩⟩
  ·replace c15 := Bool.eq_false_iff.mpr c15
   subst c15
   rw [if_neg (show ¬ (false = true) by decide)] at H
   have H' := Aside0.mk H
   clear H
   have hnb41 := NB239_240.out
   have hnc41 := NB240_239.out
   have hnb42 := NB239_241.out
   have hnc42 := NB241_239.out
   have hcz43_0 : w13.cell? ⟨gb239, 0, none⟩ = some (.slice A0_0 l0_0.length c0_0) := (blk_cell BK239.out 0).trans rfl
   have hfz43_0 := blk_frozen BK239.out 0
   go_wp2_with (first | ((with_reducible refine gate_callee (f := 15) rfl ?_); refine zG (some 14) Try.func15 #[.agg #[.slice A0_0 l0_0.length c0_0]] ?_; (with_reducible refine (impl_DiskOk.calls k _ _ l0_0 false _ ?side1 ?side2 A14.out).mono ?_); (case side1 => exact zI (Kd.C_below HR0_0.out HB.out)); (case side2 => exact HC0_0.out); rintro e w44 ⟨rfl, hb⟩; refine ⟨_, rfl, ?_⟩; replace BK239 := zb BK239 hb; replace BK240 := zb BK240 hb; replace BK241 := zb BK241 hb; replace HB := zs HB hb; clear hb))
   go_meet
   case rel => exact ⟨_, (true), zf, H', ⟨by first | omega | exact Nat.le_refl _⟩, ⟨zkf BK239⟩, ⟨zkf BK240⟩, ⟨zkf BK241⟩, ⟨zw HB⟩⟩
 case rest =>
  clear HC4
  try clear c1
  try clear c2
  try clear p2
  try clear c3
  try clear c4
  try clear c5
  try clear c8
  try clear c9
  try clear c11
  try clear c15
  try clear c17
  try clear c18
  try clear c18b0
  try clear c19
  try clear c20
  try clear c23
  try clear c27
  try clear c28
  try clear c31
  try clear c34
  try clear c35
  try clear c37
  try clear c38
  try clear c41
  try clear c42
  try clear hcz10_0
  try clear hcz12_0
  try clear hcz12_1
  try clear hcz12_2
  try clear hcz12_3
  try clear hcz21_0
  try clear hcz24_0
  try clear hcz24_1
  try clear hcz24_2
  try clear hcz24_3
  try clear hcz26_0
  try clear hcz26_1
  try clear hcz26_2
  try clear hcz26_3
  try clear hcz29_0
  try clear hcz32_0
  try clear hcz32_1
  try clear hcz32_2
  try clear hcz32_3
  try clear hcz36_0
  try clear hcz39_0
  try clear hcz39_1
  try clear hcz39_2
  try clear hcz39_3
  try clear hcz43_0
  try clear hfz10_0
  try clear hfz12_0
  try clear hfz12_1
  try clear hfz12_2
  try clear hfz12_3
  try clear hfz21_0
  try clear hfz24_0
  try clear hfz24_1
  try clear hfz24_2
  try clear hfz24_3
  try clear hfz26_0
  try clear hfz26_1
  try clear hfz26_2
  try clear hfz26_3
  try clear hfz29_0
  try clear hfz32_0
  try clear hfz32_1
  try clear hfz32_2
  try clear hfz32_3
  try clear hfz36_0
  try clear hfz39_0
  try clear hfz39_1
  try clear hfz39_2
  try clear hfz39_3
  try clear hfz43_0
  obtain ⟨kq, x29_3, rfl, HA, HJ3, BK239, BK240, BK241, HB⟩ := hcut
  cases kq with
  | zero => exact absurd HA.out (by simp [impl_DoAct.j0])
  | succ kj3 =>
   have H := HA.out
   clear HA
   simp only [impl_DoAct.j0] at H
   by_cases c45 : x29_3 = true
   ·subst c45
    rw [if_pos rfl] at H
    simp only [Option.some.injEq, Prod.mk.injEq] at H
    obtain ⟨rfl, rfl⟩ := H
    have hnb46 := NB241_239.out
    have hnc46 := NB239_241.out
    have hnb47 := NB241_240.out
    have hnc47 := NB240_241.out
    have hcz48_0 : wc.cell? ⟨gb241, 0, none⟩ = some (.slice none 0 0) := (blk_cell BK241.out 0).trans rfl
    have hfz48_0 := blk_frozen BK241.out 0
    go_wp2
    refine bodyPost_ret (results_ct rfl _ _ gb241 29 #[.slice none 0 0] (0, 0) _ rfl (by (with_reducible repeat (first | refine blk_drewN ?_ _ | refine blk_drew ?_ | refine blk_alloc ?_ _)); refine blk_put (cs := #[.slice none 0 0]) ?_ 0 _ rfl; (with_reducible repeat (first | refine blk_drewN ?_ _ | refine blk_drew ?_ | refine blk_alloc ?_ _)); exact BK241.out) Try.underlying29 rfl (by kernel_rfl)) rfl ?_
    exact ⟨_, ze, by first | exact Kd.R_nil _ _ _ _ _ | exact Kd.N_nil _ _ _ _ _ | exact Kd.V_nil _ _ _ _ _ | exact Kd.Q_nil _ _ _ _ _ | exact Kd.S_nil _ _ _ _ _, zw HB⟩
   ·replace c45 := Bool.eq_false_iff.mpr c45
    subst c45
    rw [if_neg (show ¬ (false = true) by decide)] at H
    have HC49 := Aside0.mk H
    clear H
    have hnb50 := NB240_239.out
    have hnc50 := NB239_240.out
    have hnb51 := NB240_241.out
    have hnc51 := NB241_240.out
    have hcz52_0 : wc.cell? ⟨gb240, 0, none⟩ = some (.int .i64 a1_0) := (blk_cell BK240.out 0).trans rfl
    have hcz52_1 : wc.cell? ⟨gb240, 1, none⟩ = some (.string a1_1) := (blk_cell BK240.out 1).trans rfl
    have hcz52_2 : wc.cell? ⟨gb240, 2, none⟩ = some (.string a1_2) := (blk_cell BK240.out 2).trans rfl
    have hcz52_3 : wc.cell? ⟨gb240, 3, none⟩ = some (.string a1_3) := (blk_cell BK240.out 3).trans rfl
    have hfz52_0 := blk_frozen BK240.out 0
    have hfz52_1 := blk_frozen BK240.out 1
    have hfz52_2 := blk_frozen BK240.out 2
    have hfz52_3 := blk_frozen BK240.out 3
    go_upto_if 35 with (first | ((with_reducible refine gate_dst (N := 7) rfl ?_); refine zx (N := 7) (cs := #[.string (⟨#[]⟩ : ByteArray), .string (⟨#[]⟩ : ByteArray), .int .i64 0]) (t := 45) ?_; intro gb245 hg w53 hbox hb; have BK245 := Aside0.mk (hbox); have GW245 := zg HB hg; have GE245 := zg HB hg; replace HB := zs HB hb; have NB239_245 := zl BK239 hg; have NB245_239 := zr BK239 hg; replace BK239 := zb BK239 hb; have NB240_245 := zl BK240 hg; have NB245_240 := zr BK240 hg; replace BK240 := zb BK240 hb; have NB241_245 := zl BK241 hg; have NB245_241 := zr BK241 hg; replace BK241 := zb BK241 hb; clear hb hbox hg; have hnb54 := NB245_239.out; have hnc54 := NB239_245.out; have hnb55 := NB245_240.out; have hnc55 := NB240_245.out; have hnb56 := NB245_241.out; have hnc56 := NB241_245.out; have hcz57_0 : w53.cell? ⟨gb245, 0, none⟩ = some (.string (⟨#[]⟩ : ByteArray)) := (blk_cell BK245.out 0).trans rfl; have hcz57_1 : w53.cell? ⟨gb245, 1, none⟩ = some (.string (⟨#[]⟩ : ByteArray)) := (blk_cell BK245.out 1).trans rfl; have hcz57_2 : w53.cell? ⟨gb245, 2, none⟩ = some (.int .i64 0) := (blk_cell BK245.out 2).trans rfl; have hfz57_0 := blk_frozen BK245.out 0; have hfz57_1 := blk_frozen BK245.out 1; have hfz57_2 := blk_frozen BK245.out 2))
    (try simp only [Act.put, zA, zB, zC])
    go_cut [] (fun wc => ∃ (kq : Nat) (x246000_48 : ByteArray) (x246001_48 : ByteArray) (x246002_48 : Int), Aside0 (impl_DoAct.j1 kq l0_0 a1_0 a1_1 a1_2 a1_3 x246000_48 x246001_48 x246002_48 = some (r1, r2)) ∧ Aside0 (kq ≤ kj3) ∧ Aside0 (wc.heap[gb239]? = some (.cells #[(.slice A0_0 l0_0.length c0_0)] 29 (0, 0))) ∧ Aside0 (wc.heap[gb240]? = some (.cells #[.int .i64 a1_0, .string a1_1, .string a1_2, .string a1_3] 55 (0, 0))) ∧ Aside0 (wc.heap[gb241]? = some (.cells #[(.slice none 0 0)] 29 (0, 0))) ∧ Aside0 (wc.heap[gb245]? = some (.cells #[.string x246000_48, .string x246001_48, .int .i64 x246002_48] 45 (0, 0))) ∧ Aside0 (Below w.heap.size w wc))
    case first =>
     have H := HC49.out
     clear HC49
     by_cases c58 : t242 ≥ 0
     ·rw [if_pos c58] at H
      have c58b0 : decide (0 ≤ t242) = true := decide_eq_true c58
      clear c58
      (first | rw [c58b0] | (simp only [i64_w, i32_w]; rw [c58b0]) | skip)
      by_cases c59 : 0 ≤ t242
      ·rw [if_pos c59] at H
       have c59b0 : decide (0 ≤ t242) = true := decide_eq_true c59
       clear c59
       by_cases c60 : t242 < (l0_0.length : Int)
       ·rw [if_pos c60] at H
        have c60b0 : decide (t242 < (l0_0.length : Int)) = true := decide_eq_true c60
        clear c60
        have H' := Aside0.mk H
        clear H
        have hnb61 := NB239_240.out
        have hnc61 := NB240_239.out
        have hnb62 := NB239_241.out
        have hnc62 := NB241_239.out
        have hnb63 := NB239_245.out
        have hnc63 := NB245_239.out
        have hcz64_0 : w53.cell? ⟨gb239, 0, none⟩ = some (.slice A0_0 l0_0.length c0_0) := (blk_cell BK239.out 0).trans rfl
        have hfz64_0 := blk_frozen BK239.out 0
        have p246 : 0 ≤ (t242 : Int) := of_decide_eq_true za
        have q246 : t242 < (l0_0.length : Int) := of_decide_eq_true za
        obtain ⟨ad246, e246, hx246_0, hx246_1, hx246_2⟩ := at_T45 HR0_0.out t242 p246 q246
        cases e246
        have hn246_0 : ad246.block ≠ gb245 := Nat.ne_of_lt (Nat.lt_of_lt_of_le (by have := World.block_lt_of_cell? _ _ hx246_0; first | rwa [add_block] at this | exact this) GW245.out)
        have hn246_1 : ad246.block ≠ gb245 := Nat.ne_of_lt (Nat.lt_of_lt_of_le (by have := World.block_lt_of_cell? _ _ hx246_0; first | rwa [add_block] at this | exact this) GW245.out)
        have hn246_2 : ad246.block ≠ gb245 := Nat.ne_of_lt (Nat.lt_of_lt_of_le (by have := World.block_lt_of_cell? _ _ hx246_0; first | rwa [add_block] at this | exact this) GW245.out)
        replace hx246_0 := zU HB.out hx246_0
        replace hx246_1 := zU HB.out hx246_1
        replace hx246_2 := zU HB.out hx246_2
        replace hx246_0 := (cell_far (p := ⟨gb245, 0, none⟩) (by first | (rw [add_block]; exact hn246_0) | (show (Addr.add _ _).block ≠ _; rw [add_block]; exact hn246_0) | exact hn246_0) (.string a1_1)).trans hx246_0
        replace hx246_1 := (cell_far (p := ⟨gb245, 0, none⟩) (by first | (rw [add_block]; exact hn246_0) | (show (Addr.add _ _).block ≠ _; rw [add_block]; exact hn246_0) | exact hn246_0) (.string a1_1)).trans hx246_1
        replace hx246_2 := (cell_far (p := ⟨gb245, 0, none⟩) (by first | (rw [add_block]; exact hn246_0) | (show (Addr.add _ _).block ≠ _; rw [add_block]; exact hn246_0) | exact hn246_0) (.string a1_1)).trans hx246_2
        replace hx246_0 := (cell_far (p := ⟨gb245, 1, none⟩) (by first | (rw [add_block]; exact hn246_1) | (show (Addr.add _ _).block ≠ _; rw [add_block]; exact hn246_1) | exact hn246_1) (.string (⟨#[]⟩ : ByteArray))).trans hx246_0
        replace hx246_1 := (cell_far (p := ⟨gb245, 1, none⟩) (by first | (rw [add_block]; exact hn246_1) | (show (Addr.add _ _).block ≠ _; rw [add_block]; exact hn246_1) | exact hn246_1) (.string (⟨#[]⟩ : ByteArray))).trans hx246_1
        replace hx246_2 := (cell_far (p := ⟨gb245, 1, none⟩) (by first | (rw [add_block]; exact hn246_1) | (show (Addr.add _ _).block ≠ _; rw [add_block]; exact hn246_1) | exact hn246_1) (.string (⟨#[]⟩ : ByteArray))).trans hx246_2
        replace hx246_0 := (cell_far (p := ⟨gb245, 2, none⟩) (by first | (rw [add_block]; exact hn246_2) | (show (Addr.add _ _).block ≠ _; rw [add_block]; exact hn246_2) | exact hn246_2) (.int .i64 0)).trans hx246_0
        replace hx246_1 := (cell_far (p := ⟨gb245, 2, none⟩) (by first | (rw [add_block]; exact hn246_2) | (show (Addr.add _ _).block ≠ _; rw [add_block]; exact hn246_2) | exact hn246_2) (.int .i64 0)).trans hx246_1
        replace hx246_2 := (cell_far (p := ⟨gb245, 2, none⟩) (by first | (rw [add_block]; exact hn246_2) | (show (Addr.add _ _).block ≠ _; rw [add_block]; exact hn246_2) | exact hn246_2) (.int .i64 0)).trans hx246_2
        clear hn246_0
        clear hn246_1
        clear hn246_2
        replace p246 := eq_true p246
        replace q246 := eq_true q246
        have hnb65 := NB245_240.out
        have hnc65 := NB240_245.out
        have hnb66 := NB245_241.out
        have hnc66 := NB241_245.out
        have hcz67_0 : w53.cell? ⟨gb245, 0, none⟩ = some (.string (⟨#[]⟩ : ByteArray)) := (blk_cell BK245.out 0).trans rfl
        have hcz67_1 : w53.cell? ⟨gb245, 1, none⟩ = some (.string (⟨#[]⟩ : ByteArray)) := (blk_cell BK245.out 1).trans rfl
        have hcz67_2 : w53.cell? ⟨gb245, 2, none⟩ = some (.int .i64 0) := (blk_cell BK245.out 2).trans rfl
        have hfz67_0 := blk_frozen BK245.out 0
        have hfz67_1 := blk_frozen BK245.out 1
        have hfz67_2 := blk_frozen BK245.out 2
        go_wp2
        go_meet
        case rel => exact ⟨_, ((rd_T45 l0_0 t242).f0), ((rd_T45 l0_0 t242).f1), ((rd_T45 l0_0 t242).f2), H', ⟨by have := HJ3.out; first | omega | exact Nat.le_refl _⟩, ⟨zkf BK239⟩, ⟨zkf BK240⟩, ⟨zkf BK241⟩, ⟨by (with_reducible repeat (first | refine blk_drewN ?_ _ | refine blk_drew ?_ | refine blk_alloc ?_ _)); refine blk_put (cs := #[.string ((rd_T45 l0_0 t242).f0), .string ((rd_T45 l0_0 t242).f1), .int .i64 0]) ?_ 2 _ rfl; (with_reducible repeat (first | refine blk_drewN ?_ _ | refine blk_drew ?_ | refine blk_alloc ?_ _)); refine blk_put (cs := #[.string ((rd_T45 l0_0 t242).f0), .string (⟨#[]⟩ : ByteArray), .int .i64 0]) ?_ 1 _ rfl; (with_reducible repeat (first | refine blk_drewN ?_ _ | refine blk_drew ?_ | refine blk_alloc ?_ _)); refine blk_put (cs := #[.string a1_1, .string (⟨#[]⟩ : ByteArray), .int .i64 0]) ?_ 0 _ rfl; (with_reducible repeat (first | refine blk_drewN ?_ _ | refine blk_drew ?_ | refine blk_alloc ?_ _)); refine blk_put (cs := #[.string a1_1, .string (⟨#[]⟩ : ByteArray), .int .i64 0]) ?_ 2 _ rfl; (with_reducible repeat (first | refine blk_drewN ?_ _ | refine blk_drew ?_ | refine blk_alloc ?_ _)); refine blk_put (cs := #[.string a1_1, .string (⟨#[]⟩ : ByteArray), .int .i64 0]) ?_ 1 _ rfl; (with_reducible repeat (first | refine blk_drewN ?_ _ | refine blk_drew ?_ | refine blk_alloc ?_ _)); refine blk_put (cs := #[.string (⟨#[]⟩ : ByteArray), .string (⟨#[]⟩ : ByteArray), .int .i64 0]) ?_ 0 _ rfl; (with_reducible repeat (first | refine blk_drewN ?_ _ | refine blk_drew ?_ | refine blk_alloc ?_ _)); exact BK245.out⟩, ⟨zw HB⟩⟩
       ·rw [if_neg c60] at H
        exact absurd H (by simp)
      ·rw [if_neg c59] at H
       exact absurd H (by simp)
     ·rw [if_neg c58] at H
      have c58b0 : decide (0 ≤ t242) = false := decide_eq_false c58
      clear c58
      (first | rw [c58b0] | (simp only [i64_w, i32_w]; rw [c58b0]) | skip)
      have H' := Aside0.mk H
      clear H
      go_wp2
      go_meet
      case rel => exact ⟨_, (a1_1), ((⟨#[]⟩ : ByteArray)), (0), H', ⟨by have := HJ3.out; first | omega | exact Nat.le_refl _⟩, ⟨zkf BK239⟩, ⟨zkf BK240⟩, ⟨zkf BK241⟩, ⟨by (with_reducible repeat (first | refine blk_drewN ?_ _ | refine blk_drew ?_ | refine blk_alloc ?_ _)); refine blk_put (cs := #[.string a1_1, .string (⟨#[]⟩ : ByteArray), .int .i64 0]) ?_ 2 _ rfl; (with_reducible repeat (first | refine blk_drewN ?_ _ | refine blk_drew ?_ | refine blk_alloc ?_ _)); refine blk_put (cs := #[.string a1_1, .string (⟨#[]⟩ : ByteArray), .int .i64 0]) ?_ 1 _ rfl; (with_reducible repeat (first | refine blk_drewN ?_ _ | refine blk_drew ?_ | refine blk_alloc ?_ _)); refine blk_put (cs := #[.string (⟨#[]⟩ : ByteArray), .string (⟨#[]⟩ : ByteArray), .int .i64 0]) ?_ 0 _ rfl; (with_reducible repeat (first | refine blk_drewN ?_ _ | refine blk_drew ?_ | refine blk_alloc ?_ _)); exact BK245.out⟩, ⟨zw HB⟩⟩
    case rest =>
     clear HC49
     try clear c1
     try clear c2
     try clear p2
     try clear q2
     try clear hx2
     try clear c3
     try clear c4
     try clear c5
     try clear c6
     try clear c8
     try clear c9
     try clear c11
     try clear c15
     try clear c17
     try clear c18
     try clear c18b0
     try clear c19
     try clear c20
     try clear c23
     try clear p24
     try clear q24
     try clear hx24
     try clear c27
     try clear c28
     try clear c31
     try clear c34
     try clear c35
     try clear c37
     try clear c38
     try clear c41
     try clear c42
     try clear c45
     try clear c46
     try clear c47
     try clear c50
     try clear c51
     try clear c54
     try clear c55
     try clear c56
     try clear c58
     try clear c58b0
     try clear c59
     try clear c59b0
     try clear c60
     try clear c60b0
     try clear c61
     try clear c62
     try clear c63
     try clear c65
     try clear c66
     try clear hcz10_0
     try clear hcz12_0
     try clear hcz12_1
     try clear hcz12_2
     try clear hcz12_3
     try clear hcz21_0
     try clear hcz24_0
     try clear hcz24_1
     try clear hcz24_2
     try clear hcz24_3
     try clear hcz26_0
     try clear hcz26_1
     try clear hcz26_2
     try clear hcz26_3
     try clear hcz29_0
     try clear hcz32_0
     try clear hcz32_1
     try clear hcz32_2
     try clear hcz32_3
     try clear hcz36_0
     try clear hcz39_0
     try clear hcz39_1
     try clear hcz39_2
     try clear hcz39_3
     try clear hcz43_0
     try clear hcz48_0
     try clear hcz52_0
     try clear hcz52_1
     try clear hcz52_2
     try clear hcz52_3
     try clear hcz57_0
     try clear hcz57_1
     try clear hcz57_2
     try clear hcz64_0
     try clear hcz67_0
     try clear hcz67_1
     try clear hcz67_2
     try clear hfz10_0
     try clear hfz12_0
     try clear hfz12_1
     try clear hfz12_2
     try clear hfz12_3
     try clear hfz21_0
     try clear hfz24_0
     try clear hfz24_1
     try clear hfz24_2
     try clear hfz24_3
     try clear hfz26_0
     try clear hfz26_1
     try clear hfz26_2
     try clear hfz26_3
     try clear hfz29_0
     try clear hfz32_0
     try clear hfz32_1
     try clear hfz32_2
     try clear hfz32_3
     try clear hfz36_0
     try clear hfz39_0
     try clear hfz39_1
     try clear hfz39_2
     try clear hfz39_3
     try clear hfz43_0
     try clear hfz48_0
     try clear hfz52_0
     try clear hfz52_1
     try clear hfz52_2
     try clear hfz52_3
     try clear hfz57_0
     try clear hfz57_1
     try clear hfz57_2
     try clear hfz64_0
     try clear hfz67_0
     try clear hfz67_1
     try clear hfz67_2
     try clear hx246_0
     try clear hx246_1
     try clear hx246_2
     try clear p2
     try clear p246
     try clear q246
     obtain ⟨kq, x246000_48, x246001_48, x246002_48, HA, HJ48, BK239, BK240, BK241, BK245, HB⟩ := hcut
     cases kq with
     | zero => exact absurd HA.out (by simp [impl_DoAct.j1])
     | succ kj48 =>
      have H := HA.out
      clear HA
      simp only [impl_DoAct.j1] at H
      by_cases c68 : a1_0 = 1
      ·rw [if_pos c68] at H
       have c68b0 : (a1_0 == 1) = true := beq_iff_eq.mpr c68
       have c68b1 : (a1_0 != 1) = false := bne_eq_false_iff_eq.mpr c68
       clear c68
       by_cases c69 : x246001_48.size + a1_2.size ≤ 9223372036854775807
       ·rw [if_pos c69] at H
        have c69b0 := eq_true c69
        have c69b1 : decide (x246001_48.size + a1_2.size ≤ 9223372036854775807) = true := decide_eq_true c69
        try have c69b2 : (9223372036854775807 < x246001_48.size + a1_2.size) = False := eq_false (Nat.not_lt.2 c69)
        replace H := Option.bind_eq_some_iff.mp H
        obtain ⟨t248, A700, H⟩ := H
        have A70 := Aside0.mk A700
        clear A700
        replace H := Option.bind_eq_some_iff.mp H
        obtain ⟨t251, A710, H⟩ := H
        have A71 := Aside0.mk A710
        clear A710
        by_cases c72 : t251 = true
        ·subst c72
         rw [if_pos rfl] at H
         simp only [Option.some.injEq, Prod.mk.injEq] at H
         obtain ⟨rfl, rfl⟩ := H
         go_wp2_with (first | ((with_reducible refine gate_dst (N := 8) rfl ?_); refine zx (N := 8) (cs := #[.slice none 0 0]) (t := 29) ?_; intro gb247 hg w73 hbox hb; have BK247 := Aside0.mk (hbox); have GW247 := zg HB hg; have GE247 := zg HB hg; replace HB := zs HB hb; have NB239_247 := zl BK239 hg; have NB247_239 := zr BK239 hg; replace BK239 := zb BK239 hb; have NB240_247 := zl BK240 hg; have NB247_240 := zr BK240 hg; replace BK240 := zb BK240 hb; have NB241_247 := zl BK241 hg; have NB247_241 := zr BK241 hg; replace BK241 := zb BK241 hb; have NB245_247 := zl BK245 hg; have NB247_245 := zr BK245 hg; replace BK245 := zb BK245 hb; clear hb hbox hg; have hnb74 := NB247_239.out; have hnc74 := NB239_247.out; have hnb75 := NB247_240.out; have hnc75 := NB240_247.out; have hnb76 := NB247_241.out; have hnc76 := NB241_247.out; have hnb77 := NB247_245.out; have hnc77 := NB245_247.out; have hcz78_0 : w73.cell? ⟨gb247, 0, none⟩ = some (.slice none 0 0) := (blk_cell BK247.out 0).trans rfl; have hfz78_0 := blk_frozen BK247.out 0; have hnb79 := NB240_239.out; have hnc79 := NB239_240.out; have hnb80 := NB240_241.out; have hnc80 := NB241_240.out; have hnb81 := NB240_245.out; have hnc81 := NB245_240.out; have hcz82_0 : w73.cell? ⟨gb240, 0, none⟩ = some (.int .i64 a1_0) := (blk_cell BK240.out 0).trans rfl; have hcz82_1 : w73.cell? ⟨gb240, 1, none⟩ = some (.string a1_1) := (blk_cell BK240.out 1).trans rfl; have hcz82_2 : w73.cell? ⟨gb240, 2, none⟩ = some (.string a1_2) := (blk_cell BK240.out 2).trans rfl; have hcz82_3 : w73.cell? ⟨gb240, 3, none⟩ = some (.string a1_3) := (blk_cell BK240.out 3).trans rfl; have hfz82_0 := blk_frozen BK240.out 0; have hfz82_1 := blk_frozen BK240.out 1; have hfz82_2 := blk_frozen BK240.out 2; have hfz82_3 := blk_frozen BK240.out 3; have hnb83 := NB245_239.out; have hnc83 := NB239_245.out; have hnb84 := NB245_241.out; have hnc84 := NB241_245.out; have hcz85_0 : w73.cell? ⟨gb245, 0, none⟩ = some (.string x246000_48) := (blk_cell BK245.out 0).trans rfl; have hcz85_1 : w73.cell? ⟨gb245, 1, none⟩ = some (.string x246001_48) := (blk_cell BK245.out 1).trans rfl; have hcz85_2 : w73.cell? ⟨gb245, 2, none⟩ = some (.int .i64 x246002_48) := (blk_cell BK245.out 2).trans rfl; have hfz85_0 := blk_frozen BK245.out 0; have hfz85_1 := blk_frozen BK245.out 1; have hfz85_2 := blk_frozen BK245.out 2; have hnb86 := NB239_241.out; have hnc86 := NB241_239.out; have hcz87_0 : w73.cell? ⟨gb239, 0, none⟩ = some (.slice A0_0 l0_0.length c0_0) := (blk_cell BK239.out 0).trans rfl; have hfz87_0 := blk_frozen BK239.out 0) | ((with_reducible refine gate_callee (f := 66) rfl ?_); refine zG (some 58) Try.func66 #[.agg #[.slice A0_0 l0_0.length c0_0], .agg #[.string x246000_48, .string (x246001_48 ++ a1_2), .int .i64 x246002_48]] ?_; (with_reducible refine (impl_withFile.calls _ _ l0_0 x246000_48 (x246001_48 ++ a1_2) x246002_48 t248 _ ?side1 ?side2 A70.out).mono ?_); (case side1 => exact Kd.C_below HR0_0.out (zw HB)); (case side2 => exact HC0_0.out); rintro e w88 ⟨v249, rfl, ho0, hb⟩; refine ⟨_, rfl, ?_⟩; have HO250 := Aside0.mk (Kd.R_lower (Kd.R_newB ho0 (g := gb245) (o := .cells #[.string x246000_48, .string (x246001_48 ++ a1_2), .int .i64 x246002_48] 45 (0, 0)) (by (with_reducible repeat (first | refine blk_drewN ?_ _ | refine blk_drew ?_ | refine blk_alloc ?_ _)); refine blk_put (cs := #[.string x246000_48, .string x246001_48, .int .i64 x246002_48]) ?_ 1 _ rfl; (with_reducible repeat (first | refine blk_drewN ?_ _ | refine blk_drew ?_ | refine blk_alloc ?_ _)); refine blk_far ?_ NB245_247.out _; (with_reducible repeat (first | refine blk_drewN ?_ _ | refine blk_drew ?_ | refine blk_alloc ?_ _)); exact BK245.out)) (below_size (zw HB))); replace BK239 := zbf BK239 hb; replace BK240 := zbf BK240 hb; replace BK241 := zbf BK241 hb; replace BK245 := Aside0.mk (blk_below (g := gb245) (o := .cells #[.string x246000_48, .string (x246001_48 ++ a1_2), .int .i64 x246002_48] 45 (0, 0)) (by (with_reducible repeat (first | refine blk_drewN ?_ _ | refine blk_drew ?_ | refine blk_alloc ?_ _)); refine blk_put (cs := #[.string x246000_48, .string x246001_48, .int .i64 x246002_48]) ?_ 1 _ rfl; (with_reducible repeat (first | refine blk_drewN ?_ _ | refine blk_drew ?_ | refine blk_alloc ?_ _)); refine blk_far ?_ NB245_247.out _; (with_reducible repeat (first | refine blk_drewN ?_ _ | refine blk_drew ?_ | refine blk_alloc ?_ _)); exact BK245.out) hb); replace BK247 := Aside0.mk (blk_below (g := gb247) (o := .cells #[.slice none 0 0] 29 (0, 0)) (by (with_reducible repeat (first | refine blk_drewN ?_ _ | refine blk_drew ?_ | refine blk_alloc ?_ _)); refine blk_far ?_ NB247_245.out _; (with_reducible repeat (first | refine blk_drewN ?_ _ | refine blk_drew ?_ | refine blk_alloc ?_ _)); refine blk_put (cs := #[.slice none 0 0]) ?_ 0 _ rfl; (with_reducible repeat (first | refine blk_drewN ?_ _ | refine blk_drew ?_ | refine blk_alloc ?_ _)); exact BK247.out) hb); replace HB := zs HB hb; clear ho0 hb; obtain ⟨Ao89, co89, eo89⟩ := Kd.R_slice HO250.out; subst eo89; have hcz90_0 : w88.cell? ⟨gb247, 0, none⟩ = some (.slice none 0 0) := (blk_cell BK247.out 0).trans rfl; have hfz90_0 := blk_frozen BK247.out 0) | ((with_reducible refine gate_callee (f := 15) rfl ?_); refine zG (some 94) Try.func15 #[.agg #[.slice Ao89 t248.length co89]] ?_; (with_reducible refine (impl_DiskOk.calls kj48 _ _ t248 true _ ?side1 ?side2 A71.out).mono ?_); (case side1 => refine (Kd.R_reads' (e := 45) (base := w.heap.size) (ok := fun k_ => (True ∧ k_ ≠ gb245)) (n := t248.length) (c := co89) ?_).2.2; exact (zo ((Kd.R_mono (Kd.R_far (p := ⟨gb247, 0, none⟩) (Kd.R_types HO250.out BK247.out (by decide)) (fun _ hk => hk.2) (.slice Ao89 t248.length co89)) (fun _ h_ => h_.1))))); (case side2 => exact (Kd.R_reads' HO250.out).2.1); rintro e w91 ⟨rfl, hb⟩; refine ⟨_, rfl, ?_⟩; replace HO250 := Aside0.mk (Kd.R_below (zo ((Kd.R_mono (Kd.R_far (p := ⟨gb247, 0, none⟩) (Kd.R_types HO250.out BK247.out (by decide)) (fun _ hk => hk.2) (.slice Ao89 t248.length co89)) (fun _ h_ => h_.1)))) hb); replace BK239 := zbf BK239 hb; replace BK240 := zbf BK240 hb; replace BK241 := zbf BK241 hb; replace BK245 := zbf BK245 hb; replace BK247 := Aside0.mk (blk_below (g := gb247) (o := .cells #[.slice Ao89 t248.length co89] 29 (0, 0)) (by (with_reducible repeat (first | refine blk_drewN ?_ _ | refine blk_drew ?_ | refine blk_alloc ?_ _)); refine blk_put (cs := #[.slice none 0 0]) ?_ 0 _ rfl; (with_reducible repeat (first | refine blk_drewN ?_ _ | refine blk_drew ?_ | refine blk_alloc ?_ _)); exact BK247.out) hb); replace HB := zs HB hb; clear hb; have hcz92_0 : w91.cell? ⟨gb247, 0, none⟩ = some (.slice Ao89 t248.length co89) := (blk_cell BK247.out 0).trans rfl; have hfz92_0 := blk_frozen BK247.out 0; have hcz93_0 : w91.cell? ⟨gb241, 0, none⟩ = some (.slice none 0 0) := (blk_cell BK241.out 0).trans rfl; have hfz93_0 := blk_frozen BK241.out 0))
         refine bodyPost_ret (results_ct rfl _ _ gb241 29 #[.slice Ao89 t248.length co89] (0, 0) _ rfl (by (with_reducible repeat (first | refine blk_drewN ?_ _ | refine blk_drew ?_ | refine blk_alloc ?_ _)); refine blk_put (cs := #[.slice none 0 0]) ?_ 0 _ rfl; (with_reducible repeat (first | refine blk_drewN ?_ _ | refine blk_drew ?_ | refine blk_alloc ?_ _)); exact BK241.out) Try.underlying29 rfl (by kernel_rfl)) rfl ?_
         exact ⟨_, ze, zo (Kd.R_mono (Kd.R_far (p := ⟨gb241, 0, none⟩) (Kd.R_types HO250.out BK241.out (by decide)) (fun _ hk => hk.2) (.slice Ao89 t248.length co89)) (fun _ hk => trivial)), zw HB⟩
        ·replace c72 := Bool.eq_false_iff.mpr c72
         subst c72
         rw [if_neg (show ¬ (false = true) by decide)] at H
         simp only [Option.some.injEq, Prod.mk.injEq] at H
         obtain ⟨rfl, rfl⟩ := H
         go_wp2_with (first | ((with_reducible refine gate_dst (N := 8) rfl ?_); refine zx (N := 8) (cs := #[.slice none 0 0]) (t := 29) ?_; intro gb247 hg w94 hbox hb; have BK247 := Aside0.mk (hbox); have GW247 := zg HB hg; have GE247 := zg HB hg; replace HB := zs HB hb; have NB239_247 := zl BK239 hg; have NB247_239 := zr BK239 hg; replace BK239 := zb BK239 hb; have NB240_247 := zl BK240 hg; have NB247_240 := zr BK240 hg; replace BK240 := zb BK240 hb; have NB241_247 := zl BK241 hg; have NB247_241 := zr BK241 hg; replace BK241 := zb BK241 hb; have NB245_247 := zl BK245 hg; have NB247_245 := zr BK245 hg; replace BK245 := zb BK245 hb; clear hb hbox hg; have hnb95 := NB247_239.out; have hnc95 := NB239_247.out; have hnb96 := NB247_240.out; have hnc96 := NB240_247.out; have hnb97 := NB247_241.out; have hnc97 := NB241_247.out; have hnb98 := NB247_245.out; have hnc98 := NB245_247.out; have hcz99_0 : w94.cell? ⟨gb247, 0, none⟩ = some (.slice none 0 0) := (blk_cell BK247.out 0).trans rfl; have hfz99_0 := blk_frozen BK247.out 0; have hnb100 := NB240_239.out; have hnc100 := NB239_240.out; have hnb101 := NB240_241.out; have hnc101 := NB241_240.out; have hnb102 := NB240_245.out; have hnc102 := NB245_240.out; have hcz103_0 : w94.cell? ⟨gb240, 0, none⟩ = some (.int .i64 a1_0) := (blk_cell BK240.out 0).trans rfl; have hcz103_1 : w94.cell? ⟨gb240, 1, none⟩ = some (.string a1_1) := (blk_cell BK240.out 1).trans rfl; have hcz103_2 : w94.cell? ⟨gb240, 2, none⟩ = some (.string a1_2) := (blk_cell BK240.out 2).trans rfl; have hcz103_3 : w94.cell? ⟨gb240, 3, none⟩ = some (.string a1_3) := (blk_cell BK240.out 3).trans rfl; have hfz103_0 := blk_frozen BK240.out 0; have hfz103_1 := blk_frozen BK240.out 1; have hfz103_2 := blk_frozen BK240.out 2; have hfz103_3 := blk_frozen BK240.out 3; have hnb104 := NB245_239.out; have hnc104 := NB239_245.out; have hnb105 := NB245_241.out; have hnc105 := NB241_245.out; have hcz106_0 : w94.cell? ⟨gb245, 0, none⟩ = some (.string x246000_48) := (blk_cell BK245.out 0).trans rfl; have hcz106_1 : w94.cell? ⟨gb245, 1, none⟩ = some (.string x246001_48) := (blk_cell BK245.out 1).trans rfl; have hcz106_2 : w94.cell? ⟨gb245, 2, none⟩ = some (.int .i64 x246002_48) := (blk_cell BK245.out 2).trans rfl; have hfz106_0 := blk_frozen BK245.out 0; have hfz106_1 := blk_frozen BK245.out 1; have hfz106_2 := blk_frozen BK245.out 2; have hnb107 := NB239_241.out; have hnc107 := NB241_239.out; have hcz108_0 : w94.cell? ⟨gb239, 0, none⟩ = some (.slice A0_0 l0_0.length c0_0) := (blk_cell BK239.out 0).trans rfl; have hfz108_0 := blk_frozen BK239.out 0) | ((with_reducible refine gate_callee (f := 66) rfl ?_); refine zG (some 58) Try.func66 #[.agg #[.slice A0_0 l0_0.length c0_0], .agg #[.string x246000_48, .string (x246001_48 ++ a1_2), .int .i64 x246002_48]] ?_; (with_reducible refine (impl_withFile.calls _ _ l0_0 x246000_48 (x246001_48 ++ a1_2) x246002_48 t248 _ ?side1 ?side2 A70.out).mono ?_); (case side1 => exact Kd.C_below HR0_0.out (zw HB)); (case side2 => exact HC0_0.out); rintro e w109 ⟨v249, rfl, ho0, hb⟩; refine ⟨_, rfl, ?_⟩; have HO250 := Aside0.mk (Kd.R_lower (Kd.R_newB ho0 (g := gb245) (o := .cells #[.string x246000_48, .string (x246001_48 ++ a1_2), .int .i64 x246002_48] 45 (0, 0)) (by (with_reducible repeat (first | refine blk_drewN ?_ _ | refine blk_drew ?_ | refine blk_alloc ?_ _)); refine blk_put (cs := #[.string x246000_48, .string x246001_48, .int .i64 x246002_48]) ?_ 1 _ rfl; (with_reducible repeat (first | refine blk_drewN ?_ _ | refine blk_drew ?_ | refine blk_alloc ?_ _)); refine blk_far ?_ NB245_247.out _; (with_reducible repeat (first | refine blk_drewN ?_ _ | refine blk_drew ?_ | refine blk_alloc ?_ _)); exact BK245.out)) (below_size (zw HB))); replace BK239 := zbf BK239 hb; replace BK240 := zbf BK240 hb; replace BK241 := zbf BK241 hb; replace BK245 := Aside0.mk (blk_below (g := gb245) (o := .cells #[.string x246000_48, .string (x246001_48 ++ a1_2), .int .i64 x246002_48] 45 (0, 0)) (by (with_reducible repeat (first | refine blk_drewN ?_ _ | refine blk_drew ?_ | refine blk_alloc ?_ _)); refine blk_put (cs := #[.string x246000_48, .string x246001_48, .int .i64 x246002_48]) ?_ 1 _ rfl; (with_reducible repeat (first | refine blk_drewN ?_ _ | refine blk_drew ?_ | refine blk_alloc ?_ _)); refine blk_far ?_ NB245_247.out _; (with_reducible repeat (first | refine blk_drewN ?_ _ | refine blk_drew ?_ | refine blk_alloc ?_ _)); exact BK245.out) hb); replace BK247 := Aside0.mk (blk_below (g := gb247) (o := .cells #[.slice none 0 0] 29 (0, 0)) (by (with_reducible repeat (first | refine blk_drewN ?_ _ | refine blk_drew ?_ | refine blk_alloc ?_ _)); refine blk_far ?_ NB247_245.out _; (with_reducible repeat (first | refine blk_drewN ?_ _ | refine blk_drew ?_ | refine blk_alloc ?_ _)); refine blk_put (cs := #[.slice none 0 0]) ?_ 0 _ rfl; (with_reducible repeat (first | refine blk_drewN ?_ _ | refine blk_drew ?_ | refine blk_alloc ?_ _)); exact BK247.out) hb); replace HB := zs HB hb; clear ho0 hb; obtain ⟨Ao110, co110, eo110⟩ := Kd.R_slice HO250.out; subst eo110; have hcz111_0 : w109.cell? ⟨gb247, 0, none⟩ = some (.slice none 0 0) := (blk_cell BK247.out 0).trans rfl; have hfz111_0 := blk_frozen BK247.out 0) | ((with_reducible refine gate_callee (f := 15) rfl ?_); refine zG (some 94) Try.func15 #[.agg #[.slice Ao110 t248.length co110]] ?_; (with_reducible refine (impl_DiskOk.calls kj48 _ _ t248 false _ ?side1 ?side2 A71.out).mono ?_); (case side1 => refine (Kd.R_reads' (e := 45) (base := w.heap.size) (ok := fun k_ => (True ∧ k_ ≠ gb245)) (n := t248.length) (c := co110) ?_).2.2; exact (zo ((Kd.R_mono (Kd.R_far (p := ⟨gb247, 0, none⟩) (Kd.R_types HO250.out BK247.out (by decide)) (fun _ hk => hk.2) (.slice Ao110 t248.length co110)) (fun _ h_ => h_.1))))); (case side2 => exact (Kd.R_reads' HO250.out).2.1); rintro e w112 ⟨rfl, hb⟩; refine ⟨_, rfl, ?_⟩; replace HO250 := Aside0.mk (Kd.R_below (zo ((Kd.R_mono (Kd.R_far (p := ⟨gb247, 0, none⟩) (Kd.R_types HO250.out BK247.out (by decide)) (fun _ hk => hk.2) (.slice Ao110 t248.length co110)) (fun _ h_ => h_.1)))) hb); replace BK239 := zbf BK239 hb; replace BK240 := zbf BK240 hb; replace BK241 := zbf BK241 hb; replace BK245 := zbf BK245 hb; replace BK247 := Aside0.mk (blk_below (g := gb247) (o := .cells #[.slice Ao110 t248.length co110] 29 (0, 0)) (by (with_reducible repeat (first | refine blk_drewN ?_ _ | refine blk_drew ?_ | refine blk_alloc ?_ _)); refine blk_put (cs := #[.slice none 0 0]) ?_ 0 _ rfl; (with_reducible repeat (first | refine blk_drewN ?_ _ | refine blk_drew ?_ | refine blk_alloc ?_ _)); exact BK247.out) hb); replace HB := zs HB hb; clear hb; have hcz113_0 : w112.cell? ⟨gb241, 0, none⟩ = some (.slice none 0 0) := (blk_cell BK241.out 0).trans rfl; have hfz113_0 := blk_frozen BK241.out 0))
         refine bodyPost_ret (results_ct rfl _ _ gb241 29 #[.slice none 0 0] (0, 0) _ rfl (by (with_reducible repeat (first | refine blk_drewN ?_ _ | refine blk_drew ?_ | refine blk_alloc ?_ _)); refine blk_put (cs := #[.slice none 0 0]) ?_ 0 _ rfl; (with_reducible repeat (first | refine blk_drewN ?_ _ | refine blk_drew ?_ | refine blk_alloc ?_ _)); exact BK241.out) Try.underlying29 rfl (by kernel_rfl)) rfl ?_
         exact ⟨_, ze, by first | exact Kd.R_nil _ _ _ _ _ | exact Kd.N_nil _ _ _ _ _ | exact Kd.V_nil _ _ _ _ _ | exact Kd.Q_nil _ _ _ _ _ | exact Kd.S_nil _ _ _ _ _, zw HB⟩
       ·rw [if_neg c69] at H
        exact absurd H (by simp)
      ·rw [if_neg c68] at H
       have c68b0 : (a1_0 == 1) = false := beq_eq_false_iff_ne.mpr c68
       have c68b1 : (a1_0 != 1) = true := bne_iff_ne.mpr c68
       by_cases c114 : a1_0 = 2
       ·rw [if_pos c114] at H
        have c114b0 : (a1_0 == 2) = true := beq_iff_eq.mpr c114
        have c114b1 : (a1_0 != 2) = false := bne_eq_false_iff_eq.mpr c114
        clear c114
        replace H := Option.bind_eq_some_iff.mp H
        obtain ⟨t252, A1150, H⟩ := H
        have A115 := Aside0.mk A1150
        clear A1150
        replace H := Option.bind_eq_some_iff.mp H
        obtain ⟨t255, A1160, H⟩ := H
        have A116 := Aside0.mk A1160
        clear A1160
        by_cases c117 : t255 = true
        ·subst c117
         rw [if_pos rfl] at H
         simp only [Option.some.injEq, Prod.mk.injEq] at H
         obtain ⟨rfl, rfl⟩ := H
         go_wp2_with (first | ((with_reducible refine gate_dst (N := 8) rfl ?_); refine zx (N := 8) (cs := #[.slice none 0 0]) (t := 29) ?_; intro gb247 hg w118 hbox hb; have BK247 := Aside0.mk (hbox); have GW247 := zg HB hg; have GE247 := zg HB hg; replace HB := zs HB hb; have NB239_247 := zl BK239 hg; have NB247_239 := zr BK239 hg; replace BK239 := zb BK239 hb; have NB240_247 := zl BK240 hg; have NB247_240 := zr BK240 hg; replace BK240 := zb BK240 hb; have NB241_247 := zl BK241 hg; have NB247_241 := zr BK241 hg; replace BK241 := zb BK241 hb; have NB245_247 := zl BK245 hg; have NB247_245 := zr BK245 hg; replace BK245 := zb BK245 hb; clear hb hbox hg; have hnb119 := NB247_239.out; have hnc119 := NB239_247.out; have hnb120 := NB247_240.out; have hnc120 := NB240_247.out; have hnb121 := NB247_241.out; have hnc121 := NB241_247.out; have hnb122 := NB247_245.out; have hnc122 := NB245_247.out; have hcz123_0 : w118.cell? ⟨gb247, 0, none⟩ = some (.slice none 0 0) := (blk_cell BK247.out 0).trans rfl; have hfz123_0 := blk_frozen BK247.out 0; have hnb124 := NB240_239.out; have hnc124 := NB239_240.out; have hnb125 := NB240_241.out; have hnc125 := NB241_240.out; have hnb126 := NB240_245.out; have hnc126 := NB245_240.out; have hcz127_0 : w118.cell? ⟨gb240, 0, none⟩ = some (.int .i64 a1_0) := (blk_cell BK240.out 0).trans rfl; have hcz127_1 : w118.cell? ⟨gb240, 1, none⟩ = some (.string a1_1) := (blk_cell BK240.out 1).trans rfl; have hcz127_2 : w118.cell? ⟨gb240, 2, none⟩ = some (.string a1_2) := (blk_cell BK240.out 2).trans rfl; have hcz127_3 : w118.cell? ⟨gb240, 3, none⟩ = some (.string a1_3) := (blk_cell BK240.out 3).trans rfl; have hfz127_0 := blk_frozen BK240.out 0; have hfz127_1 := blk_frozen BK240.out 1; have hfz127_2 := blk_frozen BK240.out 2; have hfz127_3 := blk_frozen BK240.out 3; have hnb128 := NB245_239.out; have hnc128 := NB239_245.out; have hnb129 := NB245_241.out; have hnc129 := NB241_245.out; have hcz130_0 : w118.cell? ⟨gb245, 0, none⟩ = some (.string x246000_48) := (blk_cell BK245.out 0).trans rfl; have hcz130_1 : w118.cell? ⟨gb245, 1, none⟩ = some (.string x246001_48) := (blk_cell BK245.out 1).trans rfl; have hcz130_2 : w118.cell? ⟨gb245, 2, none⟩ = some (.int .i64 x246002_48) := (blk_cell BK245.out 2).trans rfl; have hfz130_0 := blk_frozen BK245.out 0; have hfz130_1 := blk_frozen BK245.out 1; have hfz130_2 := blk_frozen BK245.out 2; have hnb131 := NB239_241.out; have hnc131 := NB241_239.out; have hcz132_0 : w118.cell? ⟨gb239, 0, none⟩ = some (.slice A0_0 l0_0.length c0_0) := (blk_cell BK239.out 0).trans rfl; have hfz132_0 := blk_frozen BK239.out 0) | ((with_reducible refine gate_callee (f := 66) rfl ?_); refine zG (some 67) Try.func66 #[.agg #[.slice A0_0 l0_0.length c0_0], .agg #[.string x246000_48, .string x246001_48, .int .i64 (x246001_48.size : Int)]] ?_; (with_reducible refine (impl_withFile.calls _ _ l0_0 x246000_48 x246001_48 (x246001_48.size : Int) t252 _ ?side1 ?side2 A115.out).mono ?_); (case side1 => exact Kd.C_below HR0_0.out (zw HB)); (case side2 => exact HC0_0.out); rintro e w133 ⟨v253, rfl, ho0, hb⟩; refine ⟨_, rfl, ?_⟩; have HO254 := Aside0.mk (Kd.R_lower (Kd.R_newB ho0 (g := gb245) (o := .cells #[.string x246000_48, .string x246001_48, .int .i64 (x246001_48.size : Int)] 45 (0, 0)) (by (with_reducible repeat (first | refine blk_drewN ?_ _ | refine blk_drew ?_ | refine blk_alloc ?_ _)); refine blk_put (cs := #[.string x246000_48, .string x246001_48, .int .i64 x246002_48]) ?_ 2 _ rfl; (with_reducible repeat (first | refine blk_drewN ?_ _ | refine blk_drew ?_ | refine blk_alloc ?_ _)); refine blk_far ?_ NB245_247.out _; (with_reducible repeat (first | refine blk_drewN ?_ _ | refine blk_drew ?_ | refine blk_alloc ?_ _)); exact BK245.out)) (below_size (zw HB))); replace BK239 := zbf BK239 hb; replace BK240 := zbf BK240 hb; replace BK241 := zbf BK241 hb; replace BK245 := Aside0.mk (blk_below (g := gb245) (o := .cells #[.string x246000_48, .string x246001_48, .int .i64 (x246001_48.size : Int)] 45 (0, 0)) (by (with_reducible repeat (first | refine blk_drewN ?_ _ | refine blk_drew ?_ | refine blk_alloc ?_ _)); refine blk_put (cs := #[.string x246000_48, .string x246001_48, .int .i64 x246002_48]) ?_ 2 _ rfl; (with_reducible repeat (first | refine blk_drewN ?_ _ | refine blk_drew ?_ | refine blk_alloc ?_ _)); refine blk_far ?_ NB245_247.out _; (with_reducible repeat (first | refine blk_drewN ?_ _ | refine blk_drew ?_ | refine blk_alloc ?_ _)); exact BK245.out) hb); replace BK247 := Aside0.mk (blk_below (g := gb247) (o := .cells #[.slice none 0 0] 29 (0, 0)) (by (with_reducible repeat (first | refine blk_drewN ?_ _ | refine blk_drew ?_ | refine blk_alloc ?_ _)); refine blk_far ?_ NB247_245.out _; (with_reducible repeat (first | refine blk_drewN ?_ _ | refine blk_drew ?_ | refine blk_alloc ?_ _)); refine blk_put (cs := #[.slice none 0 0]) ?_ 0 _ rfl; (with_reducible repeat (first | refine blk_drewN ?_ _ | refine blk_drew ?_ | refine blk_alloc ?_ _)); exact BK247.out) hb); replace HB := zs HB hb; clear ho0 hb; obtain ⟨Ao134, co134, eo134⟩ := Kd.R_slice HO254.out; subst eo134; have hcz135_0 : w133.cell? ⟨gb247, 0, none⟩ = some (.slice none 0 0) := (blk_cell BK247.out 0).trans rfl; have hfz135_0 := blk_frozen BK247.out 0) | ((with_reducible refine gate_callee (f := 15) rfl ?_); refine zG (some 94) Try.func15 #[.agg #[.slice Ao134 t252.length co134]] ?_; (with_reducible refine (impl_DiskOk.calls kj48 _ _ t252 true _ ?side1 ?side2 A116.out).mono ?_); (case side1 => refine (Kd.R_reads' (e := 45) (base := w.heap.size) (ok := fun k_ => (True ∧ k_ ≠ gb245)) (n := t252.length) (c := co134) ?_).2.2; exact (zo ((Kd.R_mono (Kd.R_far (p := ⟨gb247, 0, none⟩) (Kd.R_types HO254.out BK247.out (by decide)) (fun _ hk => hk.2) (.slice Ao134 t252.length co134)) (fun _ h_ => h_.1))))); (case side2 => exact (Kd.R_reads' HO254.out).2.1); rintro e w136 ⟨rfl, hb⟩; refine ⟨_, rfl, ?_⟩; replace HO254 := Aside0.mk (Kd.R_below (zo ((Kd.R_mono (Kd.R_far (p := ⟨gb247, 0, none⟩) (Kd.R_types HO254.out BK247.out (by decide)) (fun _ hk => hk.2) (.slice Ao134 t252.length co134)) (fun _ h_ => h_.1)))) hb); replace BK239 := zbf BK239 hb; replace BK240 := zbf BK240 hb; replace BK241 := zbf BK241 hb; replace BK245 := zbf BK245 hb; replace BK247 := Aside0.mk (blk_below (g := gb247) (o := .cells #[.slice Ao134 t252.length co134] 29 (0, 0)) (by (with_reducible repeat (first | refine blk_drewN ?_ _ | refine blk_drew ?_ | refine blk_alloc ?_ _)); refine blk_put (cs := #[.slice none 0 0]) ?_ 0 _ rfl; (with_reducible repeat (first | refine blk_drewN ?_ _ | refine blk_drew ?_ | refine blk_alloc ?_ _)); exact BK247.out) hb); replace HB := zs HB hb; clear hb; have hcz137_0 : w136.cell? ⟨gb247, 0, none⟩ = some (.slice Ao134 t252.length co134) := (blk_cell BK247.out 0).trans rfl; have hfz137_0 := blk_frozen BK247.out 0; have hcz138_0 : w136.cell? ⟨gb241, 0, none⟩ = some (.slice none 0 0) := (blk_cell BK241.out 0).trans rfl; have hfz138_0 := blk_frozen BK241.out 0))
         refine bodyPost_ret (results_ct rfl _ _ gb241 29 #[.slice Ao134 t252.length co134] (0, 0) _ rfl (by (with_reducible repeat (first | refine blk_drewN ?_ _ | refine blk_drew ?_ | refine blk_alloc ?_ _)); refine blk_put (cs := #[.slice none 0 0]) ?_ 0 _ rfl; (with_reducible repeat (first | refine blk_drewN ?_ _ | refine blk_drew ?_ | refine blk_alloc ?_ _)); exact BK241.out) Try.underlying29 rfl (by kernel_rfl)) rfl ?_
         exact ⟨_, ze, zo (Kd.R_mono (Kd.R_far (p := ⟨gb241, 0, none⟩) (Kd.R_types HO254.out BK241.out (by decide)) (fun _ hk => hk.2) (.slice Ao134 t252.length co134)) (fun _ hk => trivial)), zw HB⟩
        ·replace c117 := Bool.eq_false_iff.mpr c117
         subst c117
         rw [if_neg (show ¬ (false = true) by decide)] at H
         simp only [Option.some.injEq, Prod.mk.injEq] at H
         obtain ⟨rfl, rfl⟩ := H
         go_wp2_with (first | ((with_reducible refine gate_dst (N := 8) rfl ?_); refine zx (N := 8) (cs := #[.slice none 0 0]) (t := 29) ?_; intro gb247 hg w139 hbox hb; have BK247 := Aside0.mk (hbox); have GW247 := zg HB hg; have GE247 := zg HB hg; replace HB := zs HB hb; have NB239_247 := zl BK239 hg; have NB247_239 := zr BK239 hg; replace BK239 := zb BK239 hb; have NB240_247 := zl BK240 hg; have NB247_240 := zr BK240 hg; replace BK240 := zb BK240 hb; have NB241_247 := zl BK241 hg; have NB247_241 := zr BK241 hg; replace BK241 := zb BK241 hb; have NB245_247 := zl BK245 hg; have NB247_245 := zr BK245 hg; replace BK245 := zb BK245 hb; clear hb hbox hg; have hnb140 := NB247_239.out; have hnc140 := NB239_247.out; have hnb141 := NB247_240.out; have hnc141 := NB240_247.out; have hnb142 := NB247_241.out; have hnc142 := NB241_247.out; have hnb143 := NB247_245.out; have hnc143 := NB245_247.out; have hcz144_0 : w139.cell? ⟨gb247, 0, none⟩ = some (.slice none 0 0) := (blk_cell BK247.out 0).trans rfl; have hfz144_0 := blk_frozen BK247.out 0; have hnb145 := NB240_239.out; have hnc145 := NB239_240.out; have hnb146 := NB240_241.out; have hnc146 := NB241_240.out; have hnb147 := NB240_245.out; have hnc147 := NB245_240.out; have hcz148_0 : w139.cell? ⟨gb240, 0, none⟩ = some (.int .i64 a1_0) := (blk_cell BK240.out 0).trans rfl; have hcz148_1 : w139.cell? ⟨gb240, 1, none⟩ = some (.string a1_1) := (blk_cell BK240.out 1).trans rfl; have hcz148_2 : w139.cell? ⟨gb240, 2, none⟩ = some (.string a1_2) := (blk_cell BK240.out 2).trans rfl; have hcz148_3 : w139.cell? ⟨gb240, 3, none⟩ = some (.string a1_3) := (blk_cell BK240.out 3).trans rfl; have hfz148_0 := blk_frozen BK240.out 0; have hfz148_1 := blk_frozen BK240.out 1; have hfz148_2 := blk_frozen BK240.out 2; have hfz148_3 := blk_frozen BK240.out 3; have hnb149 := NB245_239.out; have hnc149 := NB239_245.out; have hnb150 := NB245_241.out; have hnc150 := NB241_245.out; have hcz151_0 : w139.cell? ⟨gb245, 0, none⟩ = some (.string x246000_48) := (blk_cell BK245.out 0).trans rfl; have hcz151_1 : w139.cell? ⟨gb245, 1, none⟩ = some (.string x246001_48) := (blk_cell BK245.out 1).trans rfl; have hcz151_2 : w139.cell? ⟨gb245, 2, none⟩ = some (.int .i64 x246002_48) := (blk_cell BK245.out 2).trans rfl; have hfz151_0 := blk_frozen BK245.out 0; have hfz151_1 := blk_frozen BK245.out 1; have hfz151_2 := blk_frozen BK245.out 2; have hnb152 := NB239_241.out; have hnc152 := NB241_239.out; have hcz153_0 : w139.cell? ⟨gb239, 0, none⟩ = some (.slice A0_0 l0_0.length c0_0) := (blk_cell BK239.out 0).trans rfl; have hfz153_0 := blk_frozen BK239.out 0) | ((with_reducible refine gate_callee (f := 66) rfl ?_); refine zG (some 67) Try.func66 #[.agg #[.slice A0_0 l0_0.length c0_0], .agg #[.string x246000_48, .string x246001_48, .int .i64 (x246001_48.size : Int)]] ?_; (with_reducible refine (impl_withFile.calls _ _ l0_0 x246000_48 x246001_48 (x246001_48.size : Int) t252 _ ?side1 ?side2 A115.out).mono ?_); (case side1 => exact Kd.C_below HR0_0.out (zw HB)); (case side2 => exact HC0_0.out); rintro e w154 ⟨v253, rfl, ho0, hb⟩; refine ⟨_, rfl, ?_⟩; have HO254 := Aside0.mk (Kd.R_lower (Kd.R_newB ho0 (g := gb245) (o := .cells #[.string x246000_48, .string x246001_48, .int .i64 (x246001_48.size : Int)] 45 (0, 0)) (by (with_reducible repeat (first | refine blk_drewN ?_ _ | refine blk_drew ?_ | refine blk_alloc ?_ _)); refine blk_put (cs := #[.string x246000_48, .string x246001_48, .int .i64 x246002_48]) ?_ 2 _ rfl; (with_reducible repeat (first | refine blk_drewN ?_ _ | refine blk_drew ?_ | refine blk_alloc ?_ _)); refine blk_far ?_ NB245_247.out _; (with_reducible repeat (first | refine blk_drewN ?_ _ | refine blk_drew ?_ | refine blk_alloc ?_ _)); exact BK245.out)) (below_size (zw HB))); replace BK239 := zbf BK239 hb; replace BK240 := zbf BK240 hb; replace BK241 := zbf BK241 hb; replace BK245 := Aside0.mk (blk_below (g := gb245) (o := .cells #[.string x246000_48, .string x246001_48, .int .i64 (x246001_48.size : Int)] 45 (0, 0)) (by (with_reducible repeat (first | refine blk_drewN ?_ _ | refine blk_drew ?_ | refine blk_alloc ?_ _)); refine blk_put (cs := #[.string x246000_48, .string x246001_48, .int .i64 x246002_48]) ?_ 2 _ rfl; (with_reducible repeat (first | refine blk_drewN ?_ _ | refine blk_drew ?_ | refine blk_alloc ?_ _)); refine blk_far ?_ NB245_247.out _; (with_reducible repeat (first | refine blk_drewN ?_ _ | refine blk_drew ?_ | refine blk_alloc ?_ _)); exact BK245.out) hb); replace BK247 := Aside0.mk (blk_below (g := gb247) (o := .cells #[.slice none 0 0] 29 (0, 0)) (by (with_reducible repeat (first | refine blk_drewN ?_ _ | refine blk_drew ?_ | refine blk_alloc ?_ _)); refine blk_far ?_ NB247_245.out _; (with_reducible repeat (first | refine blk_drewN ?_ _ | refine blk_drew ?_ | refine blk_alloc ?_ _)); refine blk_put (cs := #[.slice none 0 0]) ?_ 0 _ rfl; (with_reducible repeat (first | refine blk_drewN ?_ _ | refine blk_drew ?_ | refine blk_alloc ?_ _)); exact BK247.out) hb); replace HB := zs HB hb; clear ho0 hb; obtain ⟨Ao155, co155, eo155⟩ := Kd.R_slice HO254.out; subst eo155; have hcz156_0 : w154.cell? ⟨gb247, 0, none⟩ = some (.slice none 0 0) := (blk_cell BK247.out 0).trans rfl; have hfz156_0 := blk_frozen BK247.out 0) | ((with_reducible refine gate_callee (f := 15) rfl ?_); refine zG (some 94) Try.func15 #[.agg #[.slice Ao155 t252.length co155]] ?_; (with_reducible refine (impl_DiskOk.calls kj48 _ _ t252 false _ ?side1 ?side2 A116.out).mono ?_); (case side1 => refine (Kd.R_reads' (e := 45) (base := w.heap.size) (ok := fun k_ => (True ∧ k_ ≠ gb245)) (n := t252.length) (c := co155) ?_).2.2; exact (zo ((Kd.R_mono (Kd.R_far (p := ⟨gb247, 0, none⟩) (Kd.R_types HO254.out BK247.out (by decide)) (fun _ hk => hk.2) (.slice Ao155 t252.length co155)) (fun _ h_ => h_.1))))); (case side2 => exact (Kd.R_reads' HO254.out).2.1); rintro e w157 ⟨rfl, hb⟩; refine ⟨_, rfl, ?_⟩; replace HO254 := Aside0.mk (Kd.R_below (zo ((Kd.R_mono (Kd.R_far (p := ⟨gb247, 0, none⟩) (Kd.R_types HO254.out BK247.out (by decide)) (fun _ hk => hk.2) (.slice Ao155 t252.length co155)) (fun _ h_ => h_.1)))) hb); replace BK239 := zbf BK239 hb; replace BK240 := zbf BK240 hb; replace BK241 := zbf BK241 hb; replace BK245 := zbf BK245 hb; replace BK247 := Aside0.mk (blk_below (g := gb247) (o := .cells #[.slice Ao155 t252.length co155] 29 (0, 0)) (by (with_reducible repeat (first | refine blk_drewN ?_ _ | refine blk_drew ?_ | refine blk_alloc ?_ _)); refine blk_put (cs := #[.slice none 0 0]) ?_ 0 _ rfl; (with_reducible repeat (first | refine blk_drewN ?_ _ | refine blk_drew ?_ | refine blk_alloc ?_ _)); exact BK247.out) hb); replace HB := zs HB hb; clear hb; have hcz158_0 : w157.cell? ⟨gb241, 0, none⟩ = some (.slice none 0 0) := (blk_cell BK241.out 0).trans rfl; have hfz158_0 := blk_frozen BK241.out 0))
         refine bodyPost_ret (results_ct rfl _ _ gb241 29 #[.slice none 0 0] (0, 0) _ rfl (by (with_reducible repeat (first | refine blk_drewN ?_ _ | refine blk_drew ?_ | refine blk_alloc ?_ _)); refine blk_put (cs := #[.slice none 0 0]) ?_ 0 _ rfl; (with_reducible repeat (first | refine blk_drewN ?_ _ | refine blk_drew ?_ | refine blk_alloc ?_ _)); exact BK241.out) Try.underlying29 rfl (by kernel_rfl)) rfl ?_
         exact ⟨_, ze, by first | exact Kd.R_nil _ _ _ _ _ | exact Kd.N_nil _ _ _ _ _ | exact Kd.V_nil _ _ _ _ _ | exact Kd.Q_nil _ _ _ _ _ | exact Kd.S_nil _ _ _ _ _, zw HB⟩
       ·rw [if_neg c114] at H
        have c114b0 : (a1_0 == 2) = false := beq_eq_false_iff_ne.mpr c114
        have c114b1 : (a1_0 != 2) = true := bne_iff_ne.mpr c114
        by_cases c159 : a1_0 = 3
        ·rw [if_pos c159] at H
         have c159b0 : (a1_0 == 3) = true := beq_iff_eq.mpr c159
         have c159b1 : (a1_0 != 3) = false := bne_eq_false_iff_eq.mpr c159
         clear c159
         have HC160 := Aside0.mk H
         clear H
         go_upto_region 17 with (first | ((with_reducible refine gate_dst (N := 8) rfl ?_); refine zx (N := 8) (cs := #[.slice none 0 0]) (t := 29) ?_; intro gb247 hg w161 hbox hb; have BK247 := Aside0.mk (hbox); have GW247 := zg HB hg; have GE247 := zg HB hg; replace HB := zs HB hb; have NB239_247 := zl BK239 hg; have NB247_239 := zr BK239 hg; replace BK239 := zb BK239 hb; have NB240_247 := zl BK240 hg; have NB247_240 := zr BK240 hg; replace BK240 := zb BK240 hb; have NB241_247 := zl BK241 hg; have NB247_241 := zr BK241 hg; replace BK241 := zb BK241 hb; have NB245_247 := zl BK245 hg; have NB247_245 := zr BK245 hg; replace BK245 := zb BK245 hb; clear hb hbox hg; have hnb162 := NB247_239.out; have hnc162 := NB239_247.out; have hnb163 := NB247_240.out; have hnc163 := NB240_247.out; have hnb164 := NB247_241.out; have hnc164 := NB241_247.out; have hnb165 := NB247_245.out; have hnc165 := NB245_247.out; have hcz166_0 : w161.cell? ⟨gb247, 0, none⟩ = some (.slice none 0 0) := (blk_cell BK247.out 0).trans rfl; have hfz166_0 := blk_frozen BK247.out 0; have hnb167 := NB240_239.out; have hnc167 := NB239_240.out; have hnb168 := NB240_241.out; have hnc168 := NB241_240.out; have hnb169 := NB240_245.out; have hnc169 := NB245_240.out; have hcz170_0 : w161.cell? ⟨gb240, 0, none⟩ = some (.int .i64 a1_0) := (blk_cell BK240.out 0).trans rfl; have hcz170_1 : w161.cell? ⟨gb240, 1, none⟩ = some (.string a1_1) := (blk_cell BK240.out 1).trans rfl; have hcz170_2 : w161.cell? ⟨gb240, 2, none⟩ = some (.string a1_2) := (blk_cell BK240.out 2).trans rfl; have hcz170_3 : w161.cell? ⟨gb240, 3, none⟩ = some (.string a1_3) := (blk_cell BK240.out 3).trans rfl; have hfz170_0 := blk_frozen BK240.out 0; have hfz170_1 := blk_frozen BK240.out 1; have hfz170_2 := blk_frozen BK240.out 2; have hfz170_3 := blk_frozen BK240.out 3))
         (try simp only [Act.put, zA, zB, zC])
         go_cut [82] (fun v82 wc => ∃ (kq : Nat) (x82_159 : Bool), v82 = .bool x82_159 ∧ Aside0 (impl_DoAct.j2 kq x82_159 l0_0 a1_0 a1_1 a1_2 a1_3 x246000_48 x246001_48 x246002_48 = some (r1, r2)) ∧ Aside0 (kq ≤ kj48) ∧ Aside0 (wc.heap[gb239]? = some (.cells #[(.slice A0_0 l0_0.length c0_0)] 29 (0, 0))) ∧ Aside0 (wc.heap[gb240]? = some (.cells #[.int .i64 a1_0, .string a1_1, .string a1_2, .string a1_3] 55 (0, 0))) ∧ Aside0 (wc.heap[gb241]? = some (.cells #[(.slice none 0 0)] 29 (0, 0))) ∧ Aside0 (wc.heap[gb245]? = some (.cells #[.string x246000_48, .string x246001_48, .int .i64 x246002_48] 45 (0, 0))) ∧ Aside0 (wc.heap[gb247]? = some (.cells #[(.slice none 0 0)] 29 (0, 0))) ∧ Aside0 (Below w.heap.size w wc))
         case first =>
          have H := HC160.out
          clear HC160
          by_cases c171 : x246002_48 = (x246001_48.size : Int)
          ·rw [if_pos c171] at H
           have c171b0 : (x246002_48 == (x246001_48.size : Int)) = true := beq_iff_eq.mpr c171
           have c171b1 : (x246002_48 != (x246001_48.size : Int)) = false := bne_eq_false_iff_eq.mpr c171
           clear c171
           (first | rw [c171b0] | (simp only [i64_w, i32_w]; rw [c171b0]) | skip)
           have H' := Aside0.mk H
           clear H
           have hnb172 := NB245_239.out
           have hnc172 := NB239_245.out
           have hnb173 := NB245_240.out
           have hnc173 := NB240_245.out
           have hnb174 := NB245_241.out
           have hnc174 := NB241_245.out
           have hnb175 := NB245_247.out
           have hnc175 := NB247_245.out
           have hcz176_0 : w161.cell? ⟨gb245, 0, none⟩ = some (.string x246000_48) := (blk_cell BK245.out 0).trans rfl
           have hcz176_1 : w161.cell? ⟨gb245, 1, none⟩ = some (.string x246001_48) := (blk_cell BK245.out 1).trans rfl
           have hcz176_2 : w161.cell? ⟨gb245, 2, none⟩ = some (.int .i64 x246002_48) := (blk_cell BK245.out 2).trans rfl
           have hfz176_0 := blk_frozen BK245.out 0
           have hfz176_1 := blk_frozen BK245.out 1
           have hfz176_2 := blk_frozen BK245.out 2
           have hnb177 := NB240_239.out
           have hnc177 := NB239_240.out
           have hnb178 := NB240_241.out
           have hnc178 := NB241_240.out
           have hnb179 := NB240_247.out
           have hnc179 := NB247_240.out
           have hcz180_0 : w161.cell? ⟨gb240, 0, none⟩ = some (.int .i64 a1_0) := (blk_cell BK240.out 0).trans rfl
           have hcz180_1 : w161.cell? ⟨gb240, 1, none⟩ = some (.string a1_1) := (blk_cell BK240.out 1).trans rfl
           have hcz180_2 : w161.cell? ⟨gb240, 2, none⟩ = some (.string a1_2) := (blk_cell BK240.out 2).trans rfl
           have hcz180_3 : w161.cell? ⟨gb240, 3, none⟩ = some (.string a1_3) := (blk_cell BK240.out 3).trans rfl
           have hfz180_0 := blk_frozen BK240.out 0
           have hfz180_1 := blk_frozen BK240.out 1
           have hfz180_2 := blk_frozen BK240.out 2
           have hfz180_3 := blk_frozen BK240.out 3
           go_wp2
           go_meet
           case rel => exact ⟨_, ((a1_3.toList == a1_1.toList)), zf, H', ⟨by have := HJ3.out; have := HJ48.out; first | omega | exact Nat.le_refl _⟩, ⟨zkf BK239⟩, ⟨zkf BK240⟩, ⟨zkf BK241⟩, ⟨zkf BK245⟩, ⟨by (with_reducible repeat (first | refine blk_drewN ?_ _ | refine blk_drew ?_ | refine blk_alloc ?_ _)); refine blk_put (cs := #[.slice none 0 0]) ?_ 0 _ rfl; (with_reducible repeat (first | refine blk_drewN ?_ _ | refine blk_drew ?_ | refine blk_alloc ?_ _)); exact BK247.out⟩, ⟨zw HB⟩⟩
          ·rw [if_neg c171] at H
           have c171b0 : (x246002_48 == (x246001_48.size : Int)) = false := beq_eq_false_iff_ne.mpr c171
           have c171b1 : (x246002_48 != (x246001_48.size : Int)) = true := bne_iff_ne.mpr c171
           (first | rw [c171b0] | (simp only [i64_w, i32_w]; rw [c171b0]) | skip)
           have H' := Aside0.mk H
           clear H
           have hnb181 := NB245_239.out
           have hnc181 := NB239_245.out
           have hnb182 := NB245_240.out
           have hnc182 := NB240_245.out
           have hnb183 := NB245_241.out
           have hnc183 := NB241_245.out
           have hnb184 := NB245_247.out
           have hnc184 := NB247_245.out
           have hcz185_0 : w161.cell? ⟨gb245, 0, none⟩ = some (.string x246000_48) := (blk_cell BK245.out 0).trans rfl
           have hcz185_1 : w161.cell? ⟨gb245, 1, none⟩ = some (.string x246001_48) := (blk_cell BK245.out 1).trans rfl
           have hcz185_2 : w161.cell? ⟨gb245, 2, none⟩ = some (.int .i64 x246002_48) := (blk_cell BK245.out 2).trans rfl
           have hfz185_0 := blk_frozen BK245.out 0
           have hfz185_1 := blk_frozen BK245.out 1
           have hfz185_2 := blk_frozen BK245.out 2
           go_wp2
           go_meet
           case rel => exact ⟨_, (true), zf, H', ⟨by have := HJ3.out; have := HJ48.out; first | omega | exact Nat.le_refl _⟩, ⟨zkf BK239⟩, ⟨zkf BK240⟩, ⟨zkf BK241⟩, ⟨zkf BK245⟩, ⟨by (with_reducible repeat (first | refine blk_drewN ?_ _ | refine blk_drew ?_ | refine blk_alloc ?_ _)); refine blk_put (cs := #[.slice none 0 0]) ?_ 0 _ rfl; (with_reducible repeat (first | refine blk_drewN ?_ _ | refine blk_drew ?_ | refine blk_alloc ?_ _)); exact BK247.out⟩, ⟨zw HB⟩⟩
         case rest =>
          clear HC160
          try clear c1
          try clear c2
          try clear p2
          try clear q2
          try clear hx2
          try clear c3
          try clear c4
          try clear c5
          try clear c6
          try clear c7
          try clear c8
          try clear c9
          try clear c10
          try clear c11
          try clear c12
          try clear c13
          try clear c14
          try clear c15
          try clear c16
          try clear c17
          try clear c18
          try clear c18b0
          try clear c19
          try clear c20
          try clear c23
          try clear p24
          try clear q24
          try clear hx24
          try clear c27
          try clear c28
          try clear c31
          try clear c34
          try clear c35
          try clear c37
          try clear c38
          try clear c41
          try clear c42
          try clear c45
          try clear c46
          try clear c47
          try clear c50
          try clear c51
          try clear c54
          try clear c55
          try clear c56
          try clear c58
          try clear c58b0
          try clear c59
          try clear c59b0
          try clear c60
          try clear c60b0
          try clear c61
          try clear c62
          try clear c63
          try clear c65
          try clear c66
          try clear c68
          try clear c68b0
          try clear c68b1
          try clear c69
          try clear c69b0
          try clear c69b1
          try clear c69b2
          try clear c72
          try clear c74
          try clear c75
          try clear c76
          try clear c77
          try clear c79
          try clear c80
          try clear c81
          try clear c83
          try clear c84
          try clear c86
          try clear c95
          try clear c96
          try clear c97
          try clear c98
          try clear c100
          try clear c101
          try clear c102
          try clear c104
          try clear c105
          try clear c107
          try clear c114
          try clear c114b0
          try clear c114b1
          try clear c117
          try clear c119
          try clear c120
          try clear c121
          try clear c122
          try clear c124
          try clear c125
          try clear c126
          try clear c128
          try clear c129
          try clear c131
          try clear c140
          try clear c141
          try clear c142
          try clear c143
          try clear c145
          try clear c146
          try clear c147
          try clear c149
          try clear c150
          try clear c152
          try clear c159
          try clear c159b0
          try clear c159b1
          try clear c162
          try clear c163
          try clear c164
          try clear c165
          try clear c167
          try clear c168
          try clear c169
          try clear c171
          try clear c171b0
          try clear c171b1
          try clear c172
          try clear c173
          try clear c174
          try clear c175
          try clear c177
          try clear c178
          try clear c179
          try clear c181
          try clear c182
          try clear c183
          try clear c184
          try clear hcz103_0
          try clear hcz103_1
          try clear hcz103_2
          try clear hcz103_3
          try clear hcz106_0
          try clear hcz106_1
          try clear hcz106_2
          try clear hcz108_0
          try clear hcz10_0
          try clear hcz111_0
          try clear hcz113_0
          try clear hcz123_0
          try clear hcz127_0
          try clear hcz127_1
          try clear hcz127_2
          try clear hcz127_3
          try clear hcz12_0
          try clear hcz12_1
          try clear hcz12_2
          try clear hcz12_3
          try clear hcz130_0
          try clear hcz130_1
          try clear hcz130_2
          try clear hcz132_0
          try clear hcz135_0
          try clear hcz137_0
          try clear hcz138_0
          try clear hcz144_0
          try clear hcz148_0
          try clear hcz148_1
          try clear hcz148_2
          try clear hcz148_3
          try clear hcz151_0
          try clear hcz151_1
          try clear hcz151_2
          try clear hcz153_0
          try clear hcz156_0
          try clear hcz158_0
          try clear hcz166_0
          try clear hcz170_0
          try clear hcz170_1
          try clear hcz170_2
          try clear hcz170_3
          try clear hcz176_0
          try clear hcz176_1
          try clear hcz176_2
          try clear hcz180_0
          try clear hcz180_1
          try clear hcz180_2
          try clear hcz180_3
          try clear hcz185_0
          try clear hcz185_1
          try clear hcz185_2
          try clear hcz21_0
          try clear hcz24_0
          try clear hcz24_1
          try clear hcz24_2
          try clear hcz24_3
          try clear hcz26_0
          try clear hcz26_1
          try clear hcz26_2
          try clear hcz26_3
          try clear hcz29_0
          try clear hcz32_0
          try clear hcz32_1
          try clear hcz32_2
          try clear hcz32_3
          try clear hcz36_0
          try clear hcz39_0
          try clear hcz39_1
          try clear hcz39_2
          try clear hcz39_3
          try clear hcz43_0
          try clear hcz48_0
          try clear hcz52_0
          try clear hcz52_1
          try clear hcz52_2
          try clear hcz52_3
          try clear hcz57_0
          try clear hcz57_1
          try clear hcz57_2
          try clear hcz64_0
          try clear hcz67_0
          try clear hcz67_1
          try clear hcz67_2
          try clear hcz78_0
          try clear hcz82_0
          try clear hcz82_1
          try clear hcz82_2
          try clear hcz82_3
          try clear hcz85_0
          try clear hcz85_1
          try clear hcz85_2
          try clear hcz87_0
          try clear hcz90_0
          try clear hcz92_0
          try clear hcz93_0
          try clear hcz99_0
          try clear hfz103_0
          try clear hfz103_1
          try clear hfz103_2
          try clear hfz103_3
          try clear hfz106_0
          try clear hfz106_1
          try clear hfz106_2
          try clear hfz108_0
          try clear hfz10_0
          try clear hfz111_0
          try clear hfz113_0
          try clear hfz123_0
          try clear hfz127_0
          try clear hfz127_1
          try clear hfz127_2
          try clear hfz127_3
          try clear hfz12_0
          try clear hfz12_1
          try clear hfz12_2
          try clear hfz12_3
          try clear hfz130_0
          try clear hfz130_1
          try clear hfz130_2
          try clear hfz132_0
          try clear hfz135_0
          try clear hfz137_0
          try clear hfz138_0
          try clear hfz144_0
          try clear hfz148_0
          try clear hfz148_1
          try clear hfz148_2
          try clear hfz148_3
          try clear hfz151_0
          try clear hfz151_1
          try clear hfz151_2
          try clear hfz153_0
          try clear hfz156_0
          try clear hfz158_0
          try clear hfz166_0
          try clear hfz170_0
          try clear hfz170_1
          try clear hfz170_2
          try clear hfz170_3
          try clear hfz176_0
          try clear hfz176_1
          try clear hfz176_2
          try clear hfz180_0
          try clear hfz180_1
          try clear hfz180_2
          try clear hfz180_3
          try clear hfz185_0
          try clear hfz185_1
          try clear hfz185_2
          try clear hfz21_0
          try clear hfz24_0
          try clear hfz24_1
          try clear hfz24_2
          try clear hfz24_3
          try clear hfz26_0
          try clear hfz26_1
          try clear hfz26_2
          try clear hfz26_3
          try clear hfz29_0
          try clear hfz32_0
          try clear hfz32_1
          try clear hfz32_2
          try clear hfz32_3
          try clear hfz36_0
          try clear hfz39_0
          try clear hfz39_1
          try clear hfz39_2
          try clear hfz39_3
          try clear hfz43_0
          try clear hfz48_0
          try clear hfz52_0
          try clear hfz52_1
          try clear hfz52_2
          try clear hfz52_3
          try clear hfz57_0
          try clear hfz57_1
          try clear hfz57_2
          try clear hfz64_0
          try clear hfz67_0
          try clear hfz67_1
          try clear hfz67_2
          try clear hfz78_0
          try clear hfz82_0
          try clear hfz82_1
          try clear hfz82_2
          try clear hfz82_3
          try clear hfz85_0
          try clear hfz85_1
          try clear hfz85_2
          try clear hfz87_0
          try clear hfz90_0
          try clear hfz92_0
          try clear hfz93_0
          try clear hfz99_0
          try clear hx246_0
          try clear hx246_1
          try clear hx246_2
          try clear p2
          try clear p24
          try clear p246
          try clear q2
          try clear q24
          try clear q246
          obtain ⟨kq, x82_159, rfl, HA, HJ159, BK239, BK240, BK241, BK245, BK247, HB⟩ := hcut
          cases kq with
          | zero => exact absurd HA.out (by simp [impl_DoAct.j2])
          | succ kj159 =>
           have H := HA.out
           clear HA
           simp only [impl_DoAct.j2] at H
           by_cases c186 : x82_159 = true
           ·subst c186
            rw [if_pos rfl] at H
            simp only [Option.some.injEq, Prod.mk.injEq] at H
            obtain ⟨rfl, rfl⟩ := H
            have hnb187 := NB241_239.out
            have hnc187 := NB239_241.out
            have hnb188 := NB241_240.out
            have hnc188 := NB240_241.out
            have hnb189 := NB241_245.out
            have hnc189 := NB245_241.out
            have hnb190 := NB241_247.out
            have hnc190 := NB247_241.out
            have hcz191_0 : wc.cell? ⟨gb241, 0, none⟩ = some (.slice none 0 0) := (blk_cell BK241.out 0).trans rfl
            have hfz191_0 := blk_frozen BK241.out 0
            go_wp2
            refine bodyPost_ret (results_ct rfl _ _ gb241 29 #[.slice none 0 0] (0, 0) _ rfl (by (with_reducible repeat (first | refine blk_drewN ?_ _ | refine blk_drew ?_ | refine blk_alloc ?_ _)); refine blk_put (cs := #[.slice none 0 0]) ?_ 0 _ rfl; (with_reducible repeat (first | refine blk_drewN ?_ _ | refine blk_drew ?_ | refine blk_alloc ?_ _)); exact BK241.out) Try.underlying29 rfl (by kernel_rfl)) rfl ?_
            exact ⟨_, ze, by first | exact Kd.R_nil _ _ _ _ _ | exact Kd.N_nil _ _ _ _ _ | exact Kd.V_nil _ _ _ _ _ | exact Kd.Q_nil _ _ _ _ _ | exact Kd.S_nil _ _ _ _ _, zw HB⟩
           ·replace c186 := Bool.eq_false_iff.mpr c186
            subst c186
            rw [if_neg (show ¬ (false = true) by decide)] at H
            replace H := Option.bind_eq_some_iff.mp H
            obtain ⟨t256, A1920, H⟩ := H
            have A192 := Aside0.mk A1920
            clear A1920
            replace H := Option.bind_eq_some_iff.mp H
            obtain ⟨t259, A1930, H⟩ := H
            have A193 := Aside0.mk A1930
            clear A1930
            replace H := Option.bind_eq_some_iff.mp H
            obtain ⟨t262, A1940, H⟩ := H
            have A194 := Aside0.mk A1940
            clear A1940
            by_cases c195 : t262 = true
            ·subst c195
             rw [if_pos rfl] at H
             simp only [Option.some.injEq, Prod.mk.injEq] at H
             obtain ⟨rfl, rfl⟩ := H
             have hnb196 := NB240_239.out
             have hnc196 := NB239_240.out
             have hnb197 := NB240_241.out
             have hnc197 := NB241_240.out
             have hnb198 := NB240_245.out
             have hnc198 := NB245_240.out
             have hnb199 := NB240_247.out
             have hnc199 := NB247_240.out
             have hcz200_0 : wc.cell? ⟨gb240, 0, none⟩ = some (.int .i64 a1_0) := (blk_cell BK240.out 0).trans rfl
             have hcz200_1 : wc.cell? ⟨gb240, 1, none⟩ = some (.string a1_1) := (blk_cell BK240.out 1).trans rfl
             have hcz200_2 : wc.cell? ⟨gb240, 2, none⟩ = some (.string a1_2) := (blk_cell BK240.out 2).trans rfl
             have hcz200_3 : wc.cell? ⟨gb240, 3, none⟩ = some (.string a1_3) := (blk_cell BK240.out 3).trans rfl
             have hfz200_0 := blk_frozen BK240.out 0
             have hfz200_1 := blk_frozen BK240.out 1
             have hfz200_2 := blk_frozen BK240.out 2
             have hfz200_3 := blk_frozen BK240.out 3
             have hnb201 := NB245_239.out
             have hnc201 := NB239_245.out
             have hnb202 := NB245_241.out
             have hnc202 := NB241_245.out
             have hnb203 := NB245_247.out
             have hnc203 := NB247_245.out
             have hcz204_0 : wc.cell? ⟨gb245, 0, none⟩ = some (.string x246000_48) := (blk_cell BK245.out 0).trans rfl
             have hcz204_1 : wc.cell? ⟨gb245, 1, none⟩ = some (.string x246001_48) := (blk_cell BK245.out 1).trans rfl
             have hcz204_2 : wc.cell? ⟨gb245, 2, none⟩ = some (.int .i64 x246002_48) := (blk_cell BK245.out 2).trans rfl
             have hfz204_0 := blk_frozen BK245.out 0
             have hfz204_1 := blk_frozen BK245.out 1
             have hfz204_2 := blk_frozen BK245.out 2
             try go_wp2
             have n0_ : Aside0 ((wc.setCell ⟨gb245, 0, none⟩ (.string a1_3)).heap[gb239]? = some (.cells #[.slice A0_0 l0_0.length c0_0] 29 (0, 0))) := ⟨zkf BK239⟩
             have n1_ : Aside0 ((wc.setCell ⟨gb245, 0, none⟩ (.string a1_3)).heap[gb240]? = some (.cells #[.int .i64 a1_0, .string a1_1, .string a1_2, .string a1_3] 55 (0, 0))) := ⟨zkf BK240⟩
             have n2_ : Aside0 ((wc.setCell ⟨gb245, 0, none⟩ (.string a1_3)).heap[gb241]? = some (.cells #[.slice none 0 0] 29 (0, 0))) := ⟨zkf BK241⟩
             have n3_ : Aside0 ((wc.setCell ⟨gb245, 0, none⟩ (.string a1_3)).heap[gb245]? = some (.cells #[.string a1_3, .string x246001_48, .int .i64 x246002_48] 45 (0, 0))) := ⟨by (with_reducible repeat (first | refine blk_drewN ?_ _ | refine blk_drew ?_ | refine blk_alloc ?_ _)); refine blk_put (cs := #[.string x246000_48, .string x246001_48, .int .i64 x246002_48]) ?_ 0 _ rfl; (with_reducible repeat (first | refine blk_drewN ?_ _ | refine blk_drew ?_ | refine blk_alloc ?_ _)); exact BK245.out⟩
             have n4_ : Aside0 ((wc.setCell ⟨gb245, 0, none⟩ (.string a1_3)).heap[gb247]? = some (.cells #[.slice none 0 0] 29 (0, 0))) := ⟨zkf BK247⟩
             have n5_ : Aside0 (Below w.heap.size w (wc.setCell ⟨gb245, 0, none⟩ (.string a1_3))) := ⟨zw HB⟩
             (try clear BK239)
             (try clear BK240)
             (try clear BK241)
             (try clear BK245)
             (try clear BK247)
             (try clear HB)
             generalize (wc.setCell ⟨gb245, 0, none⟩ (.string a1_3)) = w205 at n0_ n1_ n2_ n3_ n4_ n5_ ⊢
             have BK239 := n0_
             have BK240 := n1_
             have BK241 := n2_
             have BK245 := n3_
             have BK247 := n4_
             have HB := n5_
             clear n0_ n1_ n2_ n3_ n4_ n5_
             replace BK239 := Aside0.mk (blk_drew BK239.out)
             replace BK240 := Aside0.mk (blk_drew BK240.out)
             replace BK241 := Aside0.mk (blk_drew BK241.out)
             replace BK245 := Aside0.mk (blk_drew BK245.out)
             replace BK247 := Aside0.mk (blk_drew BK247.out)
             replace HB := Aside0.mk (below_drew1 HB.out)
             refine start_ (n := 7) (S := fun w' => w'.cell? ⟨gb239, 0, none⟩ = some (.slice A0_0 l0_0.length c0_0) ∧ w'.cell? ⟨gb240, 0, none⟩ = some (.int .i64 a1_0) ∧ w'.cell? ⟨gb240, 1, none⟩ = some (.string a1_1) ∧ w'.cell? ⟨gb240, 2, none⟩ = some (.string a1_2) ∧ w'.cell? ⟨gb240, 3, none⟩ = some (.string a1_3) ∧ w'.cell? ⟨gb245, 0, none⟩ = some (.string a1_3) ∧ w'.cell? ⟨gb245, 1, none⟩ = some (.string x246001_48) ∧ w'.cell? ⟨gb245, 2, none⟩ = some (.int .i64 x246002_48)) (ds := []) q14_0 (by kernel_rfl) rfl rfl ⟨(blk_cell BK239.out 0).trans rfl, (blk_cell BK240.out 0).trans rfl, (blk_cell BK240.out 1).trans rfl, (blk_cell BK240.out 2).trans rfl, (blk_cell BK240.out 3).trans rfl, (blk_cell BK245.out 0).trans rfl, (blk_cell BK245.out 1).trans rfl, (blk_cell BK245.out 2).trans rfl⟩ (fun hHeld => ?_)
             generalize w205.drew = w206 at BK239 BK240 BK241 BK245 BK247 HB hHeld ⊢
             refine pure_ (i := 1) (N := some 88) (v := ?_) (a' := ?_) q14_1 rfl rfl (by kernel_rfl) (fun _ _ _ h => h) (Or.inl ⟨by rfl, ?_⟩) ?_ ?_
             rotate_left
             ·intro w'
              go_simp
              with_reducible rfl
             rotate_left
             ·simp only [Act.put, zA, zB, zC, i64_w, i32_w]
              rfl
             refine take_ (i := 0) (N := some 87) (v := ?_) (a' := ?_) q14_2 rfl rfl (by kernel_rfl) (fun _ _ _ h => h) (Or.inl ⟨by rfl, ?_⟩) hHeld ?_ ?_
             rotate_left
             ·rintro w' ⟨s0, s1, s2, s3, s4, s5, s6, s7⟩
              go_simp
              with_reducible rfl
             rotate_left
             ·simp only [Act.put, zA, zB, zC, i64_w, i32_w]
              rfl
             refine take_ (i := 2) (N := some 89) (v := ?_) (a' := ?_) q14_3 rfl rfl (by kernel_rfl) (fun _ _ _ h => h) (Or.inl ⟨by rfl, ?_⟩) hHeld ?_ ?_
             rotate_left
             ·rintro w' ⟨s0, s1, s2, s3, s4, s5, s6, s7⟩
              go_simp
              with_reducible rfl
             rotate_left
             ·simp only [Act.put, zA, zB, zC, i64_w, i32_w]
              rfl
             refine take_ (i := 4) (N := some 91) (v := ?_) (a' := ?_) q14_4 rfl rfl (by kernel_rfl) (fun _ _ _ h => h) (Or.inl ⟨by rfl, ?_⟩) hHeld ?_ ?_
             rotate_left
             ·rintro w' ⟨s0, s1, s2, s3, s4, s5, s6, s7⟩
              go_simp
              with_reducible rfl
             rotate_left
             ·simp only [Act.put, zA, zB, zC, i64_w, i32_w]
              rfl
             refine one_ (i := 3) (N := some 90) q14_5 rfl rfl (by kernel_rfl) (by decide) (fun K hK => ?_)
             refine zH Try.func67 #[.agg #[.slice A0_0 l0_0.length c0_0], .string a1_1] ?_
             with_reducible refine (impl_withoutFile.calls _ _ l0_0 a1_1 t256 _ ?side1 ?side2 A192.out).mono ?_
             (case side1 => exact zI (Kd.C_below HR0_0.out HB.out))
             (case side2 => exact HC0_0.out)
             rintro e w207 ⟨v257, rfl, ho0, hb⟩
             refine ⟨_, rfl, ?_⟩
             have HO258 := Aside0.mk (Kd.R_lower (Kd.R_newB ho0 (g := gb245) (o := .cells #[.string a1_3, .string x246001_48, .int .i64 x246002_48] 45 (0, 0)) (zk BK245)) (below_size (zw HB)))
             replace BK239 := zb BK239 hb
             replace BK240 := zb BK240 hb
             replace BK241 := zb BK241 hb
             replace BK245 := zb BK245 hb
             replace BK247 := zb BK247 hb
             replace HB := zs HB hb
             (try clear hb)
             (try clear hb2)
             (try clear hk)
             (try clear hi)
             (try clear ho0)
             obtain ⟨Ao208, co208, eo208⟩ := Kd.R_slice HO258.out
             (first | subst eo208 | (injection eo208 with f1_ f2_ f3_; have f4_ := f1_.symm; have f5_ := f3_.symm; clear f1_ f2_ f3_; subst f4_; subst f5_))
             refine hK.out _ _ ⟨(blk_cell BK239.out 0).trans rfl, (blk_cell BK240.out 0).trans rfl, (blk_cell BK240.out 1).trans rfl, (blk_cell BK240.out 2).trans rfl, (blk_cell BK240.out 3).trans rfl, (blk_cell BK245.out 0).trans rfl, (blk_cell BK245.out 1).trans rfl, (blk_cell BK245.out 2).trans rfl⟩ (fun hHeld => ?_)
             clear hK K
             refine zN ?_
             refine one_ (i := 5) (N := some 92) q14_6 rfl rfl (by kernel_rfl) (by decide) (fun K hK => ?_)
             refine zH Try.func66 #[.agg #[.slice Ao208 t256.length co208], .agg #[.string a1_3, .string x246001_48, .int .i64 x246002_48]] ?_
             with_reducible refine (impl_withFile.calls _ _ t256 a1_3 x246001_48 x246002_48 t259 _ ?side1 ?side2 A193.out).mono ?_
             (case side1 => exact zI (Kd.R_reads' HO258.out).2.2)
             (case side2 => exact (Kd.R_reads' HO258.out).2.1)
             rintro e w209 ⟨v260, rfl, ho0, hb⟩
             refine ⟨_, rfl, ?_⟩
             have HO261 := Aside0.mk (Kd.R_lower (Kd.R_newB (Kd.R_new' ho0 (Kd.R_lt (zo HO258.out))) (g := gb245) (o := .cells #[.string a1_3, .string x246001_48, .int .i64 x246002_48] 45 (0, 0)) (zk BK245)) (below_size (zw HB)))
             replace HO258 := Aside0.mk (Kd.R_elder' (zo HO258.out) (Kd.R_base ho0) hb)
             replace BK239 := zb BK239 hb
             replace BK240 := zb BK240 hb
             replace BK241 := zb BK241 hb
             replace BK245 := zb BK245 hb
             replace BK247 := zb BK247 hb
             replace HB := zs HB hb
             (try clear hb)
             (try clear hb2)
             (try clear hk)
             (try clear hi)
             (try clear ho0)
             obtain ⟨Ao210, co210, eo210⟩ := Kd.R_slice HO261.out
             (first | subst eo210 | (injection eo210 with f1_ f2_ f3_; have f4_ := f1_.symm; have f5_ := f3_.symm; clear f1_ f2_ f3_; subst f4_; subst f5_))
             refine hK.out _ _ ⟨(blk_cell BK239.out 0).trans rfl, (blk_cell BK240.out 0).trans rfl, (blk_cell BK240.out 1).trans rfl, (blk_cell BK240.out 2).trans rfl, (blk_cell BK240.out 3).trans rfl, (blk_cell BK245.out 0).trans rfl, (blk_cell BK245.out 1).trans rfl, (blk_cell BK245.out 2).trans rfl⟩ (fun hHeld => ?_)
             clear hK K
             refine zN ?_
             refine one_ (i := 6) (N := none) q14_7 rfl rfl (by kernel_rfl) (by decide) (fun K hK => ?_)
             have hs211 : w209.cell? ⟨gb247, 0, none⟩ = some (.slice none 0 0) := (blk_cell BK247.out 0).trans rfl
             have hfs211 := blk_frozen BK247.out 0
             have hns211_0 := NB239_247.out
             have hns211_1 := NB240_247.out
             have hns211_2 := NB241_247.out
             have hns211_3 := NB245_247.out
             have hms211_0 := NB247_239.out
             have hms211_1 := NB247_240.out
             have hms211_2 := NB247_241.out
             have hms211_3 := NB247_245.out
             refine skip_ (w1 := ?_) (by rfl) rfl ?_ ?_
             rotate_left
             ·go_simp
              rfl
             refine hK.out _ _ ⟨((cell_far (p := ⟨gb247, _, none⟩) NB239_247.out _).trans (hHeld.1)), ((cell_far (p := ⟨gb247, _, none⟩) NB240_247.out _).trans (hHeld.2.1)), ((cell_far (p := ⟨gb247, _, none⟩) NB240_247.out _).trans (hHeld.2.2.1)), ((cell_far (p := ⟨gb247, _, none⟩) NB240_247.out _).trans (hHeld.2.2.2.1)), ((cell_far (p := ⟨gb247, _, none⟩) NB240_247.out _).trans (hHeld.2.2.2.2.1)), ((cell_far (p := ⟨gb247, _, none⟩) NB245_247.out _).trans (hHeld.2.2.2.2.2.1)), ((cell_far (p := ⟨gb247, _, none⟩) NB245_247.out _).trans (hHeld.2.2.2.2.2.2.1)), ((cell_far (p := ⟨gb247, _, none⟩) NB245_247.out _).trans (hHeld.2.2.2.2.2.2.2))⟩ (fun hHeld => ?_)
             clear hK K
             refine done_ (by kernel_rfl) ?_
             have hnb212 := NB247_239.out
             have hnc212 := NB239_247.out
             have hnb213 := NB247_241.out
             have hnc213 := NB241_247.out
             have hcz214_0 : w209.cell? ⟨gb247, 0, none⟩ = some (.slice none 0 0) := (blk_cell BK247.out 0).trans rfl
             have hfz214_0 := blk_frozen BK247.out 0
             try go_wp2_with (first | ((with_reducible refine gate_callee (f := 15) rfl ?_); refine zG (some 94) Try.func15 #[.agg #[.slice Ao210 t259.length co210]] ?_; (with_reducible refine (impl_DiskOk.calls kj159 _ _ t259 true _ ?side1 ?side2 A194.out).mono ?_); (case side1 => refine (Kd.R_reads' (e := 45) (base := w.heap.size) (ok := fun k_ => ((True ∧ some k_ ≠ (.slice Ao208 t256.length co208 : Value).ownBlock) ∧ k_ ≠ gb245)) (n := t259.length) (c := co210) ?_).2.2; exact (zo ((Kd.R_mono (Kd.R_far (p := ⟨gb247, 0, none⟩) (Kd.R_types HO261.out BK247.out (by decide)) (fun _ hk => hk.2) (.slice Ao210 t259.length co210)) (fun _ h_ => h_.1))))); (case side2 => exact (Kd.R_reads' HO261.out).2.1); rintro e w215 ⟨rfl, hb⟩; refine ⟨_, rfl, ?_⟩; replace HO258 := Aside0.mk (Kd.R_below (zo ((Kd.R_mono (Kd.R_far (p := ⟨gb247, 0, none⟩) (Kd.R_types HO258.out BK247.out (by decide)) (fun _ hk => hk.2) (.slice Ao210 t259.length co210)) (fun _ h_ => h_.1)))) hb); replace HO261 := Aside0.mk (Kd.R_below (zo ((Kd.R_mono (Kd.R_far (p := ⟨gb247, 0, none⟩) (Kd.R_types HO261.out BK247.out (by decide)) (fun _ hk => hk.2) (.slice Ao210 t259.length co210)) (fun _ h_ => h_.1)))) hb); replace BK239 := zbf BK239 hb; replace BK240 := zbf BK240 hb; replace BK241 := zbf BK241 hb; replace BK245 := zbf BK245 hb; replace BK247 := Aside0.mk (blk_below (g := gb247) (o := .cells #[.slice Ao210 t259.length co210] 29 (0, 0)) (by (with_reducible repeat (first | refine blk_drewN ?_ _ | refine blk_drew ?_ | refine blk_alloc ?_ _)); refine blk_put (cs := #[.slice none 0 0]) ?_ 0 _ rfl; (with_reducible repeat (first | refine blk_drewN ?_ _ | refine blk_drew ?_ | refine blk_alloc ?_ _)); exact BK247.out) hb); replace HB := zs HB hb; clear hb; have hcz216_0 : w215.cell? ⟨gb247, 0, none⟩ = some (.slice Ao210 t259.length co210) := (blk_cell BK247.out 0).trans rfl; have hfz216_0 := blk_frozen BK247.out 0; have hnb217 := NB241_239.out; have hnc217 := NB239_241.out; have hcz218_0 : w215.cell? ⟨gb241, 0, none⟩ = some (.slice none 0 0) := (blk_cell BK241.out 0).trans rfl; have hfz218_0 := blk_frozen BK241.out 0))
             refine bodyPost_ret (results_ct rfl _ _ gb241 29 #[.slice Ao210 t259.length co210] (0, 0) _ rfl (by (with_reducible repeat (first | refine blk_drewN ?_ _ | refine blk_drew ?_ | refine blk_alloc ?_ _)); refine blk_put (cs := #[.slice none 0 0]) ?_ 0 _ rfl; (with_reducible repeat (first | refine blk_drewN ?_ _ | refine blk_drew ?_ | refine blk_alloc ?_ _)); exact BK241.out) Try.underlying29 rfl (by kernel_rfl)) rfl ?_
             exact ⟨_, ze, zo (Kd.R_mono (Kd.R_far (p := ⟨gb241, 0, none⟩) (Kd.R_types HO261.out BK241.out (by decide)) (fun _ hk => hk.2) (.slice Ao210 t259.length co210)) (fun _ hk => trivial)), zw HB⟩
            ·replace c195 := Bool.eq_false_iff.mpr c195
             subst c195
             rw [if_neg (show ¬ (false = true) by decide)] at H
             simp only [Option.some.injEq, Prod.mk.injEq] at H
             obtain ⟨rfl, rfl⟩ := H
             have hnb219 := NB240_239.out
             have hnc219 := NB239_240.out
             have hnb220 := NB240_241.out
             have hnc220 := NB241_240.out
             have hnb221 := NB240_245.out
             have hnc221 := NB245_240.out
             have hnb222 := NB240_247.out
             have hnc222 := NB247_240.out
             have hcz223_0 : wc.cell? ⟨gb240, 0, none⟩ = some (.int .i64 a1_0) := (blk_cell BK240.out 0).trans rfl
             have hcz223_1 : wc.cell? ⟨gb240, 1, none⟩ = some (.string a1_1) := (blk_cell BK240.out 1).trans rfl
             have hcz223_2 : wc.cell? ⟨gb240, 2, none⟩ = some (.string a1_2) := (blk_cell BK240.out 2).trans rfl
             have hcz223_3 : wc.cell? ⟨gb240, 3, none⟩ = some (.string a1_3) := (blk_cell BK240.out 3).trans rfl
             have hfz223_0 := blk_frozen BK240.out 0
             have hfz223_1 := blk_frozen BK240.out 1
             have hfz223_2 := blk_frozen BK240.out 2
             have hfz223_3 := blk_frozen BK240.out 3
             have hnb224 := NB245_239.out
             have hnc224 := NB239_245.out
             have hnb225 := NB245_241.out
             have hnc225 := NB241_245.out
             have hnb226 := NB245_247.out
             have hnc226 := NB247_245.out
             have hcz227_0 : wc.cell? ⟨gb245, 0, none⟩ = some (.string x246000_48) := (blk_cell BK245.out 0).trans rfl
             have hcz227_1 : wc.cell? ⟨gb245, 1, none⟩ = some (.string x246001_48) := (blk_cell BK245.out 1).trans rfl
             have hcz227_2 : wc.cell? ⟨gb245, 2, none⟩ = some (.int .i64 x246002_48) := (blk_cell BK245.out 2).trans rfl
             have hfz227_0 := blk_frozen BK245.out 0
             have hfz227_1 := blk_frozen BK245.out 1
             have hfz227_2 := blk_frozen BK245.out 2
             try go_wp2
             have n0_ : Aside0 ((wc.setCell ⟨gb245, 0, none⟩ (.string a1_3)).heap[gb239]? = some (.cells #[.slice A0_0 l0_0.length c0_0] 29 (0, 0))) := ⟨zkf BK239⟩
             have n1_ : Aside0 ((wc.setCell ⟨gb245, 0, none⟩ (.string a1_3)).heap[gb240]? = some (.cells #[.int .i64 a1_0, .string a1_1, .string a1_2, .string a1_3] 55 (0, 0))) := ⟨zkf BK240⟩
             have n2_ : Aside0 ((wc.setCell ⟨gb245, 0, none⟩ (.string a1_3)).heap[gb241]? = some (.cells #[.slice none 0 0] 29 (0, 0))) := ⟨zkf BK241⟩
             have n3_ : Aside0 ((wc.setCell ⟨gb245, 0, none⟩ (.string a1_3)).heap[gb245]? = some (.cells #[.string a1_3, .string x246001_48, .int .i64 x246002_48] 45 (0, 0))) := ⟨by (with_reducible repeat (first | refine blk_drewN ?_ _ | refine blk_drew ?_ | refine blk_alloc ?_ _)); refine blk_put (cs := #[.string x246000_48, .string x246001_48, .int .i64 x246002_48]) ?_ 0 _ rfl; (with_reducible repeat (first | refine blk_drewN ?_ _ | refine blk_drew ?_ | refine blk_alloc ?_ _)); exact BK245.out⟩
             have n4_ : Aside0 ((wc.setCell ⟨gb245, 0, none⟩ (.string a1_3)).heap[gb247]? = some (.cells #[.slice none 0 0] 29 (0, 0))) := ⟨zkf BK247⟩
             have n5_ : Aside0 (Below w.heap.size w (wc.setCell ⟨gb245, 0, none⟩ (.string a1_3))) := ⟨zw HB⟩
             (try clear BK239)
             (try clear BK240)
             (try clear BK241)
             (try clear BK245)
             (try clear BK247)
             (try clear HB)
             generalize (wc.setCell ⟨gb245, 0, none⟩ (.string a1_3)) = w228 at n0_ n1_ n2_ n3_ n4_ n5_ ⊢
             have BK239 := n0_
             have BK240 := n1_
             have BK241 := n2_
             have BK245 := n3_
             have BK247 := n4_
             have HB := n5_
             clear n0_ n1_ n2_ n3_ n4_ n5_
             replace BK239 := Aside0.mk (blk_drew BK239.out)
             replace BK240 := Aside0.mk (blk_drew BK240.out)
             replace BK241 := Aside0.mk (blk_drew BK241.out)
             replace BK245 := Aside0.mk (blk_drew BK245.out)
             replace BK247 := Aside0.mk (blk_drew BK247.out)
             replace HB := Aside0.mk (below_drew1 HB.out)
             refine start_ (n := 7) (S := fun w' => w'.cell? ⟨gb239, 0, none⟩ = some (.slice A0_0 l0_0.length c0_0) ∧ w'.cell? ⟨gb240, 0, none⟩ = some (.int .i64 a1_0) ∧ w'.cell? ⟨gb240, 1, none⟩ = some (.string a1_1) ∧ w'.cell? ⟨gb240, 2, none⟩ = some (.string a1_2) ∧ w'.cell? ⟨gb240, 3, none⟩ = some (.string a1_3) ∧ w'.cell? ⟨gb245, 0, none⟩ = some (.string a1_3) ∧ w'.cell? ⟨gb245, 1, none⟩ = some (.string x246001_48) ∧ w'.cell? ⟨gb245, 2, none⟩ = some (.int .i64 x246002_48)) (ds := []) q14_0 (by kernel_rfl) rfl rfl ⟨(blk_cell BK239.out 0).trans rfl, (blk_cell BK240.out 0).trans rfl, (blk_cell BK240.out 1).trans rfl, (blk_cell BK240.out 2).trans rfl, (blk_cell BK240.out 3).trans rfl, (blk_cell BK245.out 0).trans rfl, (blk_cell BK245.out 1).trans rfl, (blk_cell BK245.out 2).trans rfl⟩ (fun hHeld => ?_)
             generalize w228.drew = w229 at BK239 BK240 BK241 BK245 BK247 HB hHeld ⊢
             refine pure_ (i := 1) (N := some 88) (v := ?_) (a' := ?_) q14_1 rfl rfl (by kernel_rfl) (fun _ _ _ h => h) (Or.inl ⟨by rfl, ?_⟩) ?_ ?_
             rotate_left
             ·intro w'
              go_simp
              with_reducible rfl
             rotate_left
             ·simp only [Act.put, zA, zB, zC, i64_w, i32_w]
              rfl
             refine take_ (i := 0) (N := some 87) (v := ?_) (a' := ?_) q14_2 rfl rfl (by kernel_rfl) (fun _ _ _ h => h) (Or.inl ⟨by rfl, ?_⟩) hHeld ?_ ?_
             rotate_left
             ·rintro w' ⟨s0, s1, s2, s3, s4, s5, s6, s7⟩
              go_simp
              with_reducible rfl
             rotate_left
             ·simp only [Act.put, zA, zB, zC, i64_w, i32_w]
              rfl
             refine take_ (i := 2) (N := some 89) (v := ?_) (a' := ?_) q14_3 rfl rfl (by kernel_rfl) (fun _ _ _ h => h) (Or.inl ⟨by rfl, ?_⟩) hHeld ?_ ?_
             rotate_left
             ·rintro w' ⟨s0, s1, s2, s3, s4, s5, s6, s7⟩
              go_simp
              with_reducible rfl
             rotate_left
             ·simp only [Act.put, zA, zB, zC, i64_w, i32_w]
              rfl
             refine take_ (i := 4) (N := some 91) (v := ?_) (a' := ?_) q14_4 rfl rfl (by kernel_rfl) (fun _ _ _ h => h) (Or.inl ⟨by rfl, ?_⟩) hHeld ?_ ?_
             rotate_left
             ·rintro w' ⟨s0, s1, s2, s3, s4, s5, s6, s7⟩
              go_simp
              with_reducible rfl
             rotate_left
             ·simp only [Act.put, zA, zB, zC, i64_w, i32_w]
              rfl
             refine one_ (i := 3) (N := some 90) q14_5 rfl rfl (by kernel_rfl) (by decide) (fun K hK => ?_)
             refine zH Try.func67 #[.agg #[.slice A0_0 l0_0.length c0_0], .string a1_1] ?_
             with_reducible refine (impl_withoutFile.calls _ _ l0_0 a1_1 t256 _ ?side1 ?side2 A192.out).mono ?_
             (case side1 => exact zI (Kd.C_below HR0_0.out HB.out))
             (case side2 => exact HC0_0.out)
             rintro e w230 ⟨v257, rfl, ho0, hb⟩
             refine ⟨_, rfl, ?_⟩
             have HO258 := Aside0.mk (Kd.R_lower (Kd.R_newB ho0 (g := gb245) (o := .cells #[.string a1_3, .string x246001_48, .int .i64 x246002_48] 45 (0, 0)) (zk BK245)) (below_size (zw HB)))
             replace BK239 := zb BK239 hb
             replace BK240 := zb BK240 hb
             replace BK241 := zb BK241 hb
             replace BK245 := zb BK245 hb
             replace BK247 := zb BK247 hb
             replace HB := zs HB hb
             (try clear hb)
             (try clear hb2)
             (try clear hk)
             (try clear hi)
             (try clear ho0)
             obtain ⟨Ao231, co231, eo231⟩ := Kd.R_slice HO258.out
             (first | subst eo231 | (injection eo231 with f1_ f2_ f3_; have f4_ := f1_.symm; have f5_ := f3_.symm; clear f1_ f2_ f3_; subst f4_; subst f5_))
             refine hK.out _ _ ⟨(blk_cell BK239.out 0).trans rfl, (blk_cell BK240.out 0).trans rfl, (blk_cell BK240.out 1).trans rfl, (blk_cell BK240.out 2).trans rfl, (blk_cell BK240.out 3).trans rfl, (blk_cell BK245.out 0).trans rfl, (blk_cell BK245.out 1).trans rfl, (blk_cell BK245.out 2).trans rfl⟩ (fun hHeld => ?_)
             clear hK K
             refine zN ?_
             refine one_ (i := 5) (N := some 92) q14_6 rfl rfl (by kernel_rfl) (by decide) (fun K hK => ?_)
             refine zH Try.func66 #[.agg #[.slice Ao231 t256.length co231], .agg #[.string a1_3, .string x246001_48, .int .i64 x246002_48]] ?_
             with_reducible refine (impl_withFile.calls _ _ t256 a1_3 x246001_48 x246002_48 t259 _ ?side1 ?side2 A193.out).mono ?_
             (case side1 => exact zI (Kd.R_reads' HO258.out).2.2)
             (case side2 => exact (Kd.R_reads' HO258.out).2.1)
             rintro e w232 ⟨v260, rfl, ho0, hb⟩
             refine ⟨_, rfl, ?_⟩
             have HO261 := Aside0.mk (Kd.R_lower (Kd.R_newB (Kd.R_new' ho0 (Kd.R_lt (zo HO258.out))) (g := gb245) (o := .cells #[.string a1_3, .string x246001_48, .int .i64 x246002_48] 45 (0, 0)) (zk BK245)) (below_size (zw HB)))
             replace HO258 := Aside0.mk (Kd.R_elder' (zo HO258.out) (Kd.R_base ho0) hb)
             replace BK239 := zb BK239 hb
             replace BK240 := zb BK240 hb
             replace BK241 := zb BK241 hb
             replace BK245 := zb BK245 hb
             replace BK247 := zb BK247 hb
             replace HB := zs HB hb
             (try clear hb)
             (try clear hb2)
             (try clear hk)
             (try clear hi)
             (try clear ho0)
             obtain ⟨Ao233, co233, eo233⟩ := Kd.R_slice HO261.out
             (first | subst eo233 | (injection eo233 with f1_ f2_ f3_; have f4_ := f1_.symm; have f5_ := f3_.symm; clear f1_ f2_ f3_; subst f4_; subst f5_))
             refine hK.out _ _ ⟨(blk_cell BK239.out 0).trans rfl, (blk_cell BK240.out 0).trans rfl, (blk_cell BK240.out 1).trans rfl, (blk_cell BK240.out 2).trans rfl, (blk_cell BK240.out 3).trans rfl, (blk_cell BK245.out 0).trans rfl, (blk_cell BK245.out 1).trans rfl, (blk_cell BK245.out 2).trans rfl⟩ (fun hHeld => ?_)
             clear hK K
             refine zN ?_
             refine one_ (i := 6) (N := none) q14_7 rfl rfl (by kernel_rfl) (by decide) (fun K hK => ?_)
             have hs234 : w232.cell? ⟨gb247, 0, none⟩ = some (.slice none 0 0) := (blk_cell BK247.out 0).trans rfl
             have hfs234 := blk_frozen BK247.out 0
             have hns234_0 := NB239_247.out
             have hns234_1 := NB240_247.out
             have hns234_2 := NB241_247.out
             have hns234_3 := NB245_247.out
             have hms234_0 := NB247_239.out
             have hms234_1 := NB247_240.out
             have hms234_2 := NB247_241.out
             have hms234_3 := NB247_245.out
             refine skip_ (w1 := ?_) (by rfl) rfl ?_ ?_
             rotate_left
             ·go_simp
              rfl
             refine hK.out _ _ ⟨((cell_far (p := ⟨gb247, _, none⟩) NB239_247.out _).trans (hHeld.1)), ((cell_far (p := ⟨gb247, _, none⟩) NB240_247.out _).trans (hHeld.2.1)), ((cell_far (p := ⟨gb247, _, none⟩) NB240_247.out _).trans (hHeld.2.2.1)), ((cell_far (p := ⟨gb247, _, none⟩) NB240_247.out _).trans (hHeld.2.2.2.1)), ((cell_far (p := ⟨gb247, _, none⟩) NB240_247.out _).trans (hHeld.2.2.2.2.1)), ((cell_far (p := ⟨gb247, _, none⟩) NB245_247.out _).trans (hHeld.2.2.2.2.2.1)), ((cell_far (p := ⟨gb247, _, none⟩) NB245_247.out _).trans (hHeld.2.2.2.2.2.2.1)), ((cell_far (p := ⟨gb247, _, none⟩) NB245_247.out _).trans (hHeld.2.2.2.2.2.2.2))⟩ (fun hHeld => ?_)
             clear hK K
             refine done_ (by kernel_rfl) ?_
             have hnb235 := NB247_239.out
             have hnc235 := NB239_247.out
             have hnb236 := NB247_241.out
             have hnc236 := NB241_247.out
             have hcz237_0 : w232.cell? ⟨gb247, 0, none⟩ = some (.slice none 0 0) := (blk_cell BK247.out 0).trans rfl
             have hfz237_0 := blk_frozen BK247.out 0
             try go_wp2_with (first | ((with_reducible refine gate_callee (f := 15) rfl ?_); refine zG (some 94) Try.func15 #[.agg #[.slice Ao233 t259.length co233]] ?_; (with_reducible refine (impl_DiskOk.calls kj159 _ _ t259 false _ ?side1 ?side2 A194.out).mono ?_); (case side1 => refine (Kd.R_reads' (e := 45) (base := w.heap.size) (ok := fun k_ => ((True ∧ some k_ ≠ (.slice Ao231 t256.length co231 : Value).ownBlock) ∧ k_ ≠ gb245)) (n := t259.length) (c := co233) ?_).2.2; exact (zo ((Kd.R_mono (Kd.R_far (p := ⟨gb247, 0, none⟩) (Kd.R_types HO261.out BK247.out (by decide)) (fun _ hk => hk.2) (.slice Ao233 t259.length co233)) (fun _ h_ => h_.1))))); (case side2 => exact (Kd.R_reads' HO261.out).2.1); rintro e w238 ⟨rfl, hb⟩; refine ⟨_, rfl, ?_⟩; replace HO258 := Aside0.mk (Kd.R_below (zo ((Kd.R_mono (Kd.R_far (p := ⟨gb247, 0, none⟩) (Kd.R_types HO258.out BK247.out (by decide)) (fun _ hk => hk.2) (.slice Ao233 t259.length co233)) (fun _ h_ => h_.1)))) hb); replace HO261 := Aside0.mk (Kd.R_below (zo ((Kd.R_mono (Kd.R_far (p := ⟨gb247, 0, none⟩) (Kd.R_types HO261.out BK247.out (by decide)) (fun _ hk => hk.2) (.slice Ao233 t259.length co233)) (fun _ h_ => h_.1)))) hb); replace BK239 := zbf BK239 hb; replace BK240 := zbf BK240 hb; replace BK241 := zbf BK241 hb; replace BK245 := zbf BK245 hb; replace BK247 := Aside0.mk (blk_below (g := gb247) (o := .cells #[.slice Ao233 t259.length co233] 29 (0, 0)) (by (with_reducible repeat (first | refine blk_drewN ?_ _ | refine blk_drew ?_ | refine blk_alloc ?_ _)); refine blk_put (cs := #[.slice none 0 0]) ?_ 0 _ rfl; (with_reducible repeat (first | refine blk_drewN ?_ _ | refine blk_drew ?_ | refine blk_alloc ?_ _)); exact BK247.out) hb); replace HB := zs HB hb; clear hb; have hnb239 := NB241_239.out; have hnc239 := NB239_241.out; have hcz240_0 : w238.cell? ⟨gb241, 0, none⟩ = some (.slice none 0 0) := (blk_cell BK241.out 0).trans rfl; have hfz240_0 := blk_frozen BK241.out 0))
             refine bodyPost_ret (results_ct rfl _ _ gb241 29 #[.slice none 0 0] (0, 0) _ rfl (by (with_reducible repeat (first | refine blk_drewN ?_ _ | refine blk_drew ?_ | refine blk_alloc ?_ _)); refine blk_put (cs := #[.slice none 0 0]) ?_ 0 _ rfl; (with_reducible repeat (first | refine blk_drewN ?_ _ | refine blk_drew ?_ | refine blk_alloc ?_ _)); exact BK241.out) Try.underlying29 rfl (by kernel_rfl)) rfl ?_
             exact ⟨_, ze, by first | exact Kd.R_nil _ _ _ _ _ | exact Kd.N_nil _ _ _ _ _ | exact Kd.V_nil _ _ _ _ _ | exact Kd.Q_nil _ _ _ _ _ | exact Kd.S_nil _ _ _ _ _, zw HB⟩
        ·rw [if_neg c159] at H
         have c159b0 : (a1_0 == 3) = false := beq_eq_false_iff_ne.mpr c159
         have c159b1 : (a1_0 != 3) = true := bne_iff_ne.mpr c159
         replace H := Option.bind_eq_some_iff.mp H
         obtain ⟨t263, A2410, H⟩ := H
         have A241 := Aside0.mk A2410
         clear A2410
         replace H := Option.bind_eq_some_iff.mp H
         obtain ⟨t266, A2420, H⟩ := H
         have A242 := Aside0.mk A2420
         clear A2420
         by_cases c243 : t266 = true
         ·subst c243
          rw [if_pos rfl] at H
          simp only [Option.some.injEq, Prod.mk.injEq] at H
          obtain ⟨rfl, rfl⟩ := H
          go_wp2_with (first | ((with_reducible refine gate_dst (N := 8) rfl ?_); refine zx (N := 8) (cs := #[.slice none 0 0]) (t := 29) ?_; intro gb247 hg w244 hbox hb; have BK247 := Aside0.mk (hbox); have GW247 := zg HB hg; have GE247 := zg HB hg; replace HB := zs HB hb; have NB239_247 := zl BK239 hg; have NB247_239 := zr BK239 hg; replace BK239 := zb BK239 hb; have NB240_247 := zl BK240 hg; have NB247_240 := zr BK240 hg; replace BK240 := zb BK240 hb; have NB241_247 := zl BK241 hg; have NB247_241 := zr BK241 hg; replace BK241 := zb BK241 hb; have NB245_247 := zl BK245 hg; have NB247_245 := zr BK245 hg; replace BK245 := zb BK245 hb; clear hb hbox hg; have hnb245 := NB247_239.out; have hnc245 := NB239_247.out; have hnb246 := NB247_240.out; have hnc246 := NB240_247.out; have hnb247 := NB247_241.out; have hnc247 := NB241_247.out; have hnb248 := NB247_245.out; have hnc248 := NB245_247.out; have hcz249_0 : w244.cell? ⟨gb247, 0, none⟩ = some (.slice none 0 0) := (blk_cell BK247.out 0).trans rfl; have hfz249_0 := blk_frozen BK247.out 0; have hnb250 := NB240_239.out; have hnc250 := NB239_240.out; have hnb251 := NB240_241.out; have hnc251 := NB241_240.out; have hnb252 := NB240_245.out; have hnc252 := NB245_240.out; have hcz253_0 : w244.cell? ⟨gb240, 0, none⟩ = some (.int .i64 a1_0) := (blk_cell BK240.out 0).trans rfl; have hcz253_1 : w244.cell? ⟨gb240, 1, none⟩ = some (.string a1_1) := (blk_cell BK240.out 1).trans rfl; have hcz253_2 : w244.cell? ⟨gb240, 2, none⟩ = some (.string a1_2) := (blk_cell BK240.out 2).trans rfl; have hcz253_3 : w244.cell? ⟨gb240, 3, none⟩ = some (.string a1_3) := (blk_cell BK240.out 3).trans rfl; have hfz253_0 := blk_frozen BK240.out 0; have hfz253_1 := blk_frozen BK240.out 1; have hfz253_2 := blk_frozen BK240.out 2; have hfz253_3 := blk_frozen BK240.out 3; have hnb254 := NB239_241.out; have hnc254 := NB241_239.out; have hnb255 := NB239_245.out; have hnc255 := NB245_239.out; have hcz256_0 : w244.cell? ⟨gb239, 0, none⟩ = some (.slice A0_0 l0_0.length c0_0) := (blk_cell BK239.out 0).trans rfl; have hfz256_0 := blk_frozen BK239.out 0) | ((with_reducible refine gate_callee (f := 67) rfl ?_); refine zG (some 47) Try.func67 #[.agg #[.slice A0_0 l0_0.length c0_0], .string a1_1] ?_; (with_reducible refine (impl_withoutFile.calls _ _ l0_0 a1_1 t263 _ ?side1 ?side2 A241.out).mono ?_); (case side1 => exact Kd.C_below HR0_0.out (zw HB)); (case side2 => exact HC0_0.out); rintro e w257 ⟨v264, rfl, ho0, hb⟩; refine ⟨_, rfl, ?_⟩; have HO265 := Aside0.mk (Kd.R_lower (Kd.R_newB ho0 (g := gb245) (o := .cells #[.string x246000_48, .string x246001_48, .int .i64 x246002_48] 45 (0, 0)) (zkf BK245)) (below_size (zw HB))); replace BK239 := zbf BK239 hb; replace BK240 := zbf BK240 hb; replace BK241 := zbf BK241 hb; replace BK245 := zbf BK245 hb; replace BK247 := Aside0.mk (blk_below (g := gb247) (o := .cells #[.slice none 0 0] 29 (0, 0)) (by (with_reducible repeat (first | refine blk_drewN ?_ _ | refine blk_drew ?_ | refine blk_alloc ?_ _)); refine blk_put (cs := #[.slice none 0 0]) ?_ 0 _ rfl; (with_reducible repeat (first | refine blk_drewN ?_ _ | refine blk_drew ?_ | refine blk_alloc ?_ _)); exact BK247.out) hb); replace HB := zs HB hb; clear ho0 hb; obtain ⟨Ao258, co258, eo258⟩ := Kd.R_slice HO265.out; subst eo258; have hcz259_0 : w257.cell? ⟨gb247, 0, none⟩ = some (.slice none 0 0) := (blk_cell BK247.out 0).trans rfl; have hfz259_0 := blk_frozen BK247.out 0) | ((with_reducible refine gate_callee (f := 15) rfl ?_); refine zG (some 94) Try.func15 #[.agg #[.slice Ao258 t263.length co258]] ?_; (with_reducible refine (impl_DiskOk.calls kj48 _ _ t263 true _ ?side1 ?side2 A242.out).mono ?_); (case side1 => refine (Kd.R_reads' (e := 45) (base := w.heap.size) (ok := fun k_ => (True ∧ k_ ≠ gb245)) (n := t263.length) (c := co258) ?_).2.2; exact (zo ((Kd.R_mono (Kd.R_far (p := ⟨gb247, 0, none⟩) (Kd.R_types HO265.out BK247.out (by decide)) (fun _ hk => hk.2) (.slice Ao258 t263.length co258)) (fun _ h_ => h_.1))))); (case side2 => exact (Kd.R_reads' HO265.out).2.1); rintro e w260 ⟨rfl, hb⟩; refine ⟨_, rfl, ?_⟩; replace HO265 := Aside0.mk (Kd.R_below (zo ((Kd.R_mono (Kd.R_far (p := ⟨gb247, 0, none⟩) (Kd.R_types HO265.out BK247.out (by decide)) (fun _ hk => hk.2) (.slice Ao258 t263.length co258)) (fun _ h_ => h_.1)))) hb); replace BK239 := zbf BK239 hb; replace BK240 := zbf BK240 hb; replace BK241 := zbf BK241 hb; replace BK245 := zbf BK245 hb; replace BK247 := Aside0.mk (blk_below (g := gb247) (o := .cells #[.slice Ao258 t263.length co258] 29 (0, 0)) (by (with_reducible repeat (first | refine blk_drewN ?_ _ | refine blk_drew ?_ | refine blk_alloc ?_ _)); refine blk_put (cs := #[.slice none 0 0]) ?_ 0 _ rfl; (with_reducible repeat (first | refine blk_drewN ?_ _ | refine blk_drew ?_ | refine blk_alloc ?_ _)); exact BK247.out) hb); replace HB := zs HB hb; clear hb; have hcz261_0 : w260.cell? ⟨gb247, 0, none⟩ = some (.slice Ao258 t263.length co258) := (blk_cell BK247.out 0).trans rfl; have hfz261_0 := blk_frozen BK247.out 0; have hnb262 := NB241_245.out; have hnc262 := NB245_241.out; have hcz263_0 : w260.cell? ⟨gb241, 0, none⟩ = some (.slice none 0 0) := (blk_cell BK241.out 0).trans rfl; have hfz263_0 := blk_frozen BK241.out 0))
          refine bodyPost_ret (results_ct rfl _ _ gb241 29 #[.slice Ao258 t263.length co258] (0, 0) _ rfl (by (with_reducible repeat (first | refine blk_drewN ?_ _ | refine blk_drew ?_ | refine blk_alloc ?_ _)); refine blk_put (cs := #[.slice none 0 0]) ?_ 0 _ rfl; (with_reducible repeat (first | refine blk_drewN ?_ _ | refine blk_drew ?_ | refine blk_alloc ?_ _)); exact BK241.out) Try.underlying29 rfl (by kernel_rfl)) rfl ?_
          exact ⟨_, ze, zo (Kd.R_mono (Kd.R_far (p := ⟨gb241, 0, none⟩) (Kd.R_types HO265.out BK241.out (by decide)) (fun _ hk => hk.2) (.slice Ao258 t263.length co258)) (fun _ hk => trivial)), zw HB⟩
         ·replace c243 := Bool.eq_false_iff.mpr c243
          subst c243
          rw [if_neg (show ¬ (false = true) by decide)] at H
          simp only [Option.some.injEq, Prod.mk.injEq] at H
          obtain ⟨rfl, rfl⟩ := H
          go_wp2_with (first | ((with_reducible refine gate_dst (N := 8) rfl ?_); refine zx (N := 8) (cs := #[.slice none 0 0]) (t := 29) ?_; intro gb247 hg w264 hbox hb; have BK247 := Aside0.mk (hbox); have GW247 := zg HB hg; have GE247 := zg HB hg; replace HB := zs HB hb; have NB239_247 := zl BK239 hg; have NB247_239 := zr BK239 hg; replace BK239 := zb BK239 hb; have NB240_247 := zl BK240 hg; have NB247_240 := zr BK240 hg; replace BK240 := zb BK240 hb; have NB241_247 := zl BK241 hg; have NB247_241 := zr BK241 hg; replace BK241 := zb BK241 hb; have NB245_247 := zl BK245 hg; have NB247_245 := zr BK245 hg; replace BK245 := zb BK245 hb; clear hb hbox hg; have hnb265 := NB247_239.out; have hnc265 := NB239_247.out; have hnb266 := NB247_240.out; have hnc266 := NB240_247.out; have hnb267 := NB247_241.out; have hnc267 := NB241_247.out; have hnb268 := NB247_245.out; have hnc268 := NB245_247.out; have hcz269_0 : w264.cell? ⟨gb247, 0, none⟩ = some (.slice none 0 0) := (blk_cell BK247.out 0).trans rfl; have hfz269_0 := blk_frozen BK247.out 0; have hnb270 := NB240_239.out; have hnc270 := NB239_240.out; have hnb271 := NB240_241.out; have hnc271 := NB241_240.out; have hnb272 := NB240_245.out; have hnc272 := NB245_240.out; have hcz273_0 : w264.cell? ⟨gb240, 0, none⟩ = some (.int .i64 a1_0) := (blk_cell BK240.out 0).trans rfl; have hcz273_1 : w264.cell? ⟨gb240, 1, none⟩ = some (.string a1_1) := (blk_cell BK240.out 1).trans rfl; have hcz273_2 : w264.cell? ⟨gb240, 2, none⟩ = some (.string a1_2) := (blk_cell BK240.out 2).trans rfl; have hcz273_3 : w264.cell? ⟨gb240, 3, none⟩ = some (.string a1_3) := (blk_cell BK240.out 3).trans rfl; have hfz273_0 := blk_frozen BK240.out 0; have hfz273_1 := blk_frozen BK240.out 1; have hfz273_2 := blk_frozen BK240.out 2; have hfz273_3 := blk_frozen BK240.out 3; have hnb274 := NB239_241.out; have hnc274 := NB241_239.out; have hnb275 := NB239_245.out; have hnc275 := NB245_239.out; have hcz276_0 : w264.cell? ⟨gb239, 0, none⟩ = some (.slice A0_0 l0_0.length c0_0) := (blk_cell BK239.out 0).trans rfl; have hfz276_0 := blk_frozen BK239.out 0) | ((with_reducible refine gate_callee (f := 67) rfl ?_); refine zG (some 47) Try.func67 #[.agg #[.slice A0_0 l0_0.length c0_0], .string a1_1] ?_; (with_reducible refine (impl_withoutFile.calls _ _ l0_0 a1_1 t263 _ ?side1 ?side2 A241.out).mono ?_); (case side1 => exact Kd.C_below HR0_0.out (zw HB)); (case side2 => exact HC0_0.out); rintro e w277 ⟨v264, rfl, ho0, hb⟩; refine ⟨_, rfl, ?_⟩; have HO265 := Aside0.mk (Kd.R_lower (Kd.R_newB ho0 (g := gb245) (o := .cells #[.string x246000_48, .string x246001_48, .int .i64 x246002_48] 45 (0, 0)) (zkf BK245)) (below_size (zw HB))); replace BK239 := zbf BK239 hb; replace BK240 := zbf BK240 hb; replace BK241 := zbf BK241 hb; replace BK245 := zbf BK245 hb; replace BK247 := Aside0.mk (blk_below (g := gb247) (o := .cells #[.slice none 0 0] 29 (0, 0)) (by (with_reducible repeat (first | refine blk_drewN ?_ _ | refine blk_drew ?_ | refine blk_alloc ?_ _)); refine blk_put (cs := #[.slice none 0 0]) ?_ 0 _ rfl; (with_reducible repeat (first | refine blk_drewN ?_ _ | refine blk_drew ?_ | refine blk_alloc ?_ _)); exact BK247.out) hb); replace HB := zs HB hb; clear ho0 hb; obtain ⟨Ao278, co278, eo278⟩ := Kd.R_slice HO265.out; subst eo278; have hcz279_0 : w277.cell? ⟨gb247, 0, none⟩ = some (.slice none 0 0) := (blk_cell BK247.out 0).trans rfl; have hfz279_0 := blk_frozen BK247.out 0) | ((with_reducible refine gate_callee (f := 15) rfl ?_); refine zG (some 94) Try.func15 #[.agg #[.slice Ao278 t263.length co278]] ?_; (with_reducible refine (impl_DiskOk.calls kj48 _ _ t263 false _ ?side1 ?side2 A242.out).mono ?_); (case side1 => refine (Kd.R_reads' (e := 45) (base := w.heap.size) (ok := fun k_ => (True ∧ k_ ≠ gb245)) (n := t263.length) (c := co278) ?_).2.2; exact (zo ((Kd.R_mono (Kd.R_far (p := ⟨gb247, 0, none⟩) (Kd.R_types HO265.out BK247.out (by decide)) (fun _ hk => hk.2) (.slice Ao278 t263.length co278)) (fun _ h_ => h_.1))))); (case side2 => exact (Kd.R_reads' HO265.out).2.1); rintro e w280 ⟨rfl, hb⟩; refine ⟨_, rfl, ?_⟩; replace HO265 := Aside0.mk (Kd.R_below (zo ((Kd.R_mono (Kd.R_far (p := ⟨gb247, 0, none⟩) (Kd.R_types HO265.out BK247.out (by decide)) (fun _ hk => hk.2) (.slice Ao278 t263.length co278)) (fun _ h_ => h_.1)))) hb); replace BK239 := zbf BK239 hb; replace BK240 := zbf BK240 hb; replace BK241 := zbf BK241 hb; replace BK245 := zbf BK245 hb; replace BK247 := Aside0.mk (blk_below (g := gb247) (o := .cells #[.slice Ao278 t263.length co278] 29 (0, 0)) (by (with_reducible repeat (first | refine blk_drewN ?_ _ | refine blk_drew ?_ | refine blk_alloc ?_ _)); refine blk_put (cs := #[.slice none 0 0]) ?_ 0 _ rfl; (with_reducible repeat (first | refine blk_drewN ?_ _ | refine blk_drew ?_ | refine blk_alloc ?_ _)); exact BK247.out) hb); replace HB := zs HB hb; clear hb; have hnb281 := NB241_245.out; have hnc281 := NB245_241.out; have hcz282_0 : w280.cell? ⟨gb241, 0, none⟩ = some (.slice none 0 0) := (blk_cell BK241.out 0).trans rfl; have hfz282_0 := blk_frozen BK241.out 0))
          refine bodyPost_ret (results_ct rfl _ _ gb241 29 #[.slice none 0 0] (0, 0) _ rfl (by (with_reducible repeat (first | refine blk_drewN ?_ _ | refine blk_drew ?_ | refine blk_alloc ?_ _)); refine blk_put (cs := #[.slice none 0 0]) ?_ 0 _ rfl; (with_reducible repeat (first | refine blk_drewN ?_ _ | refine blk_drew ?_ | refine blk_alloc ?_ _)); exact BK241.out) Try.underlying29 rfl (by kernel_rfl)) rfl ?_
          exact ⟨_, ze, by first | exact Kd.R_nil _ _ _ _ _ | exact Kd.N_nil _ _ _ _ _ | exact Kd.V_nil _ _ _ _ _ | exact Kd.Q_nil _ _ _ _ _ | exact Kd.S_nil _ _ _ _ _, zw HB⟩

end Go.Proofs.Ytdiecogmaiglaaa.PFnExactDoAct
