import Derived.Test.YtdiecogmaiglaaaQFnActsx0
import Derived.Test.YtdiecogmaiglaaaQFnActsx6
import Derived.Test.YtdiecogmaiglaaaQFnActsx7
import Derived.Test.YtdiecogmaiglaaaQFnActsx8
import Derived.Test.YtdiecogmaiglaaaQFnActsx9
import Derived.Test.YtdiecogmaiglaaaQFnActsx10
namespace Go.Proofs.Ytdiecogmaiglaaa.PFnActs
open Go.RowKit Go.Proofs.YtdiecogmaiglaaaW.PrintWords Go.Proofs.YtdiecogmaiglaaaW.PrintLast Go.Proofs.YtdiecogmaiglaaaW.PrintMore
attribute [local go_sem] max2_int min2_int max_two min_two max_three min_three max_four min_four   -- for this text's walks alone
set_option linter.unusedVariables false
set_option linter.unusedSimpArgs false

/-! ### spec_DoAct: function 35 -/
mutual
def spec_DoAct.j0 : Nat → Bool → List (S45) → Int → ByteArray → ByteArray → ByteArray → Option ((List (S45)) × Bool)
 | 0, _, _, _, _, _, _ => none
 | k + 1, x37, x194000, x195000, x195001, x195002, x195003 => if x37 = true then (some (([] : List (S45)), false)) else ((spec_l03At.f k x194000 x195001).bind fun t198 => (if t198 ≥ 0 then (if 0 ≤ t198 then (if t198 < (x194000.length : Int) then (spec_DoAct.j1 k t198 x194000 x195000 x195001 x195002 x195003 ((rd_T45 x194000 t198).f0) ((rd_T45 x194000 t198).f1) ((rd_T45 x194000 t198).f2)) else (none)) else (none)) else (spec_DoAct.j1 k t198 x194000 x195000 x195001 x195002 x195003 x195001 (⟨#[]⟩ : ByteArray) 0)))
def spec_DoAct.j1 : Nat → Int → List (S45) → Int → ByteArray → ByteArray → ByteArray → ByteArray → ByteArray → Int → Option ((List (S45)) × Bool)
 | 0, _, _, _, _, _, _, _, _, _ => none
 | k + 1, x6, x194000, x195000, x195001, x195002, x195003, x200000, x200001, x200002 => if x195000 = 1 then (if x200001.size + x195002.size ≤ 9223372036854775807 then ((spec_l03Put.f k x194000 x200000 (x200001 ++ x195002) x200002).bind fun t202 => ((spec_DiskOk.f k t202).bind fun t205 => (if t205 = true then (some (t202, true)) else (some (([] : List (S45)), false))))) else (none)) else (if x6 < 0 then (some (([] : List (S45)), false)) else (if x195000 = 2 then ((spec_l03Put.f k x194000 x200000 x200001 (x200001.size : Int)).bind fun t206 => ((spec_DiskOk.f k t206).bind fun t209 => (if t209 = true then (some (t206, true)) else (some (([] : List (S45)), false))))) else (if x195000 = 3 then (if x200002 < (x200001.size : Int) then (spec_DoAct.j2 k true x194000 x195000 x195001 x195002 x195003 x200000 x200001 x200002) else (if x195003.toList = x195001.toList then (spec_DoAct.j2 k true x194000 x195000 x195001 x195002 x195003 x200000 x200001 x200002) else ((spec_l03Name.f x195003).bind fun t210 => (spec_DoAct.j2 k (!t210) x194000 x195000 x195001 x195002 x195003 x200000 x200001 x200002)))) else (if x195000 = 4 then ((spec_l03Without.f k x194000 x195001).bind fun t218 => ((spec_DiskOk.f k t218).bind fun t221 => (if t221 = true then (some (t218, true)) else (some (([] : List (S45)), false))))) else (some (([] : List (S45)), false))))))
def spec_DoAct.j2 : Nat → Bool → List (S45) → Int → ByteArray → ByteArray → ByteArray → ByteArray → ByteArray → Int → Option ((List (S45)) × Bool)
 | 0, _, _, _, _, _, _, _, _, _ => none
 | k + 1, x105, x194000, x195000, x195001, x195002, x195003, x200000, x200001, x200002 => if x105 = true then (some (([] : List (S45)), false)) else ((spec_l03Without.f k x194000 x195001).bind fun t211 => ((spec_l03Put.f k t211 x195003 x200001 x200002).bind fun t214 => ((spec_DiskOk.f k t214).bind fun t217 => (if t217 = true then (some (t214, true)) else (some (([] : List (S45)), false))))))
end
def spec_DoAct.f (k : Nat) (l0_0 : List (S45)) (a1_0 : Int) (a1_1 : ByteArray) (a1_2 : ByteArray) (a1_3 : ByteArray) : Option ((List (S45)) × Bool) := (spec_DiskOk.f k l0_0).bind fun t196 => (if t196 = true then ((spec_l03Name.f a1_1).bind fun t197 => (if t197 = true then (if a1_0 = 3 then (if a1_0 = 1 then (spec_DoAct.j0 k false l0_0 a1_0 a1_1 a1_2 a1_3) else (spec_DoAct.j0 k (a1_2.toList != ([] : List UInt8)) l0_0 a1_0 a1_1 a1_2 a1_3)) else (if a1_3.toList = ([] : List UInt8) then (if a1_0 = 1 then (spec_DoAct.j0 k false l0_0 a1_0 a1_1 a1_2 a1_3) else (spec_DoAct.j0 k (a1_2.toList != ([] : List UInt8)) l0_0 a1_0 a1_1 a1_2 a1_3)) else (spec_DoAct.j0 k true l0_0 a1_0 a1_1 a1_2 a1_3))) else (spec_DoAct.j0 k true l0_0 a1_0 a1_1 a1_2 a1_3))) else (spec_DoAct.j0 k true l0_0 a1_0 a1_1 a1_2 a1_3))
theorem spec_DoAct.mono_l : ∀ k, (∀ y0 y1 y2 y3 y4 y5, LeO (spec_DoAct.j0 k y0 y1 y2 y3 y4 y5) (spec_DoAct.j0 (k + 1) y0 y1 y2 y3 y4 y5)) ∧ (∀ y0 y1 y2 y3 y4 y5 y6 y7 y8, LeO (spec_DoAct.j1 k y0 y1 y2 y3 y4 y5 y6 y7 y8) (spec_DoAct.j1 (k + 1) y0 y1 y2 y3 y4 y5 y6 y7 y8)) ∧ (∀ y0 y1 y2 y3 y4 y5 y6 y7 y8, LeO (spec_DoAct.j2 k y0 y1 y2 y3 y4 y5 y6 y7 y8) (spec_DoAct.j2 (k + 1) y0 y1 y2 y3 y4 y5 y6 y7 y8))
 | 0 => ⟨fun _ _ _ _ _ _ r h => by simp [spec_DoAct.j0] at h, fun _ _ _ _ _ _ _ _ _ r h => by simp [spec_DoAct.j1] at h, fun _ _ _ _ _ _ _ _ _ r h => by simp [spec_DoAct.j2] at h⟩
 | k + 1 => by
  obtain ⟨ih0, ih1, ih2⟩ := spec_DoAct.mono_l k
  refine ⟨?_, ?_, ?_⟩
  ·intro y0 y1 y2 y3 y4 y5
   unfold spec_DoAct.j0
   repeat' first
   | (with_reducible exact ih0 _ _ _ _ _ _)
   | (with_reducible exact ih1 _ _ _ _ _ _ _ _ _)
   | (with_reducible exact ih2 _ _ _ _ _ _ _ _ _)
   | (with_reducible exact spec_DiskOk.mono _ _)
   | (with_reducible exact spec_l03At.mono _ _ _)
   | (with_reducible exact spec_l03Put.mono _ _ _ _ _)
   | (with_reducible exact spec_l03Without.mono _ _ _)
   | (with_reducible exact LeO.refl _)
   | (with_reducible exact LeO.none _)
   | (with_reducible refine LeO.ite ?_ ?_)
   | (with_reducible refine LeO.bind ?_ (fun _ => ?_))
   | exact ih0 _ _ _ _ _ _
   | exact ih1 _ _ _ _ _ _ _ _ _
   | exact ih2 _ _ _ _ _ _ _ _ _
   | exact spec_DiskOk.mono _ _
   | exact spec_l03At.mono _ _ _
   | exact spec_l03Put.mono _ _ _ _ _
   | exact spec_l03Without.mono _ _ _
   | exact LeO.none _
   | refine LeO.ite ?_ ?_
   | refine LeO.bind ?_ (fun _ => ?_)
  ·intro y0 y1 y2 y3 y4 y5 y6 y7 y8
   unfold spec_DoAct.j1
   repeat' first
   | (with_reducible exact ih0 _ _ _ _ _ _)
   | (with_reducible exact ih1 _ _ _ _ _ _ _ _ _)
   | (with_reducible exact ih2 _ _ _ _ _ _ _ _ _)
   | (with_reducible exact spec_DiskOk.mono _ _)
   | (with_reducible exact spec_l03At.mono _ _ _)
   | (with_reducible exact spec_l03Put.mono _ _ _ _ _)
   | (with_reducible exact spec_l03Without.mono _ _ _)
   | (with_reducible exact LeO.refl _)
   | (with_reducible exact LeO.none _)
   | (with_reducible refine LeO.ite ?_ ?_)
   | (with_reducible refine LeO.bind ?_ (fun _ => ?_))
   | exact ih0 _ _ _ _ _ _
   | exact ih1 _ _ _ _ _ _ _ _ _
   | exact ih2 _ _ _ _ _ _ _ _ _
   | exact spec_DiskOk.mono _ _
   | exact spec_l03At.mono _ _ _
   | exact spec_l03Put.mono _ _ _ _ _
   | exact spec_l03Without.mono _ _ _
   | exact LeO.none _
   | refine LeO.ite ?_ ?_
   | refine LeO.bind ?_ (fun _ => ?_)
  intro y0 y1 y2 y3 y4 y5 y6 y7 y8
  unfold spec_DoAct.j2
  repeat' first
  | (with_reducible exact ih0 _ _ _ _ _ _)
  | (with_reducible exact ih1 _ _ _ _ _ _ _ _ _)
  | (with_reducible exact ih2 _ _ _ _ _ _ _ _ _)
  | (with_reducible exact spec_DiskOk.mono _ _)
  | (with_reducible exact spec_l03At.mono _ _ _)
  | (with_reducible exact spec_l03Put.mono _ _ _ _ _)
  | (with_reducible exact spec_l03Without.mono _ _ _)
  | (with_reducible exact LeO.refl _)
  | (with_reducible exact LeO.none _)
  | (with_reducible refine LeO.ite ?_ ?_)
  | (with_reducible refine LeO.bind ?_ (fun _ => ?_))
  | exact ih0 _ _ _ _ _ _
  | exact ih1 _ _ _ _ _ _ _ _ _
  | exact ih2 _ _ _ _ _ _ _ _ _
  | exact spec_DiskOk.mono _ _
  | exact spec_l03At.mono _ _ _
  | exact spec_l03Put.mono _ _ _ _ _
  | exact spec_l03Without.mono _ _ _
  | exact LeO.none _
  | refine LeO.ite ?_ ?_
  | refine LeO.bind ?_ (fun _ => ?_)
theorem spec_DoAct.mono : ∀ a0 a1 a2 a3 a4 k, LeO (spec_DoAct.f k a0 a1 a2 a3 a4) (spec_DoAct.f (k + 1) a0 a1 a2 a3 a4) := by
 intro a0 a1 a2 a3 a4 k
 obtain ⟨ih0, ih1, ih2⟩ := spec_DoAct.mono_l k
 unfold spec_DoAct.f
 repeat' first
   | (with_reducible exact ih0 _ _ _ _ _ _)
   | (with_reducible exact ih1 _ _ _ _ _ _ _ _ _)
   | (with_reducible exact ih2 _ _ _ _ _ _ _ _ _)
   | (with_reducible exact spec_DiskOk.mono _ _)
   | (with_reducible exact spec_l03At.mono _ _ _)
   | (with_reducible exact spec_l03Put.mono _ _ _ _ _)
   | (with_reducible exact spec_l03Without.mono _ _ _)
   | (with_reducible exact LeO.refl _)
   | (with_reducible exact LeO.none _)
   | (with_reducible refine LeO.ite ?_ ?_)
   | (with_reducible refine LeO.bind ?_ (fun _ => ?_))
   | exact ih0 _ _ _ _ _ _
   | exact ih1 _ _ _ _ _ _ _ _ _
   | exact ih2 _ _ _ _ _ _ _ _ _
   | exact spec_DiskOk.mono _ _
   | exact spec_l03At.mono _ _ _
   | exact spec_l03Put.mono _ _ _ _ _
   | exact spec_l03Without.mono _ _ _
   | exact LeO.none _
   | refine LeO.ite ?_ ?_
   | refine LeO.bind ?_ (fun _ => ?_)
abbrev q11_0 := #[o_,o_,o_,o_,o_,o_,o_]
abbrev q11_1 := #[o_,i_,o_,o_,o_,o_,o_]
abbrev q11_2 := #[i_,i_,o_,o_,o_,o_,o_]
abbrev q11_3 := #[i_,i_,i_,o_,o_,o_,o_]
abbrev q11_4 := #[i_,i_,i_,o_,i_,o_,o_]
abbrev q11_5 := #[i_,i_,i_,i_,i_,o_,o_]
abbrev q11_6 := #[i_,i_,i_,i_,i_,i_,o_]
abbrev q11_7 := #[i_,i_,i_,i_,i_,i_,i_]
set_option maxHeartbeats 8000000 in
set_option maxRecDepth 100000 in
theorem spec_DoAct.calls (k : Nat) (A0_0 : Option Addr) (c0_0 : Nat) (l0_0 : List (S45)) (a1_0 : Int) (a1_1 : ByteArray) (a1_2 : ByteArray) (a1_3 : ByteArray) (r1 : List (S45)) (r2 : Bool) (w : World) (hr0_0 : Kd.C k45 w A0_0 l0_0.length l0_0) (hc0_0 : l0_0.length ≤ c0_0) (h : spec_DoAct.f k l0_0 a1_0 a1_1 a1_2 a1_3 = some (r1, r2)) :
  Calls Try.prog 35 #[.agg #[.slice A0_0 l0_0.length c0_0], .agg #[.int .i64 a1_0, .string a1_1, .string a1_2, .string a1_3]] w fun e w' => ∃ v0_ : Value, e = .returned (.tuple #[.agg #[v0_], .bool r2]) ∧ Kd.R k45 45 w' w.heap.size (fun _ => True) v0_ r1 ∧ Below w.heap.size w w' := by
 have hu29 := Try.underlying29
 have hu55 := Try.underlying55
 have hu45 := Try.underlying45
 have HR0_0 := Aside0.mk hr0_0
 have Bp := Aside0.mk hc0_0
 clear hr0_0 hc0_0
 have HB := Aside0.mk (Below.refl w.heap.size w)
 have H : ((spec_DiskOk.f k l0_0).bind fun G9 => (if G9 = true then ((spec_l03Name.f a1_1).bind fun G8 => (if G8 = true then (if a1_0 = 3 then (if a1_0 = 1 then (spec_DoAct.j0 k false l0_0 a1_0 a1_1 a1_2 a1_3) else (spec_DoAct.j0 k (a1_2.toList != ([] : List UInt8)) l0_0 a1_0 a1_1 a1_2 a1_3)) else (if a1_3.toList = ([] : List UInt8) then (if a1_0 = 1 then (spec_DoAct.j0 k false l0_0 a1_0 a1_1 a1_2 a1_3) else (spec_DoAct.j0 k (a1_2.toList != ([] : List UInt8)) l0_0 a1_0 a1_1 a1_2 a1_3)) else (spec_DoAct.j0 k true l0_0 a1_0 a1_1 a1_2 a1_3))) else (spec_DoAct.j0 k true l0_0 a1_0 a1_1 a1_2 a1_3))) else (spec_DoAct.j0 k true l0_0 a1_0 a1_1 a1_2 a1_3))) = some (r1, r2) := h
 clear h
 have Mv := Aside0.mk H
 clear H
 go_enter Try.func35, Try.ntmps35
 go_upto_region 1 with (first | ((with_reducible refine gate_dst (N := 2) rfl ?_); refine zx (N := 2) (cs := #[.slice A0_0 l0_0.length c0_0]) (t := 29) ?_; intro Cr hg w4 hbox hb; have Ab := Aside0.mk (hbox); have GW193 := zg HB hg; have GE193 := zg HB hg; replace HB := zs HB hb; clear hb hbox hg) | ((with_reducible refine gate_dst (N := 3) rfl ?_); refine zx (N := 3) (cs := #[.int .i64 a1_0, .string a1_1, .string a1_2, .string a1_3]) (t := 55) ?_; intro Bv hg w5 hbox hb; have Aa := Aside0.mk (hbox); have GW194 := zg HB hg; have GE194 := zg HB hg; replace HB := zs HB hb; have Aw := zl Ab hg; have Au := zr Ab hg; replace Ab := zb Ab hb; clear hb hbox hg) | ((with_reducible refine gate_dst (N := 4) rfl ?_); refine zx (N := 4) (cs := #[.slice none 0 0]) (t := 29) ?_; intro Bi hg w6 hbox hb; have Ac := Aside0.mk (hbox); have GW195 := zg HB hg; have GE195 := zg HB hg; replace HB := zs HB hb; have Az := zl Ab hg; have Ay := zr Ab hg; replace Ab := zb Ab hb; have As := zl Aa hg; have Ar := zr Aa hg; replace Aa := zb Aa hb; clear hb hbox hg))
 (try simp only [Act.put, zA, zB, zC])
 go_cut [37] (fun Nx wc => ∃ (kq : Nat) (C2 : Bool), Nx = .bool C2 ∧ Aside0 (spec_DoAct.j0 kq C2 l0_0 a1_0 a1_1 a1_2 a1_3 = some (r1, r2)) ∧ Aside0 (kq ≤ k) ∧ Aside0 (wc.heap[Cr]? = some (.cells #[(.slice A0_0 l0_0.length c0_0)] 29 (0, 0))) ∧ Aside0 (wc.heap[Bv]? = some (.cells #[.int .i64 a1_0, .string a1_1, .string a1_2, .string a1_3] 55 (0, 0))) ∧ Aside0 (wc.heap[Bi]? = some (.cells #[(.slice none 0 0)] 29 (0, 0))) ∧ Aside0 (Below w.heap.size w wc))
 case first =>
  have H := Mv.out
  clear Mv
  replace H := Option.bind_eq_some_iff.mp H
  obtain ⟨G9, Nw, H⟩ := H
  have A7 := Aside0.mk Nw
  clear Nw
  by_cases c8 : G9 = true
  ·subst c8
   rw [if_pos rfl] at H
   replace H := Option.bind_eq_some_iff.mp H
   obtain ⟨G8, Nt, H⟩ := H
   have A9 := Aside0.mk Nt
   clear Nt
   by_cases Lb : G8 = true
   ·subst Lb
    rw [if_pos rfl] at H
    by_cases Fj : a1_0 = 3
    ·rw [if_pos Fj] at H
     have Cc : (a1_0 == 3) = true := beq_iff_eq.mpr Fj
     have C8 : (a1_0 != 3) = false := bne_eq_false_iff_eq.mpr Fj
     clear Fj
     (first | rw [Cc] | (simp only [i64_w, i32_w]; rw [Cc]) | skip)
     by_cases Fi : a1_0 = 1
     ·rw [if_pos Fi] at H
      have C7 : (a1_0 == 1) = true := beq_iff_eq.mpr Fi
      have C6 : (a1_0 != 1) = false := bne_eq_false_iff_eq.mpr Fi
      clear Fi
      have H' := Aside0.mk H
      clear H
      have hnb13 := Aw.out
      have hnc13 := Au.out
      have hnb14 := Az.out
      have hnc14 := Ay.out
      obtain ⟨E4, D8⟩ := zc1 Ab
      go_wp2_with (first | ((with_reducible refine gate_callee (f := 13) rfl ?_); refine zG (some 10) Try.func13 #[.agg #[.slice A0_0 l0_0.length c0_0]] ?_; (with_reducible refine (spec_DiskOk.calls k _ _ l0_0 true _ ?side1 ?side2 A7.out).mono ?_); (case side1 => exact zI (Kd.C_below HR0_0.out HB.out)); (case side2 => exact Bp.out); rintro e w16 ⟨rfl, hb⟩; refine ⟨_, rfl, ?_⟩; replace Ab := zb Ab hb; replace Aa := zb Aa hb; replace Ac := zb Ac hb; replace HB := zs HB hb; clear hb; have hnb17 := As.out; have hnc17 := Ar.out; obtain ⟨E3, E2, E1, E0, D7, D6, D5, D4⟩ := zc4 Aa) | (go_at_call 48; (with_reducible refine (spec_l03Name.calls a1_1 true _ A9.out).mono ?_); rintro e w' ⟨rfl, ⟨nd, rfl⟩⟩))
      go_meet
      case rel => exact ⟨_, (false), zf, H', ⟨by first | omega | exact Nat.le_refl _⟩, ⟨zkf Ab⟩, ⟨zkf Aa⟩, ⟨zkf Ac⟩, ⟨zw HB⟩⟩
     rw [if_neg Fi] at H
     have C7 : (a1_0 == 1) = false := beq_eq_false_iff_ne.mpr Fi
     have C6 : (a1_0 != 1) = true := bne_iff_ne.mpr Fi
     have H' := Aside0.mk H
     clear H
     have hnb19 := Aw.out
     have hnc19 := Au.out
     have hnb20 := Az.out
     have hnc20 := Ay.out
     obtain ⟨Ez, D3⟩ := zc1 Ab
     go_wp2_with (first | ((with_reducible refine gate_callee (f := 13) rfl ?_); refine zG (some 10) Try.func13 #[.agg #[.slice A0_0 l0_0.length c0_0]] ?_; (with_reducible refine (spec_DiskOk.calls k _ _ l0_0 true _ ?side1 ?side2 A7.out).mono ?_); (case side1 => exact zI (Kd.C_below HR0_0.out HB.out)); (case side2 => exact Bp.out); rintro e w22 ⟨rfl, hb⟩; refine ⟨_, rfl, ?_⟩; replace Ab := zb Ab hb; replace Aa := zb Aa hb; replace Ac := zb Ac hb; replace HB := zs HB hb; clear hb; have hnb23 := As.out; have hnc23 := Ar.out; obtain ⟨Ey, Ex, Ew, Eu, D2, D1, D0, Dz⟩ := zc4 Aa) | (go_at_call 48; (with_reducible refine (spec_l03Name.calls a1_1 true _ A9.out).mono ?_); rintro e w' ⟨rfl, ⟨nd, rfl⟩⟩))
     go_meet
     case rel => exact ⟨_, ((a1_2.toList != ([] : List UInt8))), (by first | rfl | (simp; done) | (simp [*]; done) | (generalize a1_2.toList = q_; cases q_ <;> rfl)), H', ⟨by first | omega | exact Nat.le_refl _⟩, ⟨zkf Ab⟩, ⟨zkf Aa⟩, ⟨zkf Ac⟩, ⟨zw HB⟩⟩
    rw [if_neg Fj] at H
    have Cc : (a1_0 == 3) = false := beq_eq_false_iff_ne.mpr Fj
    have C8 : (a1_0 != 3) = true := bne_iff_ne.mpr Fj
    (first | rw [Cc] | (simp only [i64_w, i32_w]; rw [Cc]) | skip)
    by_cases Fh : a1_3.toList = ([] : List UInt8)
    ·rw [if_pos Fh] at H
     have Cm : (a1_3.toList == ([] : List UInt8)) = true := beq_iff_eq.mpr Fh
     have Mu : a1_3.toList.isEmpty = true := by revert Cm; cases a1_3.toList <;> simp
     have C5 : (a1_3.toList != ([] : List UInt8)) = false := bne_eq_false_iff_eq.mpr Fh
     clear Fh
     by_cases Fg : a1_0 = 1
     ·rw [if_pos Fg] at H
      have C4 : (a1_0 == 1) = true := beq_iff_eq.mpr Fg
      have C3 : (a1_0 != 1) = false := bne_eq_false_iff_eq.mpr Fg
      clear Fg
      have H' := Aside0.mk H
      clear H
      have hnb27 := Aw.out
      have hnc27 := Au.out
      have hnb28 := Az.out
      have hnc28 := Ay.out
      obtain ⟨Et, Dy⟩ := zc1 Ab
      go_wp2_with (first | ((with_reducible refine gate_callee (f := 13) rfl ?_); refine zG (some 10) Try.func13 #[.agg #[.slice A0_0 l0_0.length c0_0]] ?_; (with_reducible refine (spec_DiskOk.calls k _ _ l0_0 true _ ?side1 ?side2 A7.out).mono ?_); (case side1 => exact zI (Kd.C_below HR0_0.out HB.out)); (case side2 => exact Bp.out); rintro e w30 ⟨rfl, hb⟩; refine ⟨_, rfl, ?_⟩; replace Ab := zb Ab hb; replace Aa := zb Aa hb; replace Ac := zb Ac hb; replace HB := zs HB hb; clear hb; have hnb31 := As.out; have hnc31 := Ar.out; obtain ⟨Es, Er, Eq, Ep, Dx, Dw, Dv, Du⟩ := zc4 Aa) | (go_at_call 48; (with_reducible refine (spec_l03Name.calls a1_1 true _ A9.out).mono ?_); rintro e w' ⟨rfl, ⟨nd, rfl⟩⟩))
      go_meet
      case rel => exact ⟨_, (false), zf, H', ⟨by first | omega | exact Nat.le_refl _⟩, ⟨zkf Ab⟩, ⟨zkf Aa⟩, ⟨zkf Ac⟩, ⟨zw HB⟩⟩
     rw [if_neg Fg] at H
     have C4 : (a1_0 == 1) = false := beq_eq_false_iff_ne.mpr Fg
     have C3 : (a1_0 != 1) = true := bne_iff_ne.mpr Fg
     have H' := Aside0.mk H
     clear H
     have hnb33 := Aw.out
     have hnc33 := Au.out
     have hnb34 := Az.out
     have hnc34 := Ay.out
     obtain ⟨Eo, Dt⟩ := zc1 Ab
     go_wp2_with (first | ((with_reducible refine gate_callee (f := 13) rfl ?_); refine zG (some 10) Try.func13 #[.agg #[.slice A0_0 l0_0.length c0_0]] ?_; (with_reducible refine (spec_DiskOk.calls k _ _ l0_0 true _ ?side1 ?side2 A7.out).mono ?_); (case side1 => exact zI (Kd.C_below HR0_0.out HB.out)); (case side2 => exact Bp.out); rintro e w36 ⟨rfl, hb⟩; refine ⟨_, rfl, ?_⟩; replace Ab := zb Ab hb; replace Aa := zb Aa hb; replace Ac := zb Ac hb; replace HB := zs HB hb; clear hb; have hnb37 := As.out; have hnc37 := Ar.out; obtain ⟨En, Em, El, Ek, Ds, Dr, Dq, Dp⟩ := zc4 Aa) | (go_at_call 48; (with_reducible refine (spec_l03Name.calls a1_1 true _ A9.out).mono ?_); rintro e w' ⟨rfl, ⟨nd, rfl⟩⟩))
     go_meet
     case rel => exact ⟨_, ((a1_2.toList != ([] : List UInt8))), (by first | rfl | (simp; done) | (simp [*]; done) | (generalize a1_2.toList = q_; cases q_ <;> rfl)), H', ⟨by first | omega | exact Nat.le_refl _⟩, ⟨zkf Ab⟩, ⟨zkf Aa⟩, ⟨zkf Ac⟩, ⟨zw HB⟩⟩
    rw [if_neg Fh] at H
    have Cm : (a1_3.toList == ([] : List UInt8)) = false := beq_eq_false_iff_ne.mpr Fh
    have Mu : a1_3.toList.isEmpty = false := by revert Cm; cases a1_3.toList <;> simp
    have C5 : (a1_3.toList != ([] : List UInt8)) = true := bne_iff_ne.mpr Fh
    have H' := Aside0.mk H
    clear H
    have hnb39 := Aw.out
    have hnc39 := Au.out
    have hnb40 := Az.out
    have hnc40 := Ay.out
    obtain ⟨Ej, Do⟩ := zc1 Ab
    go_wp2_with (first | ((with_reducible refine gate_callee (f := 13) rfl ?_); refine zG (some 10) Try.func13 #[.agg #[.slice A0_0 l0_0.length c0_0]] ?_; (with_reducible refine (spec_DiskOk.calls k _ _ l0_0 true _ ?side1 ?side2 A7.out).mono ?_); (case side1 => exact zI (Kd.C_below HR0_0.out HB.out)); (case side2 => exact Bp.out); rintro e w42 ⟨rfl, hb⟩; refine ⟨_, rfl, ?_⟩; replace Ab := zb Ab hb; replace Aa := zb Aa hb; replace Ac := zb Ac hb; replace HB := zs HB hb; clear hb; have hnb43 := As.out; have hnc43 := Ar.out; obtain ⟨Ei, Eh, Eg, Ef, Dn, Dm, Dl, Dk⟩ := zc4 Aa) | (go_at_call 48; (with_reducible refine (spec_l03Name.calls a1_1 true _ A9.out).mono ?_); rintro e w' ⟨rfl, ⟨nd, rfl⟩⟩))
    go_meet
    case rel => exact ⟨_, (true), zf, H', ⟨by first | omega | exact Nat.le_refl _⟩, ⟨zkf Ab⟩, ⟨zkf Aa⟩, ⟨zkf Ac⟩, ⟨zw HB⟩⟩
   replace Lb := Bool.eq_false_iff.mpr Lb
   subst Lb
   rw [if_neg (show ¬ (false = true) by decide)] at H
   have H' := Aside0.mk H
   clear H
   have hnb45 := Aw.out
   have hnc45 := Au.out
   have hnb46 := Az.out
   have hnc46 := Ay.out
   obtain ⟨Ee, Dj⟩ := zc1 Ab
   go_wp2_with (first | ((with_reducible refine gate_callee (f := 13) rfl ?_); refine zG (some 10) Try.func13 #[.agg #[.slice A0_0 l0_0.length c0_0]] ?_; (with_reducible refine (spec_DiskOk.calls k _ _ l0_0 true _ ?side1 ?side2 A7.out).mono ?_); (case side1 => exact zI (Kd.C_below HR0_0.out HB.out)); (case side2 => exact Bp.out); rintro e w48 ⟨rfl, hb⟩; refine ⟨_, rfl, ?_⟩; replace Ab := zb Ab hb; replace Aa := zb Aa hb; replace Ac := zb Ac hb; replace HB := zs HB hb; clear hb; have hnb49 := As.out; have hnc49 := Ar.out; obtain ⟨Ed, Ec, Eb, Ea, Di, Dh, Dg, Df⟩ := zc4 Aa) | (go_at_call 48; (with_reducible refine (spec_l03Name.calls a1_1 false _ A9.out).mono ?_); rintro e w' ⟨rfl, ⟨nd, rfl⟩⟩))
   go_meet
   case rel => exact ⟨_, (true), zf, H', ⟨by first | omega | exact Nat.le_refl _⟩, ⟨zkf Ab⟩, ⟨zkf Aa⟩, ⟨zkf Ac⟩, ⟨zw HB⟩⟩
  replace c8 := Bool.eq_false_iff.mpr c8
  subst c8
  rw [if_neg (show ¬ (false = true) by decide)] at H
  have H' := Aside0.mk H
  clear H
  have hnb51 := Aw.out
  have hnc51 := Au.out
  have hnb52 := Az.out
  have hnc52 := Ay.out
  obtain ⟨D9, De⟩ := zc1 Ab
  go_wp2_with (first | ((with_reducible refine gate_callee (f := 13) rfl ?_); refine zG (some 10) Try.func13 #[.agg #[.slice A0_0 l0_0.length c0_0]] ?_; (with_reducible refine (spec_DiskOk.calls k _ _ l0_0 false _ ?side1 ?side2 A7.out).mono ?_); (case side1 => exact zI (Kd.C_below HR0_0.out HB.out)); (case side2 => exact Bp.out); rintro e w54 ⟨rfl, hb⟩; refine ⟨_, rfl, ?_⟩; replace Ab := zb Ab hb; replace Aa := zb Aa hb; replace Ac := zb Ac hb; replace HB := zs HB hb; clear hb))
  go_meet
  case rel => exact ⟨_, (true), zf, H', ⟨by first | omega | exact Nat.le_refl _⟩, ⟨zkf Ab⟩, ⟨zkf Aa⟩, ⟨zkf Ac⟩, ⟨zw HB⟩⟩
 case rest =>
  clear Mv
  try clear c1
  try clear c2
  try clear p2
  try clear c3
  try clear c4
  try clear c5
  try clear c8
  try clear Lb
  try clear Fj
  try clear Cc
  try clear C8
  try clear Fi
  try clear C7
  try clear C6
  try clear Ns
  try clear Nr
  try clear Np
  try clear Nl
  try clear Nh
  try clear Ng
  try clear Fh
  try clear Cm
  try clear C5
  try clear Fg
  try clear C4
  try clear C3
  try clear Nf
  try clear Nd
  try clear Nc
  try clear Nb
  try clear Na
  try clear M9
  try clear M8
  try clear M7
  try clear M6
  try clear M5
  try clear M4
  try clear M3
  try clear M2
  try clear M1
  try clear M0
  try clear E4
  try clear E3
  try clear E2
  try clear E1
  try clear E0
  try clear Ez
  try clear Ey
  try clear Ex
  try clear Ew
  try clear Eu
  try clear Et
  try clear Es
  try clear Er
  try clear Eq
  try clear Ep
  try clear Eo
  try clear En
  try clear Em
  try clear El
  try clear Ek
  try clear Ej
  try clear Ei
  try clear Eh
  try clear Eg
  try clear Ef
  try clear Ee
  try clear Ed
  try clear Ec
  try clear Eb
  try clear Ea
  try clear D9
  try clear D8
  try clear D7
  try clear D6
  try clear D5
  try clear D4
  try clear D3
  try clear D2
  try clear D1
  try clear D0
  try clear Dz
  try clear Dy
  try clear Dx
  try clear Dw
  try clear Dv
  try clear Du
  try clear Dt
  try clear Ds
  try clear Dr
  try clear Dq
  try clear Dp
  try clear Do
  try clear Dn
  try clear Dm
  try clear Dl
  try clear Dk
  try clear Dj
  try clear Di
  try clear Dh
  try clear Dg
  try clear Df
  try clear De
  obtain ⟨kq, C2, rfl, HA, HJ2, Ab, Aa, Ac, HB⟩ := hcut
  cases kq with
  | zero => exact absurd HA.out (by simp [spec_DoAct.j0])
  | succ Mz =>
   have H := HA.out
   clear HA
   simp only [spec_DoAct.j0] at H
   by_cases Lg : C2 = true
   ·subst Lg
    rw [if_pos rfl] at H
    simp only [Option.some.injEq, Prod.mk.injEq] at H
    obtain ⟨rfl, rfl⟩ := H
    have hnb56 := Ay.out
    have hnc56 := Az.out
    have hnb57 := Ar.out
    have hnc57 := As.out
    obtain ⟨Gk, F3⟩ := zc1 Ac
    go_wp2
    refine bodyPost_ret (results_ct rfl _ _ Bi 29 #[.slice none 0 0] (0, 0) _ rfl (zj Ac) Try.underlying29 rfl (by kernel_rfl)) rfl ?_
    exact ⟨_, ze, by first | exact Kd.R_nil _ _ _ _ _ | exact Kd.N_nil _ _ _ _ _ | exact Kd.V_nil _ _ _ _ _ | exact Kd.Q_nil _ _ _ _ _ | exact Kd.S_nil _ _ _ _ _, zw HB⟩
   replace Lg := Bool.eq_false_iff.mpr Lg
   subst Lg
   rw [if_neg (show ¬ (false = true) by decide)] at H
   replace H := Option.bind_eq_some_iff.mp H
   obtain ⟨B2, L8, H⟩ := H
   have Od := Aside0.mk L8
   clear L8
   have Lc := Aside0.mk H
   clear H
   have hnb61 := Aw.out
   have hnc61 := Au.out
   have hnb62 := Az.out
   have hnc62 := Ay.out
   obtain ⟨Gj, F2⟩ := zc1 Ab
   have hnb64 := As.out
   have hnc64 := Ar.out
   obtain ⟨Gi, Gh, Gg, Gf, F1, F0, Fz, Fy⟩ := zc4 Aa
   go_upto_if 47 with (first | ((with_reducible refine gate_callee (f := 53) rfl ?_); refine zG (some 42) Try.func53 #[.agg #[.slice A0_0 l0_0.length c0_0], .string a1_1] ?_; (with_reducible refine (spec_l03At.calls Mz _ _ l0_0 a1_1 B2 _ ?side1 ?side2 Od.out).mono ?_); (case side1 => exact zI (Kd.C_below HR0_0.out HB.out)); (case side2 => exact Bp.out); rintro e w66 ⟨rfl, hb⟩; refine ⟨_, rfl, ?_⟩; replace Ab := zb Ab hb; replace Aa := zb Aa hb; replace Ac := zb Ac hb; replace HB := zs HB hb; clear hb; obtain ⟨Ge, Gd, Gc, Gb, Fx, Fw, Fv, Fu⟩ := zc4 Aa) | ((with_reducible refine gate_dst (N := 7) rfl ?_); refine zx (N := 7) (cs := #[.string (⟨#[]⟩ : ByteArray), .string (⟨#[]⟩ : ByteArray), .int .i64 0]) (t := 45) ?_; intro Ba hg w68 hbox hb; have Ad := Aside0.mk (hbox); have Ff := zg HB hg; have GE199 := zg HB hg; replace HB := zs HB hb; have Bg := zl Ab hg; have Bf := zr Ab hg; replace Ab := zb Ab hb; have Be := zl Aa hg; have Bc := zr Aa hg; replace Aa := zb Aa hb; have Bd := zl Ac hg; have Bb := zr Ac hg; replace Ac := zb Ac hb; clear hb hbox hg; have hnb69 := Bf.out; have hnc69 := Bg.out; have hnb70 := Bc.out; have hnc70 := Be.out; have hnb71 := Bb.out; have hnc71 := Bd.out; obtain ⟨Ga, F9, F8, Ft, Fs, Fr⟩ := zc3 Ad))
   (try simp only [Act.put, zA, zB, zC])
   go_cut [] (fun wc => ∃ (kq : Nat) (Aj : ByteArray) (Ae : ByteArray) (Ag : Int), Aside0 (spec_DoAct.j1 kq B2 l0_0 a1_0 a1_1 a1_2 a1_3 Aj Ae Ag = some (r1, r2)) ∧ Aside0 (kq ≤ Mz) ∧ Aside0 (wc.heap[Cr]? = some (.cells #[(.slice A0_0 l0_0.length c0_0)] 29 (0, 0))) ∧ Aside0 (wc.heap[Bv]? = some (.cells #[.int .i64 a1_0, .string a1_1, .string a1_2, .string a1_3] 55 (0, 0))) ∧ Aside0 (wc.heap[Bi]? = some (.cells #[(.slice none 0 0)] 29 (0, 0))) ∧ Aside0 (wc.heap[Ba]? = some (.cells #[.string Aj, .string Ae, .int .i64 Ag] 45 (0, 0))) ∧ Aside0 (Below w.heap.size w wc))
   case first =>
    have H := Lc.out
    clear Lc
    by_cases Gx : B2 ≥ 0
    ·rw [if_pos Gx] at H
     have Ci : decide (0 ≤ B2) = true := decide_eq_true Gx
     clear Gx
     (first | rw [Ci] | (simp only [i64_w, i32_w]; rw [Ci]) | skip)
     by_cases Lf : 0 ≤ B2
     ·rw [if_pos Lf] at H
      have Gw := decide_eq_true Lf
      clear Lf
      by_cases Le : B2 < (l0_0.length : Int)
      ·rw [if_pos Le] at H
       have Gv := decide_eq_true Le
       clear Le
       have H' := Aside0.mk H
       clear H
       have hnb76 := Aw.out
       have hnc76 := Au.out
       have hnb77 := Az.out
       have hnc77 := Ay.out
       have hnb78 := Bg.out
       have hnc78 := Bf.out
       obtain ⟨F7, Fq⟩ := zc1 Ab
       have Dd : 0 ≤ (B2 : Int) := of_decide_eq_true za
       have Dc : B2 < (l0_0.length : Int) := of_decide_eq_true za
       obtain ⟨Fd, Mt, Bh, Bk, Bj⟩ := at_T45 HR0_0.out B2 Dd Dc
       cases Mt
       have Bn : Fd.block ≠ Ba := Nat.ne_of_lt (Nat.lt_of_lt_of_le (by have := World.block_lt_of_cell? _ _ Bh; first | rwa [add_block] at this | exact this) Ff.out)
       have Bm : Fd.block ≠ Ba := Nat.ne_of_lt (Nat.lt_of_lt_of_le (by have := World.block_lt_of_cell? _ _ Bh; first | rwa [add_block] at this | exact this) Ff.out)
       have Bl : Fd.block ≠ Ba := Nat.ne_of_lt (Nat.lt_of_lt_of_le (by have := World.block_lt_of_cell? _ _ Bh; first | rwa [add_block] at this | exact this) Ff.out)
       replace Bh := zU HB.out Bh
       replace Bk := zU HB.out Bk
       replace Bj := zU HB.out Bj
       replace Bh := (cell_far (p := ⟨Ba, 0, none⟩) (by first | (rw [add_block]; exact Bn) | (show (Addr.add _ _).block ≠ _; rw [add_block]; exact Bn) | exact Bn) (.string a1_1)).trans Bh
       replace Bk := (cell_far (p := ⟨Ba, 0, none⟩) (by first | (rw [add_block]; exact Bn) | (show (Addr.add _ _).block ≠ _; rw [add_block]; exact Bn) | exact Bn) (.string a1_1)).trans Bk
       replace Bj := (cell_far (p := ⟨Ba, 0, none⟩) (by first | (rw [add_block]; exact Bn) | (show (Addr.add _ _).block ≠ _; rw [add_block]; exact Bn) | exact Bn) (.string a1_1)).trans Bj
       replace Bh := (cell_far (p := ⟨Ba, 1, none⟩) (by first | (rw [add_block]; exact Bm) | (show (Addr.add _ _).block ≠ _; rw [add_block]; exact Bm) | exact Bm) (.string (⟨#[]⟩ : ByteArray))).trans Bh
       replace Bk := (cell_far (p := ⟨Ba, 1, none⟩) (by first | (rw [add_block]; exact Bm) | (show (Addr.add _ _).block ≠ _; rw [add_block]; exact Bm) | exact Bm) (.string (⟨#[]⟩ : ByteArray))).trans Bk
       replace Bj := (cell_far (p := ⟨Ba, 1, none⟩) (by first | (rw [add_block]; exact Bm) | (show (Addr.add _ _).block ≠ _; rw [add_block]; exact Bm) | exact Bm) (.string (⟨#[]⟩ : ByteArray))).trans Bj
       replace Bh := (cell_far (p := ⟨Ba, 2, none⟩) (by first | (rw [add_block]; exact Bl) | (show (Addr.add _ _).block ≠ _; rw [add_block]; exact Bl) | exact Bl) (.int .i64 0)).trans Bh
       replace Bk := (cell_far (p := ⟨Ba, 2, none⟩) (by first | (rw [add_block]; exact Bl) | (show (Addr.add _ _).block ≠ _; rw [add_block]; exact Bl) | exact Bl) (.int .i64 0)).trans Bk
       replace Bj := (cell_far (p := ⟨Ba, 2, none⟩) (by first | (rw [add_block]; exact Bl) | (show (Addr.add _ _).block ≠ _; rw [add_block]; exact Bl) | exact Bl) (.int .i64 0)).trans Bj
       clear Bn
       clear Bm
       clear Bl
       replace Dd := eq_true Dd
       replace Dc := eq_true Dc
       have hnb80 := Bc.out
       have hnc80 := Be.out
       have hnb81 := Bb.out
       have hnc81 := Bd.out
       obtain ⟨F6, F5, F4, Fp, Fo, Fn⟩ := zc3 Ad
       go_wp2
       go_meet
       case rel => exact ⟨_, ((rd_T45 l0_0 B2).f0), ((rd_T45 l0_0 B2).f1), ((rd_T45 l0_0 B2).f2), H', ⟨by have := HJ2.out; first | omega | exact Nat.le_refl _⟩, ⟨zkf Ab⟩, ⟨zkf Aa⟩, ⟨zkf Ac⟩, ⟨zj Ad⟩, ⟨zw HB⟩⟩
      rw [if_neg Le] at H
      exact absurd H (by simp)
     rw [if_neg Lf] at H
     exact absurd H (by simp)
    rw [if_neg Gx] at H
    have Ci : decide (0 ≤ B2) = false := decide_eq_false Gx
    clear Gx
    (first | rw [Ci] | (simp only [i64_w, i32_w]; rw [Ci]) | skip)
    have H' := Aside0.mk H
    clear H
    go_wp2
    go_meet
    case rel => exact ⟨_, (a1_1), ((⟨#[]⟩ : ByteArray)), (0), H', ⟨by have := HJ2.out; first | omega | exact Nat.le_refl _⟩, ⟨zkf Ab⟩, ⟨zkf Aa⟩, ⟨zkf Ac⟩, ⟨zj Ad⟩, ⟨zw HB⟩⟩
   case rest =>
    clear Lc
    try clear c1
    try clear c2
    try clear p2
    try clear q2
    try clear Ny
    try clear c3
    try clear c4
    try clear c5
    try clear c6
    try clear c7
    try clear c8
    try clear Lb
    try clear Fj
    try clear Cc
    try clear C8
    try clear Fi
    try clear C7
    try clear C6
    try clear Ns
    try clear Nr
    try clear Np
    try clear Nl
    try clear Nh
    try clear My
    try clear Mx
    try clear Ms
    try clear Ng
    try clear Fh
    try clear Cm
    try clear C5
    try clear Fg
    try clear C4
    try clear C3
    try clear Nf
    try clear Nd
    try clear Nc
    try clear Nb
    try clear Na
    try clear M9
    try clear M8
    try clear M7
    try clear M6
    try clear M5
    try clear M4
    try clear M3
    try clear M2
    try clear M1
    try clear M0
    try clear Oc
    try clear Lg
    try clear Ob
    try clear Oa
    try clear N9
    try clear N8
    try clear N7
    try clear N6
    try clear N5
    try clear N4
    try clear Gx
    try clear Ci
    try clear Lf
    try clear Gw
    try clear Le
    try clear Gv
    try clear N3
    try clear N2
    try clear N1
    try clear N0
    try clear Nz
    try clear E4
    try clear E3
    try clear E2
    try clear E1
    try clear E0
    try clear Ez
    try clear Ey
    try clear Ex
    try clear Ew
    try clear Eu
    try clear Et
    try clear Es
    try clear Er
    try clear Eq
    try clear Ep
    try clear Eo
    try clear En
    try clear Em
    try clear El
    try clear Ek
    try clear Ej
    try clear Ei
    try clear Eh
    try clear Eg
    try clear Ef
    try clear Ee
    try clear Ed
    try clear Ec
    try clear Eb
    try clear Ea
    try clear D9
    try clear Gk
    try clear Gj
    try clear Gi
    try clear Gh
    try clear Gg
    try clear Gf
    try clear Ge
    try clear Gd
    try clear Gc
    try clear Gb
    try clear Ga
    try clear F9
    try clear F8
    try clear F7
    try clear F6
    try clear F5
    try clear F4
    try clear D8
    try clear D7
    try clear D6
    try clear D5
    try clear D4
    try clear D3
    try clear D2
    try clear D1
    try clear D0
    try clear Dz
    try clear Dy
    try clear Dx
    try clear Dw
    try clear Dv
    try clear Du
    try clear Dt
    try clear Ds
    try clear Dr
    try clear Dq
    try clear Dp
    try clear Do
    try clear Dn
    try clear Dm
    try clear Dl
    try clear Dk
    try clear Dj
    try clear Di
    try clear Dh
    try clear Dg
    try clear Df
    try clear De
    try clear F3
    try clear F2
    try clear F1
    try clear F0
    try clear Fz
    try clear Fy
    try clear Fx
    try clear Fw
    try clear Fv
    try clear Fu
    try clear Ft
    try clear Fs
    try clear Fr
    try clear Fq
    try clear Fp
    try clear Fo
    try clear Fn
    try clear Bh
    try clear Bk
    try clear Bj
    try clear p2
    try clear Dd
    try clear Dc
    obtain ⟨kq, Aj, Ae, Ag, HA, HJ59, Ab, Aa, Ac, Ad, HB⟩ := hcut
    cases kq with
    | zero => exact absurd HA.out (by simp [spec_DoAct.j1])
    | succ B8 =>
     have H := HA.out
     clear HA
     simp only [spec_DoAct.j1] at H
     by_cases Gu : a1_0 = 1
     ·rw [if_pos Gu] at H
      have Gt : (a1_0 == 1) = true := beq_iff_eq.mpr Gu
      have Gs : (a1_0 != 1) = false := bne_eq_false_iff_eq.mpr Gu
      clear Gu
      by_cases Ld : Ae.size + a1_2.size ≤ 9223372036854775807
      ·rw [if_pos Ld] at H
       have L5 := eq_true Ld
       have L4 := decide_eq_true Ld
       try have L3 : (9223372036854775807 < Ae.size + a1_2.size) = False := eq_false (Nat.not_lt.2 Ld)
       replace H := Option.bind_eq_some_iff.mp H
       obtain ⟨Bz, L7, H⟩ := H
       have Nv := Aside0.mk L7
       clear L7
       replace H := Option.bind_eq_some_iff.mp H
       obtain ⟨Mr, L6, H⟩ := H
       have Nu := Aside0.mk L6
       clear L6
       by_cases L0 : Mr = true
       ·subst L0
        rw [if_pos rfl] at H
        simp only [Option.some.injEq, Prod.mk.injEq] at H
        obtain ⟨rfl, rfl⟩ := H
        go_wp2_with (first | ((with_reducible refine gate_dst (N := 8) rfl ?_); refine zx (N := 8) (cs := #[.slice none 0 0]) (t := 29) ?_; intro Ak hg w88 hbox hb; have Af := Aside0.mk (hbox); have Cd := zg HB hg; have Ce := zg HB hg; replace HB := zs HB hb; have Ao := zl Ab hg; have Ax := zr Ab hg; replace Ab := zb Ab hb; have Ah := zl Aa hg; have Am := zr Aa hg; replace Aa := zb Aa hb; have Aq := zl Ac hg; have Ap := zr Ac hg; replace Ac := zb Ac hb; have Ai := zl Ad hg; have Al := zr Ad hg; replace Ad := zb Ad hb; clear hb hbox hg; have hnb89 := Ax.out; have hnc89 := Ao.out; have hnb90 := Am.out; have hnc90 := Ah.out; have hnb91 := Ap.out; have hnc91 := Aq.out; have hnb92 := Al.out; have hnc92 := Ai.out; obtain ⟨Lt, Lo⟩ := zc1 Af; have hnb94 := Au.out; have hnc94 := Aw.out; have hnb95 := As.out; have hnc95 := Ar.out; have hnb96 := Be.out; have hnc96 := Bc.out; obtain ⟨Ls, Lr, Lq, Lp, Ln, Lm, Ll, Lk⟩ := zc4 Aa; have hnb98 := Bf.out; have hnc98 := Bg.out; have hnb99 := Bb.out; have hnc99 := Bd.out; obtain ⟨K8, K7, K6, I9, I8, I7⟩ := zc3 Ad; have hnb101 := Az.out; have hnc101 := Ay.out; obtain ⟨K5, I6⟩ := zc1 Ab) | ((with_reducible refine gate_callee (f := 58) rfl ?_); refine zG (some 67) Try.func58 #[.agg #[.slice A0_0 l0_0.length c0_0], .agg #[.string Aj, .string (Ae ++ a1_2), .int .i64 Ag]] ?_; (with_reducible refine (spec_l03Put.calls B8 _ _ l0_0 Aj (Ae ++ a1_2) Ag Bz _ ?side1 ?side2 Nv.out).mono ?_); (case side1 => exact Kd.C_below HR0_0.out (zw HB)); (case side2 => exact Bp.out); rintro e w103 ⟨Mm, rfl, B0, hb⟩; refine ⟨_, rfl, ?_⟩; have Bt := Aside0.mk (Kd.R_lower (Kd.R_newB B0 (g := Ba) (o := .cells #[.string Aj, .string (Ae ++ a1_2), .int .i64 Ag] 45 (0, 0)) (zj Ad)) (below_size (zw HB))); replace Ab := zbf Ab hb; replace Aa := zbf Aa hb; replace Ac := zbf Ac hb; replace Ad := Aside0.mk (blk_below (g := Ba) (o := .cells #[.string Aj, .string (Ae ++ a1_2), .int .i64 Ag] 45 (0, 0)) (zj Ad) hb); replace Af := Aside0.mk (blk_below (g := Ak) (o := .cells #[.slice none 0 0] 29 (0, 0)) (zj Af) hb); replace HB := zs HB hb; clear B0 hb; obtain ⟨Cp, Ch, Lz⟩ := Kd.R_slice Bt.out; subst Lz; obtain ⟨K4, I5⟩ := zc1 Af) | ((with_reducible refine gate_callee (f := 13) rfl ?_); refine zG (some 125) Try.func13 #[.agg #[.slice Cp Bz.length Ch]] ?_; (with_reducible refine (spec_DiskOk.calls B8 _ _ Bz true _ ?side1 ?side2 Nu.out).mono ?_); (case side1 => refine (Kd.R_reads' (e := 45) (base := w.heap.size) (ok := fun k_ => (True ∧ k_ ≠ Ba)) (n := Bz.length) (c := Ch) ?_).2.2; exact (zo ((Kd.R_mono (Kd.R_far (p := ⟨Ak, 0, none⟩) (Kd.R_types Bt.out Af.out (by decide)) (fun _ hk => hk.2) (.slice Cp Bz.length Ch)) (fun _ h_ => h_.1))))); (case side2 => exact (Kd.R_reads' Bt.out).2.1); rintro e w106 ⟨rfl, hb⟩; refine ⟨_, rfl, ?_⟩; replace Bt := Aside0.mk (Kd.R_below (zo ((Kd.R_mono (Kd.R_far (p := ⟨Ak, 0, none⟩) (Kd.R_types Bt.out Af.out (by decide)) (fun _ hk => hk.2) (.slice Cp Bz.length Ch)) (fun _ h_ => h_.1)))) hb); replace Ab := zbf Ab hb; replace Aa := zbf Aa hb; replace Ac := zbf Ac hb; replace Ad := zbf Ad hb; replace Af := Aside0.mk (blk_below (g := Ak) (o := .cells #[.slice Cp Bz.length Ch] 29 (0, 0)) (zj Af) hb); replace HB := zs HB hb; clear hb; obtain ⟨K3, I4⟩ := zc1 Af; obtain ⟨K2, I3⟩ := zc1 Ac))
        refine bodyPost_ret (results_ct rfl _ _ Bi 29 #[.slice Cp Bz.length Ch] (0, 0) _ rfl (zj Ac) Try.underlying29 rfl (by kernel_rfl)) rfl ?_
        exact ⟨_, ze, zo (Kd.R_mono (Kd.R_far (p := ⟨Bi, 0, none⟩) (Kd.R_types Bt.out Ac.out (by decide)) (fun _ hk => hk.2) (.slice Cp Bz.length Ch)) (fun _ hk => trivial)), zw HB⟩
       replace L0 := Bool.eq_false_iff.mpr L0
       subst L0
       rw [if_neg (show ¬ (false = true) by decide)] at H
       simp only [Option.some.injEq, Prod.mk.injEq] at H
       obtain ⟨rfl, rfl⟩ := H
       go_wp2_with (first | ((with_reducible refine gate_dst (N := 8) rfl ?_); refine zx (N := 8) (cs := #[.slice none 0 0]) (t := 29) ?_; intro Ak hg w109 hbox hb; have Af := Aside0.mk (hbox); have Cd := zg HB hg; have Ce := zg HB hg; replace HB := zs HB hb; have Ao := zl Ab hg; have Ax := zr Ab hg; replace Ab := zb Ab hb; have Ah := zl Aa hg; have Am := zr Aa hg; replace Aa := zb Aa hb; have Aq := zl Ac hg; have Ap := zr Ac hg; replace Ac := zb Ac hb; have Ai := zl Ad hg; have Al := zr Ad hg; replace Ad := zb Ad hb; clear hb hbox hg; have hnb110 := Ax.out; have hnc110 := Ao.out; have hnb111 := Am.out; have hnc111 := Ah.out; have hnb112 := Ap.out; have hnc112 := Aq.out; have hnb113 := Al.out; have hnc113 := Ai.out; obtain ⟨K1, I2⟩ := zc1 Af; have hnb115 := Au.out; have hnc115 := Aw.out; have hnb116 := As.out; have hnc116 := Ar.out; have hnb117 := Be.out; have hnc117 := Bc.out; obtain ⟨K0, Kz, Ky, Kx, I1, I0, Iz, Iy⟩ := zc4 Aa; have hnb119 := Bf.out; have hnc119 := Bg.out; have hnb120 := Bb.out; have hnc120 := Bd.out; obtain ⟨Kw, Kv, Ku, Ix, Iw, Iv⟩ := zc3 Ad; have hnb122 := Az.out; have hnc122 := Ay.out; obtain ⟨Kt, Iu⟩ := zc1 Ab) | ((with_reducible refine gate_callee (f := 58) rfl ?_); refine zG (some 67) Try.func58 #[.agg #[.slice A0_0 l0_0.length c0_0], .agg #[.string Aj, .string (Ae ++ a1_2), .int .i64 Ag]] ?_; (with_reducible refine (spec_l03Put.calls B8 _ _ l0_0 Aj (Ae ++ a1_2) Ag Bz _ ?side1 ?side2 Nv.out).mono ?_); (case side1 => exact Kd.C_below HR0_0.out (zw HB)); (case side2 => exact Bp.out); rintro e w124 ⟨Mm, rfl, B0, hb⟩; refine ⟨_, rfl, ?_⟩; have Bt := Aside0.mk (Kd.R_lower (Kd.R_newB B0 (g := Ba) (o := .cells #[.string Aj, .string (Ae ++ a1_2), .int .i64 Ag] 45 (0, 0)) (zj Ad)) (below_size (zw HB))); replace Ab := zbf Ab hb; replace Aa := zbf Aa hb; replace Ac := zbf Ac hb; replace Ad := Aside0.mk (blk_below (g := Ba) (o := .cells #[.string Aj, .string (Ae ++ a1_2), .int .i64 Ag] 45 (0, 0)) (zj Ad) hb); replace Af := Aside0.mk (blk_below (g := Ak) (o := .cells #[.slice none 0 0] 29 (0, 0)) (zj Af) hb); replace HB := zs HB hb; clear B0 hb; obtain ⟨Db, Cu, Ly⟩ := Kd.R_slice Bt.out; subst Ly; obtain ⟨Ks, Is⟩ := zc1 Af) | ((with_reducible refine gate_callee (f := 13) rfl ?_); refine zG (some 125) Try.func13 #[.agg #[.slice Db Bz.length Cu]] ?_; (with_reducible refine (spec_DiskOk.calls B8 _ _ Bz false _ ?side1 ?side2 Nu.out).mono ?_); (case side1 => refine (Kd.R_reads' (e := 45) (base := w.heap.size) (ok := fun k_ => (True ∧ k_ ≠ Ba)) (n := Bz.length) (c := Cu) ?_).2.2; exact (zo ((Kd.R_mono (Kd.R_far (p := ⟨Ak, 0, none⟩) (Kd.R_types Bt.out Af.out (by decide)) (fun _ hk => hk.2) (.slice Db Bz.length Cu)) (fun _ h_ => h_.1))))); (case side2 => exact (Kd.R_reads' Bt.out).2.1); rintro e w127 ⟨rfl, hb⟩; refine ⟨_, rfl, ?_⟩; replace Bt := Aside0.mk (Kd.R_below (zo ((Kd.R_mono (Kd.R_far (p := ⟨Ak, 0, none⟩) (Kd.R_types Bt.out Af.out (by decide)) (fun _ hk => hk.2) (.slice Db Bz.length Cu)) (fun _ h_ => h_.1)))) hb); replace Ab := zbf Ab hb; replace Aa := zbf Aa hb; replace Ac := zbf Ac hb; replace Ad := zbf Ad hb; replace Af := Aside0.mk (blk_below (g := Ak) (o := .cells #[.slice Db Bz.length Cu] 29 (0, 0)) (zj Af) hb); replace HB := zs HB hb; clear hb; obtain ⟨Kr, Ir⟩ := zc1 Ac))
       refine bodyPost_ret (results_ct rfl _ _ Bi 29 #[.slice none 0 0] (0, 0) _ rfl (zj Ac) Try.underlying29 rfl (by kernel_rfl)) rfl ?_
       exact ⟨_, ze, by first | exact Kd.R_nil _ _ _ _ _ | exact Kd.N_nil _ _ _ _ _ | exact Kd.V_nil _ _ _ _ _ | exact Kd.Q_nil _ _ _ _ _ | exact Kd.S_nil _ _ _ _ _, zw HB⟩
      rw [if_neg Ld] at H
      exact absurd H (by simp)
     rw [if_neg Gu] at H
     have Gt : (a1_0 == 1) = false := beq_eq_false_iff_ne.mpr Gu
     have Gs : (a1_0 != 1) = true := bne_iff_ne.mpr Gu
     by_cases C1 : B2 < 0
     ·rw [if_pos C1] at H
      have Fc := decide_eq_true C1
      clear C1
      simp only [Option.some.injEq, Prod.mk.injEq] at H
      obtain ⟨rfl, rfl⟩ := H
      go_wp2_with (first | ((with_reducible refine gate_dst (N := 8) rfl ?_); refine zx (N := 8) (cs := #[.slice none 0 0]) (t := 29) ?_; intro Ak hg w130 hbox hb; have Af := Aside0.mk (hbox); have Cd := zg HB hg; have Ce := zg HB hg; replace HB := zs HB hb; have Ao := zl Ab hg; have Ax := zr Ab hg; replace Ab := zb Ab hb; have Ah := zl Aa hg; have Am := zr Aa hg; replace Aa := zb Aa hb; have Aq := zl Ac hg; have Ap := zr Ac hg; replace Ac := zb Ac hb; have Ai := zl Ad hg; have Al := zr Ad hg; replace Ad := zb Ad hb; clear hb hbox hg; have hnb131 := Ax.out; have hnc131 := Ao.out; have hnb132 := Am.out; have hnc132 := Ah.out; have hnb133 := Ap.out; have hnc133 := Aq.out; have hnb134 := Al.out; have hnc134 := Ai.out; obtain ⟨Kq, Iq⟩ := zc1 Af; have hnb136 := Au.out; have hnc136 := Aw.out; have hnb137 := As.out; have hnc137 := Ar.out; have hnb138 := Be.out; have hnc138 := Bc.out; obtain ⟨Kp, Ko, Kn, Km, Ip, Io, In, Im⟩ := zc4 Aa; have hnb140 := Ay.out; have hnc140 := Az.out; have hnb141 := Bd.out; have hnc141 := Bb.out; obtain ⟨Kl, Il⟩ := zc1 Ac))
      refine bodyPost_ret (results_ct rfl _ _ Bi 29 #[.slice none 0 0] (0, 0) _ rfl (zj Ac) Try.underlying29 rfl (by kernel_rfl)) rfl ?_
      exact ⟨_, ze, by first | exact Kd.R_nil _ _ _ _ _ | exact Kd.N_nil _ _ _ _ _ | exact Kd.V_nil _ _ _ _ _ | exact Kd.Q_nil _ _ _ _ _ | exact Kd.S_nil _ _ _ _ _, zw HB⟩
     rw [if_neg C1] at H
     have Fc := decide_eq_false C1
     clear C1
     by_cases Cx : a1_0 = 2
     ·rw [if_pos Cx] at H
      have Fb : (a1_0 == 2) = true := beq_iff_eq.mpr Cx
      have Fa : (a1_0 != 2) = false := bne_eq_false_iff_eq.mpr Cx
      clear Cx
      replace H := Option.bind_eq_some_iff.mp H
      obtain ⟨Bx, G7, H⟩ := H
      have Mf := Aside0.mk G7
      clear G7
      replace H := Option.bind_eq_some_iff.mp H
      obtain ⟨Mq, G6, H⟩ := H
      have Me := Aside0.mk G6
      clear G6
      by_cases E9 : Mq = true
      ·subst E9
       rw [if_pos rfl] at H
       simp only [Option.some.injEq, Prod.mk.injEq] at H
       obtain ⟨rfl, rfl⟩ := H
       go_wp2_with (first | ((with_reducible refine gate_dst (N := 8) rfl ?_); refine zx (N := 8) (cs := #[.slice none 0 0]) (t := 29) ?_; intro Ak hg w147 hbox hb; have Af := Aside0.mk (hbox); have Cd := zg HB hg; have Ce := zg HB hg; replace HB := zs HB hb; have Ao := zl Ab hg; have Ax := zr Ab hg; replace Ab := zb Ab hb; have Ah := zl Aa hg; have Am := zr Aa hg; replace Aa := zb Aa hb; have Aq := zl Ac hg; have Ap := zr Ac hg; replace Ac := zb Ac hb; have Ai := zl Ad hg; have Al := zr Ad hg; replace Ad := zb Ad hb; clear hb hbox hg; have hnb148 := Ax.out; have hnc148 := Ao.out; have hnb149 := Am.out; have hnc149 := Ah.out; have hnb150 := Ap.out; have hnc150 := Aq.out; have hnb151 := Al.out; have hnc151 := Ai.out; obtain ⟨Kk, Ik⟩ := zc1 Af; have hnb153 := Au.out; have hnc153 := Aw.out; have hnb154 := As.out; have hnc154 := Ar.out; have hnb155 := Be.out; have hnc155 := Bc.out; obtain ⟨Kj, Ki, Kh, Kg, Ij, Ii, Ih, Ig⟩ := zc4 Aa; have hnb157 := Bf.out; have hnc157 := Bg.out; have hnb158 := Bb.out; have hnc158 := Bd.out; obtain ⟨Kf, Ke, Kb, Ie, Id, Ic⟩ := zc3 Ad; have hnb160 := Az.out; have hnc160 := Ay.out; obtain ⟨Ka, Ib⟩ := zc1 Ab) | ((with_reducible refine gate_callee (f := 58) rfl ?_); refine zG (some 82) Try.func58 #[.agg #[.slice A0_0 l0_0.length c0_0], .agg #[.string Aj, .string Ae, .int .i64 (Ae.size : Int)]] ?_; (with_reducible refine (spec_l03Put.calls B8 _ _ l0_0 Aj Ae (Ae.size : Int) Bx _ ?side1 ?side2 Mf.out).mono ?_); (case side1 => exact Kd.C_below HR0_0.out (zw HB)); (case side2 => exact Bp.out); rintro e w162 ⟨Ml, rfl, B0, hb⟩; refine ⟨_, rfl, ?_⟩; have Bs := Aside0.mk (Kd.R_lower (Kd.R_newB B0 (g := Ba) (o := .cells #[.string Aj, .string Ae, .int .i64 (Ae.size : Int)] 45 (0, 0)) (zj Ad)) (below_size (zw HB))); replace Ab := zbf Ab hb; replace Aa := zbf Aa hb; replace Ac := zbf Ac hb; replace Ad := Aside0.mk (blk_below (g := Ba) (o := .cells #[.string Aj, .string Ae, .int .i64 (Ae.size : Int)] 45 (0, 0)) (zj Ad) hb); replace Af := Aside0.mk (blk_below (g := Ak) (o := .cells #[.slice none 0 0] 29 (0, 0)) (zj Af) hb); replace HB := zs HB hb; clear B0 hb; obtain ⟨Co, Cg, Lx⟩ := Kd.R_slice Bs.out; subst Lx; obtain ⟨J9, Ia⟩ := zc1 Af) | ((with_reducible refine gate_callee (f := 13) rfl ?_); refine zG (some 125) Try.func13 #[.agg #[.slice Co Bx.length Cg]] ?_; (with_reducible refine (spec_DiskOk.calls B8 _ _ Bx true _ ?side1 ?side2 Me.out).mono ?_); (case side1 => refine (Kd.R_reads' (e := 45) (base := w.heap.size) (ok := fun k_ => (True ∧ k_ ≠ Ba)) (n := Bx.length) (c := Cg) ?_).2.2; exact (zo ((Kd.R_mono (Kd.R_far (p := ⟨Ak, 0, none⟩) (Kd.R_types Bs.out Af.out (by decide)) (fun _ hk => hk.2) (.slice Co Bx.length Cg)) (fun _ h_ => h_.1))))); (case side2 => exact (Kd.R_reads' Bs.out).2.1); rintro e w165 ⟨rfl, hb⟩; refine ⟨_, rfl, ?_⟩; replace Bs := Aside0.mk (Kd.R_below (zo ((Kd.R_mono (Kd.R_far (p := ⟨Ak, 0, none⟩) (Kd.R_types Bs.out Af.out (by decide)) (fun _ hk => hk.2) (.slice Co Bx.length Cg)) (fun _ h_ => h_.1)))) hb); replace Ab := zbf Ab hb; replace Aa := zbf Aa hb; replace Ac := zbf Ac hb; replace Ad := zbf Ad hb; replace Af := Aside0.mk (blk_below (g := Ak) (o := .cells #[.slice Co Bx.length Cg] 29 (0, 0)) (zj Af) hb); replace HB := zs HB hb; clear hb; obtain ⟨J8, H9⟩ := zc1 Af; obtain ⟨J7, H8⟩ := zc1 Ac))
       refine bodyPost_ret (results_ct rfl _ _ Bi 29 #[.slice Co Bx.length Cg] (0, 0) _ rfl (zj Ac) Try.underlying29 rfl (by kernel_rfl)) rfl ?_
       exact ⟨_, ze, zo (Kd.R_mono (Kd.R_far (p := ⟨Bi, 0, none⟩) (Kd.R_types Bs.out Ac.out (by decide)) (fun _ hk => hk.2) (.slice Co Bx.length Cg)) (fun _ hk => trivial)), zw HB⟩
      replace E9 := Bool.eq_false_iff.mpr E9
      subst E9
      rw [if_neg (show ¬ (false = true) by decide)] at H
      simp only [Option.some.injEq, Prod.mk.injEq] at H
      obtain ⟨rfl, rfl⟩ := H
      go_wp2_with (first | ((with_reducible refine gate_dst (N := 8) rfl ?_); refine zx (N := 8) (cs := #[.slice none 0 0]) (t := 29) ?_; intro Ak hg w168 hbox hb; have Af := Aside0.mk (hbox); have Cd := zg HB hg; have Ce := zg HB hg; replace HB := zs HB hb; have Ao := zl Ab hg; have Ax := zr Ab hg; replace Ab := zb Ab hb; have Ah := zl Aa hg; have Am := zr Aa hg; replace Aa := zb Aa hb; have Aq := zl Ac hg; have Ap := zr Ac hg; replace Ac := zb Ac hb; have Ai := zl Ad hg; have Al := zr Ad hg; replace Ad := zb Ad hb; clear hb hbox hg; have hnb169 := Ax.out; have hnc169 := Ao.out; have hnb170 := Am.out; have hnc170 := Ah.out; have hnb171 := Ap.out; have hnc171 := Aq.out; have hnb172 := Al.out; have hnc172 := Ai.out; obtain ⟨J6, H7⟩ := zc1 Af; have hnb174 := Au.out; have hnc174 := Aw.out; have hnb175 := As.out; have hnc175 := Ar.out; have hnb176 := Be.out; have hnc176 := Bc.out; obtain ⟨J5, J4, J3, J2, H6, H5, H4, H2⟩ := zc4 Aa; have hnb178 := Bf.out; have hnc178 := Bg.out; have hnb179 := Bb.out; have hnc179 := Bd.out; obtain ⟨J1, J0, Jz, H1, H0, Hz⟩ := zc3 Ad; have hnb181 := Az.out; have hnc181 := Ay.out; obtain ⟨Jy, Hy⟩ := zc1 Ab) | ((with_reducible refine gate_callee (f := 58) rfl ?_); refine zG (some 82) Try.func58 #[.agg #[.slice A0_0 l0_0.length c0_0], .agg #[.string Aj, .string Ae, .int .i64 (Ae.size : Int)]] ?_; (with_reducible refine (spec_l03Put.calls B8 _ _ l0_0 Aj Ae (Ae.size : Int) Bx _ ?side1 ?side2 Mf.out).mono ?_); (case side1 => exact Kd.C_below HR0_0.out (zw HB)); (case side2 => exact Bp.out); rintro e w183 ⟨Ml, rfl, B0, hb⟩; refine ⟨_, rfl, ?_⟩; have Bs := Aside0.mk (Kd.R_lower (Kd.R_newB B0 (g := Ba) (o := .cells #[.string Aj, .string Ae, .int .i64 (Ae.size : Int)] 45 (0, 0)) (zj Ad)) (below_size (zw HB))); replace Ab := zbf Ab hb; replace Aa := zbf Aa hb; replace Ac := zbf Ac hb; replace Ad := Aside0.mk (blk_below (g := Ba) (o := .cells #[.string Aj, .string Ae, .int .i64 (Ae.size : Int)] 45 (0, 0)) (zj Ad) hb); replace Af := Aside0.mk (blk_below (g := Ak) (o := .cells #[.slice none 0 0] 29 (0, 0)) (zj Af) hb); replace HB := zs HB hb; clear B0 hb; obtain ⟨Da, Ct, Lw⟩ := Kd.R_slice Bs.out; subst Lw; obtain ⟨Jx, Hx⟩ := zc1 Af) | ((with_reducible refine gate_callee (f := 13) rfl ?_); refine zG (some 125) Try.func13 #[.agg #[.slice Da Bx.length Ct]] ?_; (with_reducible refine (spec_DiskOk.calls B8 _ _ Bx false _ ?side1 ?side2 Me.out).mono ?_); (case side1 => refine (Kd.R_reads' (e := 45) (base := w.heap.size) (ok := fun k_ => (True ∧ k_ ≠ Ba)) (n := Bx.length) (c := Ct) ?_).2.2; exact (zo ((Kd.R_mono (Kd.R_far (p := ⟨Ak, 0, none⟩) (Kd.R_types Bs.out Af.out (by decide)) (fun _ hk => hk.2) (.slice Da Bx.length Ct)) (fun _ h_ => h_.1))))); (case side2 => exact (Kd.R_reads' Bs.out).2.1); rintro e w186 ⟨rfl, hb⟩; refine ⟨_, rfl, ?_⟩; replace Bs := Aside0.mk (Kd.R_below (zo ((Kd.R_mono (Kd.R_far (p := ⟨Ak, 0, none⟩) (Kd.R_types Bs.out Af.out (by decide)) (fun _ hk => hk.2) (.slice Da Bx.length Ct)) (fun _ h_ => h_.1)))) hb); replace Ab := zbf Ab hb; replace Aa := zbf Aa hb; replace Ac := zbf Ac hb; replace Ad := zbf Ad hb; replace Af := Aside0.mk (blk_below (g := Ak) (o := .cells #[.slice Da Bx.length Ct] 29 (0, 0)) (zj Af) hb); replace HB := zs HB hb; clear hb; obtain ⟨Jw, Hw⟩ := zc1 Ac))
      refine bodyPost_ret (results_ct rfl _ _ Bi 29 #[.slice none 0 0] (0, 0) _ rfl (zj Ac) Try.underlying29 rfl (by kernel_rfl)) rfl ?_
      exact ⟨_, ze, by first | exact Kd.R_nil _ _ _ _ _ | exact Kd.N_nil _ _ _ _ _ | exact Kd.V_nil _ _ _ _ _ | exact Kd.Q_nil _ _ _ _ _ | exact Kd.S_nil _ _ _ _ _, zw HB⟩
     rw [if_neg Cx] at H
     have Fb : (a1_0 == 2) = false := beq_eq_false_iff_ne.mpr Cx
     have Fa : (a1_0 != 2) = true := bne_iff_ne.mpr Cx
     by_cases Cw : a1_0 = 3
     ·rw [if_pos Cw] at H
      have E8 : (a1_0 == 3) = true := beq_iff_eq.mpr Cw
      have E7 : (a1_0 != 3) = false := bne_eq_false_iff_eq.mpr Cw
      clear Cw
      have Fe := Aside0.mk H
      clear H
      go_upto_region 18 with (first | ((with_reducible refine gate_dst (N := 8) rfl ?_); refine zx (N := 8) (cs := #[.slice none 0 0]) (t := 29) ?_; intro Ak hg w190 hbox hb; have Af := Aside0.mk (hbox); have Cd := zg HB hg; have Ce := zg HB hg; replace HB := zs HB hb; have Ao := zl Ab hg; have Ax := zr Ab hg; replace Ab := zb Ab hb; have Ah := zl Aa hg; have Am := zr Aa hg; replace Aa := zb Aa hb; have Aq := zl Ac hg; have Ap := zr Ac hg; replace Ac := zb Ac hb; have Ai := zl Ad hg; have Al := zr Ad hg; replace Ad := zb Ad hb; clear hb hbox hg; have hnb191 := Ax.out; have hnc191 := Ao.out; have hnb192 := Am.out; have hnc192 := Ah.out; have hnb193 := Ap.out; have hnc193 := Aq.out; have hnb194 := Al.out; have hnc194 := Ai.out; obtain ⟨Jv, Hv⟩ := zc1 Af; have hnb196 := Au.out; have hnc196 := Aw.out; have hnb197 := As.out; have hnc197 := Ar.out; have hnb198 := Be.out; have hnc198 := Bc.out; obtain ⟨Ju, Jt, Js, Jr, Hu, Ht, Hs, Hr⟩ := zc4 Aa))
      (try simp only [Act.put, zA, zB, zC])
      go_cut [105] (fun Mn wc => ∃ (kq : Nat) (B1 : Bool), Mn = .bool B1 ∧ Aside0 (spec_DoAct.j2 kq B1 l0_0 a1_0 a1_1 a1_2 a1_3 Aj Ae Ag = some (r1, r2)) ∧ Aside0 (kq ≤ B8) ∧ Aside0 (wc.heap[Cr]? = some (.cells #[(.slice A0_0 l0_0.length c0_0)] 29 (0, 0))) ∧ Aside0 (wc.heap[Bv]? = some (.cells #[.int .i64 a1_0, .string a1_1, .string a1_2, .string a1_3] 55 (0, 0))) ∧ Aside0 (wc.heap[Bi]? = some (.cells #[(.slice none 0 0)] 29 (0, 0))) ∧ Aside0 (wc.heap[Ba]? = some (.cells #[.string Aj, .string Ae, .int .i64 Ag] 45 (0, 0))) ∧ Aside0 (wc.heap[Ak]? = some (.cells #[(.slice none 0 0)] 29 (0, 0))) ∧ Aside0 (Below w.heap.size w wc))
      case first =>
       have H := Fe.out
       clear Fe
       by_cases C0 : Ag < (Ae.size : Int)
       ·rw [if_pos C0] at H
        have Ca := decide_eq_true C0
        clear C0
        (first | rw [Ca] | (simp only [i64_w, i32_w]; rw [Ca]) | skip)
        have H' := Aside0.mk H
        clear H
        have hnb201 := Bf.out
        have hnc201 := Bg.out
        have hnb202 := Bc.out
        have hnc202 := Be.out
        have hnb203 := Bb.out
        have hnc203 := Bd.out
        have hnb204 := Ai.out
        have hnc204 := Al.out
        obtain ⟨Jq, Jp, Jo, Hq, Hp, Ho⟩ := zc3 Ad
        go_wp2
        go_meet
        case rel => exact ⟨_, (true), zf, H', ⟨by have := HJ2.out; have := HJ59.out; first | omega | exact Nat.le_refl _⟩, ⟨zkf Ab⟩, ⟨zkf Aa⟩, ⟨zkf Ac⟩, ⟨zkf Ad⟩, ⟨zj Af⟩, ⟨zw HB⟩⟩
       rw [if_neg C0] at H
       have Ca := decide_eq_false C0
       clear C0
       (first | rw [Ca] | (simp only [i64_w, i32_w]; rw [Ca]) | skip)
       by_cases Cv : a1_3.toList = a1_1.toList
       ·rw [if_pos Cv] at H
        have E6 : (a1_3.toList == a1_1.toList) = true := beq_iff_eq.mpr Cv
        have E5 : (a1_3.toList != a1_1.toList) = false := bne_eq_false_iff_eq.mpr Cv
        clear Cv
        have H' := Aside0.mk H
        clear H
        have hnb207 := Bf.out
        have hnc207 := Bg.out
        have hnb208 := Bc.out
        have hnc208 := Be.out
        have hnb209 := Bb.out
        have hnc209 := Bd.out
        have hnb210 := Ai.out
        have hnc210 := Al.out
        obtain ⟨Jn, Jm, Jl, Hn, Hm, Hl⟩ := zc3 Ad
        have hnb212 := Au.out
        have hnc212 := Aw.out
        have hnb213 := As.out
        have hnc213 := Ar.out
        have hnb214 := Ah.out
        have hnc214 := Am.out
        obtain ⟨Jk, Jj, Ji, Jh, Hk, Hj, Hi, Hh⟩ := zc4 Aa
        go_wp2
        go_meet
        case rel => exact ⟨_, (true), zf, H', ⟨by have := HJ2.out; have := HJ59.out; first | omega | exact Nat.le_refl _⟩, ⟨zkf Ab⟩, ⟨zkf Aa⟩, ⟨zkf Ac⟩, ⟨zkf Ad⟩, ⟨zj Af⟩, ⟨zw HB⟩⟩
       rw [if_neg Cv] at H
       have E6 : (a1_3.toList == a1_1.toList) = false := beq_eq_false_iff_ne.mpr Cv
       have E5 : (a1_3.toList != a1_1.toList) = true := bne_iff_ne.mpr Cv
       replace H := Option.bind_eq_some_iff.mp H
       obtain ⟨Lj, G5, H⟩ := H
       have Mw := Aside0.mk G5
       clear G5
       have H' := Aside0.mk H
       clear H
       have hnb217 := Bf.out
       have hnc217 := Bg.out
       have hnb218 := Bc.out
       have hnc218 := Be.out
       have hnb219 := Bb.out
       have hnc219 := Bd.out
       have hnb220 := Ai.out
       have hnc220 := Al.out
       obtain ⟨Jg, Jf, Je, Hg, Hf, He⟩ := zc3 Ad
       have hnb222 := Au.out
       have hnc222 := Aw.out
       have hnb223 := As.out
       have hnc223 := Ar.out
       have hnb224 := Ah.out
       have hnc224 := Am.out
       obtain ⟨Jd, Jc, Jb, Ja, Hd, Hc, Hb, Ha⟩ := zc4 Aa
       go_wp2_with (first | (go_at_call 48; (with_reducible refine (spec_l03Name.calls a1_3 Lj _ Mw.out).mono ?_); rintro e w' ⟨rfl, ⟨nd, rfl⟩⟩))
       go_meet
       case rel => exact ⟨_, (!Lj), zf, H', ⟨by have := HJ2.out; have := HJ59.out; first | omega | exact Nat.le_refl _⟩, ⟨zkf Ab⟩, ⟨zkf Aa⟩, ⟨zkf Ac⟩, ⟨zkf Ad⟩, ⟨zj Af⟩, ⟨zw HB⟩⟩
      case rest =>
       clear Fe
       try clear c1
       try clear c2
       try clear p2
       try clear q2
       try clear Ny
       try clear c3
       try clear c4
       try clear c5
       try clear c6
       try clear c7
       try clear c8
       try clear c9
       try clear Lb
       try clear Fj
       try clear Cc
       try clear C8
       try clear Fi
       try clear C7
       try clear C6
       try clear Ns
       try clear Nr
       try clear c15
       try clear c16
       try clear Np
       try clear c18
       try clear Nl
       try clear Nh
       try clear My
       try clear Mx
       try clear Ms
       try clear c21
       try clear c22
       try clear Ng
       try clear Fh
       try clear Cm
       try clear C5
       try clear Fg
       try clear C4
       try clear C3
       try clear Nf
       try clear Nd
       try clear Nc
       try clear Nb
       try clear Na
       try clear M9
       try clear M8
       try clear M7
       try clear M6
       try clear M5
       try clear M4
       try clear M3
       try clear M2
       try clear M1
       try clear M0
       try clear Oc
       try clear Lg
       try clear Ob
       try clear Oa
       try clear c58
       try clear N9
       try clear N8
       try clear N7
       try clear N6
       try clear N5
       try clear N4
       try clear Gx
       try clear Ci
       try clear Lf
       try clear Gw
       try clear Le
       try clear Gv
       try clear N3
       try clear N2
       try clear N1
       try clear N0
       try clear Nz
       try clear Gu
       try clear Gt
       try clear Gs
       try clear Ld
       try clear L5
       try clear L4
       try clear L3
       try clear L0
       try clear c89
       try clear c90
       try clear c91
       try clear c92
       try clear c94
       try clear c95
       try clear c96
       try clear c98
       try clear c99
       try clear c101
       try clear c110
       try clear c111
       try clear c112
       try clear c113
       try clear c115
       try clear c116
       try clear c117
       try clear c119
       try clear c120
       try clear c122
       try clear C1
       try clear Fc
       try clear c131
       try clear c132
       try clear c133
       try clear c134
       try clear c136
       try clear c137
       try clear c138
       try clear c140
       try clear c141
       try clear Cx
       try clear Fb
       try clear Fa
       try clear E9
       try clear c148
       try clear c149
       try clear c150
       try clear c151
       try clear c153
       try clear c154
       try clear c155
       try clear c157
       try clear c158
       try clear c160
       try clear c169
       try clear c170
       try clear c171
       try clear c172
       try clear c174
       try clear c175
       try clear c176
       try clear c178
       try clear c179
       try clear c181
       try clear Cw
       try clear E8
       try clear E7
       try clear c191
       try clear c192
       try clear c193
       try clear c194
       try clear c196
       try clear c197
       try clear c198
       try clear C0
       try clear Ca
       try clear Dd
       try clear Dc
       try clear hx200
       try clear c201
       try clear c202
       try clear c203
       try clear c204
       try clear Cv
       try clear E6
       try clear E5
       try clear c207
       try clear c208
       try clear c209
       try clear c210
       try clear c212
       try clear c213
       try clear c214
       try clear c217
       try clear c218
       try clear c219
       try clear c220
       try clear c222
       try clear c223
       try clear c224
       try clear K8
       try clear K7
       try clear K6
       try clear K5
       try clear K4
       try clear K3
       try clear K2
       try clear K1
       try clear K0
       try clear Kz
       try clear Ky
       try clear Kx
       try clear Kw
       try clear Kv
       try clear Ku
       try clear Kt
       try clear Ks
       try clear Kr
       try clear Kq
       try clear Kp
       try clear Ko
       try clear Kn
       try clear Km
       try clear Kl
       try clear Kk
       try clear Kj
       try clear Ki
       try clear Kh
       try clear Kg
       try clear Kf
       try clear Ke
       try clear Kb
       try clear E4
       try clear Ka
       try clear J9
       try clear J8
       try clear J7
       try clear J6
       try clear J5
       try clear J4
       try clear J3
       try clear J2
       try clear J1
       try clear J0
       try clear Jz
       try clear Jy
       try clear Jx
       try clear Jw
       try clear E3
       try clear E2
       try clear E1
       try clear E0
       try clear Jv
       try clear Ju
       try clear Jt
       try clear Js
       try clear Jr
       try clear Jq
       try clear Jp
       try clear Jo
       try clear Jn
       try clear Jm
       try clear Jl
       try clear Jk
       try clear Jj
       try clear Ji
       try clear Jh
       try clear Ez
       try clear Jg
       try clear Jf
       try clear Je
       try clear Jd
       try clear Jc
       try clear Jb
       try clear Ja
       try clear Ey
       try clear Ex
       try clear Ew
       try clear Eu
       try clear Et
       try clear Es
       try clear Er
       try clear Eq
       try clear Ep
       try clear Eo
       try clear En
       try clear Em
       try clear El
       try clear Ek
       try clear Ej
       try clear Ei
       try clear Eh
       try clear Eg
       try clear Ef
       try clear Ee
       try clear Ed
       try clear Ec
       try clear Eb
       try clear Ea
       try clear D9
       try clear Gk
       try clear Gj
       try clear Gi
       try clear Gh
       try clear Gg
       try clear Gf
       try clear Ge
       try clear Gd
       try clear Gc
       try clear Gb
       try clear Ga
       try clear F9
       try clear F8
       try clear F7
       try clear F6
       try clear F5
       try clear F4
       try clear Lt
       try clear Ls
       try clear Lr
       try clear Lq
       try clear Lp
       try clear I9
       try clear I8
       try clear I7
       try clear I6
       try clear I5
       try clear I4
       try clear I3
       try clear I2
       try clear I1
       try clear I0
       try clear Iz
       try clear Iy
       try clear Ix
       try clear Iw
       try clear Iv
       try clear Iu
       try clear Is
       try clear Ir
       try clear Iq
       try clear Ip
       try clear Io
       try clear In
       try clear Im
       try clear Il
       try clear Ik
       try clear Ij
       try clear Ii
       try clear Ih
       try clear Ig
       try clear Ie
       try clear Id
       try clear Ic
       try clear D8
       try clear Ib
       try clear Ia
       try clear H9
       try clear H8
       try clear H7
       try clear H6
       try clear H5
       try clear H4
       try clear H2
       try clear H1
       try clear H0
       try clear Hz
       try clear Hy
       try clear Hx
       try clear Hw
       try clear D7
       try clear D6
       try clear D5
       try clear D4
       try clear Hv
       try clear Hu
       try clear Ht
       try clear Hs
       try clear Hr
       try clear Hq
       try clear Hp
       try clear Ho
       try clear Hn
       try clear Hm
       try clear Hl
       try clear Hk
       try clear Hj
       try clear Hi
       try clear Hh
       try clear D3
       try clear Hg
       try clear Hf
       try clear He
       try clear Hd
       try clear Hc
       try clear Hb
       try clear Ha
       try clear D2
       try clear D1
       try clear D0
       try clear Dz
       try clear Dy
       try clear Dx
       try clear Dw
       try clear Dv
       try clear Du
       try clear Dt
       try clear Ds
       try clear Dr
       try clear Dq
       try clear Dp
       try clear Do
       try clear Dn
       try clear Dm
       try clear Dl
       try clear Dk
       try clear Dj
       try clear Di
       try clear Dh
       try clear Dg
       try clear Df
       try clear De
       try clear F3
       try clear F2
       try clear F1
       try clear F0
       try clear Fz
       try clear Fy
       try clear Fx
       try clear Fw
       try clear Fv
       try clear Fu
       try clear Ft
       try clear Fs
       try clear Fr
       try clear Fq
       try clear Fp
       try clear Fo
       try clear Fn
       try clear Lo
       try clear Ln
       try clear Lm
       try clear Ll
       try clear Lk
       try clear Bh
       try clear Bk
       try clear Bj
       try clear p2
       try clear My
       try clear Dd
       try clear q2
       try clear Mx
       try clear Dc
       obtain ⟨kq, B1, rfl, HA, HJ188, Ab, Aa, Ac, Ad, Af, HB⟩ := hcut
       cases kq with
       | zero => exact absurd HA.out (by simp [spec_DoAct.j2])
       | succ Ck =>
        have H := HA.out
        clear HA
        simp only [spec_DoAct.j2] at H
        by_cases Fm : B1 = true
        ·subst Fm
         rw [if_pos rfl] at H
         simp only [Option.some.injEq, Prod.mk.injEq] at H
         obtain ⟨rfl, rfl⟩ := H
         have hnb227 := Ay.out
         have hnc227 := Az.out
         have hnb228 := Ar.out
         have hnc228 := As.out
         have hnb229 := Bd.out
         have hnc229 := Bb.out
         have hnb230 := Aq.out
         have hnc230 := Ap.out
         obtain ⟨_, _⟩ := zc1 Ac
         go_wp2
         refine bodyPost_ret (results_ct rfl _ _ Bi 29 #[.slice none 0 0] (0, 0) _ rfl (zj Ac) Try.underlying29 rfl (by kernel_rfl)) rfl ?_
         exact ⟨_, ze, by first | exact Kd.R_nil _ _ _ _ _ | exact Kd.N_nil _ _ _ _ _ | exact Kd.V_nil _ _ _ _ _ | exact Kd.Q_nil _ _ _ _ _ | exact Kd.S_nil _ _ _ _ _, zw HB⟩
        replace Fm := Bool.eq_false_iff.mpr Fm
        subst Fm
        rw [if_neg (show ¬ (false = true) by decide)] at H
        replace H := Option.bind_eq_some_iff.mp H
        obtain ⟨Cq, G4, H⟩ := H
        have Md := Aside0.mk G4
        clear G4
        replace H := Option.bind_eq_some_iff.mp H
        obtain ⟨Bu, G3, H⟩ := H
        have Mc := Aside0.mk G3
        clear G3
        replace H := Option.bind_eq_some_iff.mp H
        obtain ⟨Mp, G2, H⟩ := H
        have Mb := Aside0.mk G2
        clear G2
        by_cases Fl : Mp = true
        ·subst Fl
         rw [if_pos rfl] at H
         simp only [Option.some.injEq, Prod.mk.injEq] at H
         obtain ⟨rfl, rfl⟩ := H
         have hnb236 := Au.out
         have hnc236 := Aw.out
         have hnb237 := As.out
         have hnc237 := Ar.out
         have hnb238 := Be.out
         have hnc238 := Bc.out
         have hnb239 := Ah.out
         have hnc239 := Am.out
         obtain ⟨_, _, _, _, _, _, _, _⟩ := zc4 Aa
         have hnb241 := Bf.out
         have hnc241 := Bg.out
         have hnb242 := Bb.out
         have hnc242 := Bd.out
         have hnb243 := Ai.out
         have hnc243 := Al.out
         obtain ⟨_, _, _, _, _, _⟩ := zc3 Ad
         try go_wp2
         obtain ⟨Li, hq_⟩ : ∃ v_, wc.setCell ⟨Ba, 0, none⟩ (.string a1_3) = v_ := ⟨_, rfl⟩
         replace Ab := zjq hq_ Ab
         replace Aa := zjq hq_ Aa
         replace Ac := zjq hq_ Ac
         replace Ad : Aside0 (Li.heap[Ba]? = some (.cells #[.string a1_3, .string Ae, .int .i64 Ag] 45 (0, 0))) := ⟨hq_ ▸ (zj Ad)⟩
         replace Af := zjq hq_ Af
         replace HB := zwq hq_ HB
         (try rw [hq_])
         clear hq_
         replace Ab := zd1 Ab
         replace Aa := zd1 Aa
         replace Ac := zd1 Ac
         replace Ad := zd1 Ad
         replace Af := zd1 Af
         replace HB := zd2 HB
         refine start_ (n := 7) (S := fun w' => w'.cell? ⟨Cr, 0, none⟩ = some (.slice A0_0 l0_0.length c0_0) ∧ w'.cell? ⟨Bv, 0, none⟩ = some (.int .i64 a1_0) ∧ w'.cell? ⟨Bv, 1, none⟩ = some (.string a1_1) ∧ w'.cell? ⟨Bv, 2, none⟩ = some (.string a1_2) ∧ w'.cell? ⟨Bv, 3, none⟩ = some (.string a1_3) ∧ w'.cell? ⟨Ba, 0, none⟩ = some (.string a1_3) ∧ w'.cell? ⟨Ba, 1, none⟩ = some (.string Ae) ∧ w'.cell? ⟨Ba, 2, none⟩ = some (.int .i64 Ag)) (ds := []) q11_0 (by kernel_rfl) rfl rfl ⟨zv Ab, zv Aa, zv Aa, zv Aa, zv Aa, zv Ad, zv Ad, zv Ad⟩ (fun hHeld => ?_)
         generalize Li.drew = w246 at Ab Aa Ac Ad Af HB hHeld ⊢
         refine pure_ (i := 1) (N := some 111) (v := ?_) (a' := ?_) q11_1 rfl rfl (by kernel_rfl) (fun _ _ _ h => h) (Or.inl ⟨by rfl, ?_⟩) ?_ ?_
         rotate_left
         ·intro w'
          go_simp
          with_reducible rfl
         rotate_left
         ·simp only [Act.put, zA, zB, zC, i64_w, i32_w]
          rfl
         refine take_ (i := 0) (N := some 110) (v := ?_) (a' := ?_) q11_2 rfl rfl (by kernel_rfl) (fun _ _ _ h => h) (Or.inl ⟨by rfl, ?_⟩) hHeld ?_ ?_
         rotate_left
         ·rintro w' ⟨s0, s1, s2, s3, s4, s5, s6, s7⟩
          go_simp
          with_reducible rfl
         rotate_left
         ·simp only [Act.put, zA, zB, zC, i64_w, i32_w]
          rfl
         refine take_ (i := 2) (N := some 112) (v := ?_) (a' := ?_) q11_3 rfl rfl (by kernel_rfl) (fun _ _ _ h => h) (Or.inl ⟨by rfl, ?_⟩) hHeld ?_ ?_
         rotate_left
         ·rintro w' ⟨s0, s1, s2, s3, s4, s5, s6, s7⟩
          go_simp
          with_reducible rfl
         rotate_left
         ·simp only [Act.put, zA, zB, zC, i64_w, i32_w]
          rfl
         refine take_ (i := 4) (N := some 114) (v := ?_) (a' := ?_) q11_4 rfl rfl (by kernel_rfl) (fun _ _ _ h => h) (Or.inl ⟨by rfl, ?_⟩) hHeld ?_ ?_
         rotate_left
         ·rintro w' ⟨s0, s1, s2, s3, s4, s5, s6, s7⟩
          go_simp
          with_reducible rfl
         rotate_left
         ·simp only [Act.put, zA, zB, zC, i64_w, i32_w]
          rfl
         refine one_ (i := 3) (N := some 113) q11_5 rfl rfl (by kernel_rfl) (by decide) (fun K hK => ?_)
         refine zH Try.func64 #[.agg #[.slice A0_0 l0_0.length c0_0], .string a1_1] ?_
         with_reducible refine (spec_l03Without.calls Ck _ _ l0_0 a1_1 Cq _ ?side1 ?side2 Md.out).mono ?_
         (case side1 => exact zI (Kd.C_below HR0_0.out HB.out))
         (case side2 => exact Bp.out)
         rintro e w247 ⟨Mk, rfl, B0, hb⟩
         refine ⟨_, rfl, ?_⟩
         have Bo := Aside0.mk (Kd.R_lower (Kd.R_newB B0 (g := Ba) (o := .cells #[.string a1_3, .string Ae, .int .i64 Ag] 45 (0, 0)) (zk Ad)) (below_size (zw HB)))
         replace Ab := zb Ab hb
         replace Aa := zb Aa hb
         replace Ac := zb Ac hb
         replace Ad := zb Ad hb
         replace Af := zb Af hb
         replace HB := zs HB hb
         (try clear hb)
         (try clear hb2)
         (try clear hk)
         (try clear hi)
         (try clear B0)
         obtain ⟨Gz, Gr, Gp⟩ := Kd.R_slice Bo.out
         (first | subst Gp | (injection Gp with f1_ f2_ f3_; have f4_ := f1_.symm; have f5_ := f3_.symm; clear f1_ f2_ f3_; subst f4_; subst f5_))
         refine hK.out _ _ ⟨zv Ab, zv Aa, zv Aa, zv Aa, zv Aa, zv Ad, zv Ad, zv Ad⟩ (fun hHeld => ?_)
         clear hK K
         refine zN ?_
         refine one_ (i := 5) (N := some 115) q11_6 rfl rfl (by kernel_rfl) (by decide) (fun K hK => ?_)
         refine zH Try.func58 #[.agg #[.slice Gz Cq.length Gr], .agg #[.string a1_3, .string Ae, .int .i64 Ag]] ?_
         with_reducible refine (spec_l03Put.calls Ck _ _ Cq a1_3 Ae Ag Bu _ ?side1 ?side2 Mc.out).mono ?_
         (case side1 => exact zI (Kd.R_reads' Bo.out).2.2)
         (case side2 => exact (Kd.R_reads' Bo.out).2.1)
         rintro e Mh ⟨Mj, rfl, B0, hb⟩
         refine ⟨_, rfl, ?_⟩
         have Br := Aside0.mk (Kd.R_lower (Kd.R_newB (Kd.R_new' B0 (Kd.R_lt (zo Bo.out))) (g := Ba) (o := .cells #[.string a1_3, .string Ae, .int .i64 Ag] 45 (0, 0)) (zk Ad)) (below_size (zw HB)))
         replace Bo := Aside0.mk (Kd.R_elder' (zo Bo.out) (Kd.R_base B0) hb)
         replace Ab := zb Ab hb
         replace Aa := zb Aa hb
         replace Ac := zb Ac hb
         replace Ad := zb Ad hb
         replace Af := zb Af hb
         replace HB := zs HB hb
         (try clear hb)
         (try clear hb2)
         (try clear hk)
         (try clear hi)
         (try clear B0)
         obtain ⟨Cj, Cb, Gn⟩ := Kd.R_slice Br.out
         (first | subst Gn | (injection Gn with f1_ f2_ f3_; have f4_ := f1_.symm; have f5_ := f3_.symm; clear f1_ f2_ f3_; subst f4_; subst f5_))
         refine hK.out _ _ ⟨zv Ab, zv Aa, zv Aa, zv Aa, zv Aa, zv Ad, zv Ad, zv Ad⟩ (fun hHeld => ?_)
         clear hK K
         refine zN ?_
         refine one_ (i := 6) (N := none) q11_7 rfl rfl (by kernel_rfl) (by decide) (fun K hK => ?_)
         have hs251 : Mh.cell? ⟨Ak, 0, none⟩ = some (.slice none 0 0) := zv Af
         have hfs251 := blk_frozen Af.out 0
         have hns251_0 := Ao.out
         have hns251_1 := Ah.out
         have hns251_2 := Aq.out
         have hns251_3 := Ai.out
         have hms251_0 := Ax.out
         have hms251_1 := Am.out
         have hms251_2 := Ap.out
         have hms251_3 := Al.out
         refine skip_ (w1 := ?_) (by rfl) rfl ?_ ?_
         rotate_left
         ·go_simp
          rfl
         refine hK.out _ _ ⟨((cell_far (p := ⟨Ak, _, none⟩) Ao.out _).trans (hHeld.1)), ((cell_far (p := ⟨Ak, _, none⟩) Ah.out _).trans (hHeld.2.1)), ((cell_far (p := ⟨Ak, _, none⟩) Ah.out _).trans (hHeld.2.2.1)), ((cell_far (p := ⟨Ak, _, none⟩) Ah.out _).trans (hHeld.2.2.2.1)), ((cell_far (p := ⟨Ak, _, none⟩) Ah.out _).trans (hHeld.2.2.2.2.1)), ((cell_far (p := ⟨Ak, _, none⟩) Ai.out _).trans (hHeld.2.2.2.2.2.1)), ((cell_far (p := ⟨Ak, _, none⟩) Ai.out _).trans (hHeld.2.2.2.2.2.2.1)), ((cell_far (p := ⟨Ak, _, none⟩) Ai.out _).trans (hHeld.2.2.2.2.2.2.2))⟩ (fun hHeld => ?_)
         clear hK K
         refine done_ (by kernel_rfl) ?_
         have hnb252 := Ax.out
         have hnc252 := Ao.out
         have hnb253 := Ap.out
         have hnc253 := Aq.out
         obtain ⟨_, _⟩ := zc1 Af
         try go_wp2_with (first | ((with_reducible refine gate_callee (f := 13) rfl ?_); refine zG (some 125) Try.func13 #[.agg #[.slice Cj Bu.length Cb]] ?_; (with_reducible refine (spec_DiskOk.calls Ck _ _ Bu true _ ?side1 ?side2 Mb.out).mono ?_); (case side1 => refine (Kd.R_reads' (e := 45) (base := w.heap.size) (ok := fun k_ => ((True ∧ some k_ ≠ (.slice Gz Cq.length Gr : Value).ownBlock) ∧ k_ ≠ Ba)) (n := Bu.length) (c := Cb) ?_).2.2; exact (zo ((Kd.R_mono (Kd.R_far (p := ⟨Ak, 0, none⟩) (Kd.R_types Br.out Af.out (by decide)) (fun _ hk => hk.2) (.slice Cj Bu.length Cb)) (fun _ h_ => h_.1))))); (case side2 => exact (Kd.R_reads' Br.out).2.1); rintro e w255 ⟨rfl, hb⟩; refine ⟨_, rfl, ?_⟩; replace Bo := Aside0.mk (Kd.R_below (zo ((Kd.R_mono (Kd.R_far (p := ⟨Ak, 0, none⟩) (Kd.R_types Bo.out Af.out (by decide)) (fun _ hk => hk.2) (.slice Cj Bu.length Cb)) (fun _ h_ => h_.1)))) hb); replace Br := Aside0.mk (Kd.R_below (zo ((Kd.R_mono (Kd.R_far (p := ⟨Ak, 0, none⟩) (Kd.R_types Br.out Af.out (by decide)) (fun _ hk => hk.2) (.slice Cj Bu.length Cb)) (fun _ h_ => h_.1)))) hb); replace Ab := zbf Ab hb; replace Aa := zbf Aa hb; replace Ac := zbf Ac hb; replace Ad := zbf Ad hb; replace Af := Aside0.mk (blk_below (g := Ak) (o := .cells #[.slice Cj Bu.length Cb] 29 (0, 0)) (zj Af) hb); replace HB := zs HB hb; clear hb; obtain ⟨_, _⟩ := zc1 Af; have hnb257 := Ay.out; have hnc257 := Az.out; obtain ⟨_, _⟩ := zc1 Ac))
         refine bodyPost_ret (results_ct rfl _ _ Bi 29 #[.slice Cj Bu.length Cb] (0, 0) _ rfl (zj Ac) Try.underlying29 rfl (by kernel_rfl)) rfl ?_
         exact ⟨_, ze, zo (Kd.R_mono (Kd.R_far (p := ⟨Bi, 0, none⟩) (Kd.R_types Br.out Ac.out (by decide)) (fun _ hk => hk.2) (.slice Cj Bu.length Cb)) (fun _ hk => trivial)), zw HB⟩
        replace Fl := Bool.eq_false_iff.mpr Fl
        subst Fl
        rw [if_neg (show ¬ (false = true) by decide)] at H
        simp only [Option.some.injEq, Prod.mk.injEq] at H
        obtain ⟨rfl, rfl⟩ := H
        have hnb259 := Au.out
        have hnc259 := Aw.out
        have hnb260 := As.out
        have hnc260 := Ar.out
        have hnb261 := Be.out
        have hnc261 := Bc.out
        have hnb262 := Ah.out
        have hnc262 := Am.out
        obtain ⟨_, _, _, _, _, _, _, _⟩ := zc4 Aa
        have hnb264 := Bf.out
        have hnc264 := Bg.out
        have hnb265 := Bb.out
        have hnc265 := Bd.out
        have hnb266 := Ai.out
        have hnc266 := Al.out
        obtain ⟨_, _, _, _, _, _⟩ := zc3 Ad
        try go_wp2
        obtain ⟨Lh, hq_⟩ : ∃ v_, wc.setCell ⟨Ba, 0, none⟩ (.string a1_3) = v_ := ⟨_, rfl⟩
        replace Ab := zjq hq_ Ab
        replace Aa := zjq hq_ Aa
        replace Ac := zjq hq_ Ac
        replace Ad : Aside0 (Lh.heap[Ba]? = some (.cells #[.string a1_3, .string Ae, .int .i64 Ag] 45 (0, 0))) := ⟨hq_ ▸ (zj Ad)⟩
        replace Af := zjq hq_ Af
        replace HB := zwq hq_ HB
        (try rw [hq_])
        clear hq_
        replace Ab := zd1 Ab
        replace Aa := zd1 Aa
        replace Ac := zd1 Ac
        replace Ad := zd1 Ad
        replace Af := zd1 Af
        replace HB := zd2 HB
        refine start_ (n := 7) (S := fun w' => w'.cell? ⟨Cr, 0, none⟩ = some (.slice A0_0 l0_0.length c0_0) ∧ w'.cell? ⟨Bv, 0, none⟩ = some (.int .i64 a1_0) ∧ w'.cell? ⟨Bv, 1, none⟩ = some (.string a1_1) ∧ w'.cell? ⟨Bv, 2, none⟩ = some (.string a1_2) ∧ w'.cell? ⟨Bv, 3, none⟩ = some (.string a1_3) ∧ w'.cell? ⟨Ba, 0, none⟩ = some (.string a1_3) ∧ w'.cell? ⟨Ba, 1, none⟩ = some (.string Ae) ∧ w'.cell? ⟨Ba, 2, none⟩ = some (.int .i64 Ag)) (ds := []) q11_0 (by kernel_rfl) rfl rfl ⟨zv Ab, zv Aa, zv Aa, zv Aa, zv Aa, zv Ad, zv Ad, zv Ad⟩ (fun hHeld => ?_)
        generalize Lh.drew = w269 at Ab Aa Ac Ad Af HB hHeld ⊢
        refine pure_ (i := 1) (N := some 111) (v := ?_) (a' := ?_) q11_1 rfl rfl (by kernel_rfl) (fun _ _ _ h => h) (Or.inl ⟨by rfl, ?_⟩) ?_ ?_
        rotate_left
        ·intro w'
         go_simp
         with_reducible rfl
        rotate_left
        ·simp only [Act.put, zA, zB, zC, i64_w, i32_w]
         rfl
        refine take_ (i := 0) (N := some 110) (v := ?_) (a' := ?_) q11_2 rfl rfl (by kernel_rfl) (fun _ _ _ h => h) (Or.inl ⟨by rfl, ?_⟩) hHeld ?_ ?_
        rotate_left
        ·rintro w' ⟨s0, s1, s2, s3, s4, s5, s6, s7⟩
         go_simp
         with_reducible rfl
        rotate_left
        ·simp only [Act.put, zA, zB, zC, i64_w, i32_w]
         rfl
        refine take_ (i := 2) (N := some 112) (v := ?_) (a' := ?_) q11_3 rfl rfl (by kernel_rfl) (fun _ _ _ h => h) (Or.inl ⟨by rfl, ?_⟩) hHeld ?_ ?_
        rotate_left
        ·rintro w' ⟨s0, s1, s2, s3, s4, s5, s6, s7⟩
         go_simp
         with_reducible rfl
        rotate_left
        ·simp only [Act.put, zA, zB, zC, i64_w, i32_w]
         rfl
        refine take_ (i := 4) (N := some 114) (v := ?_) (a' := ?_) q11_4 rfl rfl (by kernel_rfl) (fun _ _ _ h => h) (Or.inl ⟨by rfl, ?_⟩) hHeld ?_ ?_
        rotate_left
        ·rintro w' ⟨s0, s1, s2, s3, s4, s5, s6, s7⟩
         go_simp
         with_reducible rfl
        rotate_left
        ·simp only [Act.put, zA, zB, zC, i64_w, i32_w]
         rfl
        refine one_ (i := 3) (N := some 113) q11_5 rfl rfl (by kernel_rfl) (by decide) (fun K hK => ?_)
        refine zH Try.func64 #[.agg #[.slice A0_0 l0_0.length c0_0], .string a1_1] ?_
        with_reducible refine (spec_l03Without.calls Ck _ _ l0_0 a1_1 Cq _ ?side1 ?side2 Md.out).mono ?_
        (case side1 => exact zI (Kd.C_below HR0_0.out HB.out))
        (case side2 => exact Bp.out)
        rintro e w270 ⟨Mk, rfl, B0, hb⟩
        refine ⟨_, rfl, ?_⟩
        have Bo := Aside0.mk (Kd.R_lower (Kd.R_newB B0 (g := Ba) (o := .cells #[.string a1_3, .string Ae, .int .i64 Ag] 45 (0, 0)) (zk Ad)) (below_size (zw HB)))
        replace Ab := zb Ab hb
        replace Aa := zb Aa hb
        replace Ac := zb Ac hb
        replace Ad := zb Ad hb
        replace Af := zb Af hb
        replace HB := zs HB hb
        (try clear hb)
        (try clear hb2)
        (try clear hk)
        (try clear hi)
        (try clear B0)
        obtain ⟨Gy, Gq, Gm⟩ := Kd.R_slice Bo.out
        (first | subst Gm | (injection Gm with f1_ f2_ f3_; have f4_ := f1_.symm; have f5_ := f3_.symm; clear f1_ f2_ f3_; subst f4_; subst f5_))
        refine hK.out _ _ ⟨zv Ab, zv Aa, zv Aa, zv Aa, zv Aa, zv Ad, zv Ad, zv Ad⟩ (fun hHeld => ?_)
        clear hK K
        refine zN ?_
        refine one_ (i := 5) (N := some 115) q11_6 rfl rfl (by kernel_rfl) (by decide) (fun K hK => ?_)
        refine zH Try.func58 #[.agg #[.slice Gy Cq.length Gq], .agg #[.string a1_3, .string Ae, .int .i64 Ag]] ?_
        with_reducible refine (spec_l03Put.calls Ck _ _ Cq a1_3 Ae Ag Bu _ ?side1 ?side2 Mc.out).mono ?_
        (case side1 => exact zI (Kd.R_reads' Bo.out).2.2)
        (case side2 => exact (Kd.R_reads' Bo.out).2.1)
        rintro e Mg ⟨Mj, rfl, B0, hb⟩
        refine ⟨_, rfl, ?_⟩
        have Br := Aside0.mk (Kd.R_lower (Kd.R_newB (Kd.R_new' B0 (Kd.R_lt (zo Bo.out))) (g := Ba) (o := .cells #[.string a1_3, .string Ae, .int .i64 Ag] 45 (0, 0)) (zk Ad)) (below_size (zw HB)))
        replace Bo := Aside0.mk (Kd.R_elder' (zo Bo.out) (Kd.R_base B0) hb)
        replace Ab := zb Ab hb
        replace Aa := zb Aa hb
        replace Ac := zb Ac hb
        replace Ad := zb Ad hb
        replace Af := zb Af hb
        replace HB := zs HB hb
        (try clear hb)
        (try clear hb2)
        (try clear hk)
        (try clear hi)
        (try clear B0)
        obtain ⟨Cy, Cl, Gl⟩ := Kd.R_slice Br.out
        (first | subst Gl | (injection Gl with f1_ f2_ f3_; have f4_ := f1_.symm; have f5_ := f3_.symm; clear f1_ f2_ f3_; subst f4_; subst f5_))
        refine hK.out _ _ ⟨zv Ab, zv Aa, zv Aa, zv Aa, zv Aa, zv Ad, zv Ad, zv Ad⟩ (fun hHeld => ?_)
        clear hK K
        refine zN ?_
        refine one_ (i := 6) (N := none) q11_7 rfl rfl (by kernel_rfl) (by decide) (fun K hK => ?_)
        have hs274 : Mg.cell? ⟨Ak, 0, none⟩ = some (.slice none 0 0) := zv Af
        have hfs274 := blk_frozen Af.out 0
        have hns274_0 := Ao.out
        have hns274_1 := Ah.out
        have hns274_2 := Aq.out
        have hns274_3 := Ai.out
        have hms274_0 := Ax.out
        have hms274_1 := Am.out
        have hms274_2 := Ap.out
        have hms274_3 := Al.out
        refine skip_ (w1 := ?_) (by rfl) rfl ?_ ?_
        rotate_left
        ·go_simp
         rfl
        refine hK.out _ _ ⟨((cell_far (p := ⟨Ak, _, none⟩) Ao.out _).trans (hHeld.1)), ((cell_far (p := ⟨Ak, _, none⟩) Ah.out _).trans (hHeld.2.1)), ((cell_far (p := ⟨Ak, _, none⟩) Ah.out _).trans (hHeld.2.2.1)), ((cell_far (p := ⟨Ak, _, none⟩) Ah.out _).trans (hHeld.2.2.2.1)), ((cell_far (p := ⟨Ak, _, none⟩) Ah.out _).trans (hHeld.2.2.2.2.1)), ((cell_far (p := ⟨Ak, _, none⟩) Ai.out _).trans (hHeld.2.2.2.2.2.1)), ((cell_far (p := ⟨Ak, _, none⟩) Ai.out _).trans (hHeld.2.2.2.2.2.2.1)), ((cell_far (p := ⟨Ak, _, none⟩) Ai.out _).trans (hHeld.2.2.2.2.2.2.2))⟩ (fun hHeld => ?_)
        clear hK K
        refine done_ (by kernel_rfl) ?_
        have hnb275 := Ax.out
        have hnc275 := Ao.out
        have hnb276 := Ap.out
        have hnc276 := Aq.out
        obtain ⟨_, _⟩ := zc1 Af
        try go_wp2_with (first | ((with_reducible refine gate_callee (f := 13) rfl ?_); refine zG (some 125) Try.func13 #[.agg #[.slice Cy Bu.length Cl]] ?_; (with_reducible refine (spec_DiskOk.calls Ck _ _ Bu false _ ?side1 ?side2 Mb.out).mono ?_); (case side1 => refine (Kd.R_reads' (e := 45) (base := w.heap.size) (ok := fun k_ => ((True ∧ some k_ ≠ (.slice Gy Cq.length Gq : Value).ownBlock) ∧ k_ ≠ Ba)) (n := Bu.length) (c := Cl) ?_).2.2; exact (zo ((Kd.R_mono (Kd.R_far (p := ⟨Ak, 0, none⟩) (Kd.R_types Br.out Af.out (by decide)) (fun _ hk => hk.2) (.slice Cy Bu.length Cl)) (fun _ h_ => h_.1))))); (case side2 => exact (Kd.R_reads' Br.out).2.1); rintro e w278 ⟨rfl, hb⟩; refine ⟨_, rfl, ?_⟩; replace Bo := Aside0.mk (Kd.R_below (zo ((Kd.R_mono (Kd.R_far (p := ⟨Ak, 0, none⟩) (Kd.R_types Bo.out Af.out (by decide)) (fun _ hk => hk.2) (.slice Cy Bu.length Cl)) (fun _ h_ => h_.1)))) hb); replace Br := Aside0.mk (Kd.R_below (zo ((Kd.R_mono (Kd.R_far (p := ⟨Ak, 0, none⟩) (Kd.R_types Br.out Af.out (by decide)) (fun _ hk => hk.2) (.slice Cy Bu.length Cl)) (fun _ h_ => h_.1)))) hb); replace Ab := zbf Ab hb; replace Aa := zbf Aa hb; replace Ac := zbf Ac hb; replace Ad := zbf Ad hb; replace Af := Aside0.mk (blk_below (g := Ak) (o := .cells #[.slice Cy Bu.length Cl] 29 (0, 0)) (zj Af) hb); replace HB := zs HB hb; clear hb; have hnb279 := Ay.out; have hnc279 := Az.out; obtain ⟨_, _⟩ := zc1 Ac))
        refine bodyPost_ret (results_ct rfl _ _ Bi 29 #[.slice none 0 0] (0, 0) _ rfl (zj Ac) Try.underlying29 rfl (by kernel_rfl)) rfl ?_
        exact ⟨_, ze, by first | exact Kd.R_nil _ _ _ _ _ | exact Kd.N_nil _ _ _ _ _ | exact Kd.V_nil _ _ _ _ _ | exact Kd.Q_nil _ _ _ _ _ | exact Kd.S_nil _ _ _ _ _, zw HB⟩
     rw [if_neg Cw] at H
     have E8 : (a1_0 == 3) = false := beq_eq_false_iff_ne.mpr Cw
     have E7 : (a1_0 != 3) = true := bne_iff_ne.mpr Cw
     by_cases Cz : a1_0 = 4
     ·rw [if_pos Cz] at H
      have La : (a1_0 == 4) = true := beq_iff_eq.mpr Cz
      have K9 : (a1_0 != 4) = false := bne_eq_false_iff_eq.mpr Cz
      clear Cz
      replace H := Option.bind_eq_some_iff.mp H
      obtain ⟨Bw, G1, H⟩ := H
      have Ma := Aside0.mk G1
      clear G1
      replace H := Option.bind_eq_some_iff.mp H
      obtain ⟨Mo, G0, H⟩ := H
      have L9 := Aside0.mk G0
      clear G0
      by_cases Fk : Mo = true
      ·subst Fk
       rw [if_pos rfl] at H
       simp only [Option.some.injEq, Prod.mk.injEq] at H
       obtain ⟨rfl, rfl⟩ := H
       go_wp2_with (first | ((with_reducible refine gate_dst (N := 8) rfl ?_); refine zx (N := 8) (cs := #[.slice none 0 0]) (t := 29) ?_; intro Ak hg w285 hbox hb; have Af := Aside0.mk (hbox); have Cd := zg HB hg; have Ce := zg HB hg; replace HB := zs HB hb; have Ao := zl Ab hg; have Ax := zr Ab hg; replace Ab := zb Ab hb; have Ah := zl Aa hg; have Am := zr Aa hg; replace Aa := zb Aa hb; have Aq := zl Ac hg; have Ap := zr Ac hg; replace Ac := zb Ac hb; have Ai := zl Ad hg; have Al := zr Ad hg; replace Ad := zb Ad hb; clear hb hbox hg; have hnb286 := Ax.out; have hnc286 := Ao.out; have hnb287 := Am.out; have hnc287 := Ah.out; have hnb288 := Ap.out; have hnc288 := Aq.out; have hnb289 := Al.out; have hnc289 := Ai.out; obtain ⟨_, _⟩ := zc1 Af; have hnb291 := Au.out; have hnc291 := Aw.out; have hnb292 := As.out; have hnc292 := Ar.out; have hnb293 := Be.out; have hnc293 := Bc.out; obtain ⟨_, _, _, _, _, _, _, _⟩ := zc4 Aa; have hnb295 := Az.out; have hnc295 := Ay.out; have hnb296 := Bg.out; have hnc296 := Bf.out; obtain ⟨_, _⟩ := zc1 Ab) | ((with_reducible refine gate_callee (f := 64) rfl ?_); refine zG (some 123) Try.func64 #[.agg #[.slice A0_0 l0_0.length c0_0], .string a1_1] ?_; (with_reducible refine (spec_l03Without.calls B8 _ _ l0_0 a1_1 Bw _ ?side1 ?side2 Ma.out).mono ?_); (case side1 => exact Kd.C_below HR0_0.out (zw HB)); (case side2 => exact Bp.out); rintro e w298 ⟨Mi, rfl, B0, hb⟩; refine ⟨_, rfl, ?_⟩; have Bq := Aside0.mk (Kd.R_lower (Kd.R_newB B0 (g := Ba) (o := .cells #[.string Aj, .string Ae, .int .i64 Ag] 45 (0, 0)) (zkf Ad)) (below_size (zw HB))); replace Ab := zbf Ab hb; replace Aa := zbf Aa hb; replace Ac := zbf Ac hb; replace Ad := zbf Ad hb; replace Af := Aside0.mk (blk_below (g := Ak) (o := .cells #[.slice none 0 0] 29 (0, 0)) (zj Af) hb); replace HB := zs HB hb; clear B0 hb; obtain ⟨Cn, Cf, Lv⟩ := Kd.R_slice Bq.out; subst Lv; obtain ⟨_, _⟩ := zc1 Af) | ((with_reducible refine gate_callee (f := 13) rfl ?_); refine zG (some 125) Try.func13 #[.agg #[.slice Cn Bw.length Cf]] ?_; (with_reducible refine (spec_DiskOk.calls B8 _ _ Bw true _ ?side1 ?side2 L9.out).mono ?_); (case side1 => refine (Kd.R_reads' (e := 45) (base := w.heap.size) (ok := fun k_ => (True ∧ k_ ≠ Ba)) (n := Bw.length) (c := Cf) ?_).2.2; exact (zo ((Kd.R_mono (Kd.R_far (p := ⟨Ak, 0, none⟩) (Kd.R_types Bq.out Af.out (by decide)) (fun _ hk => hk.2) (.slice Cn Bw.length Cf)) (fun _ h_ => h_.1))))); (case side2 => exact (Kd.R_reads' Bq.out).2.1); rintro e w301 ⟨rfl, hb⟩; refine ⟨_, rfl, ?_⟩; replace Bq := Aside0.mk (Kd.R_below (zo ((Kd.R_mono (Kd.R_far (p := ⟨Ak, 0, none⟩) (Kd.R_types Bq.out Af.out (by decide)) (fun _ hk => hk.2) (.slice Cn Bw.length Cf)) (fun _ h_ => h_.1)))) hb); replace Ab := zbf Ab hb; replace Aa := zbf Aa hb; replace Ac := zbf Ac hb; replace Ad := zbf Ad hb; replace Af := Aside0.mk (blk_below (g := Ak) (o := .cells #[.slice Cn Bw.length Cf] 29 (0, 0)) (zj Af) hb); replace HB := zs HB hb; clear hb; obtain ⟨_, _⟩ := zc1 Af; have hnb303 := Bd.out; have hnc303 := Bb.out; obtain ⟨_, _⟩ := zc1 Ac))
       refine bodyPost_ret (results_ct rfl _ _ Bi 29 #[.slice Cn Bw.length Cf] (0, 0) _ rfl (zj Ac) Try.underlying29 rfl (by kernel_rfl)) rfl ?_
       exact ⟨_, ze, zo (Kd.R_mono (Kd.R_far (p := ⟨Bi, 0, none⟩) (Kd.R_types Bq.out Ac.out (by decide)) (fun _ hk => hk.2) (.slice Cn Bw.length Cf)) (fun _ hk => trivial)), zw HB⟩
      replace Fk := Bool.eq_false_iff.mpr Fk
      subst Fk
      rw [if_neg (show ¬ (false = true) by decide)] at H
      simp only [Option.some.injEq, Prod.mk.injEq] at H
      obtain ⟨rfl, rfl⟩ := H
      go_wp2_with (first | ((with_reducible refine gate_dst (N := 8) rfl ?_); refine zx (N := 8) (cs := #[.slice none 0 0]) (t := 29) ?_; intro Ak hg w305 hbox hb; have Af := Aside0.mk (hbox); have Cd := zg HB hg; have Ce := zg HB hg; replace HB := zs HB hb; have Ao := zl Ab hg; have Ax := zr Ab hg; replace Ab := zb Ab hb; have Ah := zl Aa hg; have Am := zr Aa hg; replace Aa := zb Aa hb; have Aq := zl Ac hg; have Ap := zr Ac hg; replace Ac := zb Ac hb; have Ai := zl Ad hg; have Al := zr Ad hg; replace Ad := zb Ad hb; clear hb hbox hg; have hnb306 := Ax.out; have hnc306 := Ao.out; have hnb307 := Am.out; have hnc307 := Ah.out; have hnb308 := Ap.out; have hnc308 := Aq.out; have hnb309 := Al.out; have hnc309 := Ai.out; obtain ⟨_, _⟩ := zc1 Af; have hnb311 := Au.out; have hnc311 := Aw.out; have hnb312 := As.out; have hnc312 := Ar.out; have hnb313 := Be.out; have hnc313 := Bc.out; obtain ⟨_, _, _, _, _, _, _, _⟩ := zc4 Aa; have hnb315 := Az.out; have hnc315 := Ay.out; have hnb316 := Bg.out; have hnc316 := Bf.out; obtain ⟨_, _⟩ := zc1 Ab) | ((with_reducible refine gate_callee (f := 64) rfl ?_); refine zG (some 123) Try.func64 #[.agg #[.slice A0_0 l0_0.length c0_0], .string a1_1] ?_; (with_reducible refine (spec_l03Without.calls B8 _ _ l0_0 a1_1 Bw _ ?side1 ?side2 Ma.out).mono ?_); (case side1 => exact Kd.C_below HR0_0.out (zw HB)); (case side2 => exact Bp.out); rintro e w318 ⟨Mi, rfl, B0, hb⟩; refine ⟨_, rfl, ?_⟩; have Bq := Aside0.mk (Kd.R_lower (Kd.R_newB B0 (g := Ba) (o := .cells #[.string Aj, .string Ae, .int .i64 Ag] 45 (0, 0)) (zkf Ad)) (below_size (zw HB))); replace Ab := zbf Ab hb; replace Aa := zbf Aa hb; replace Ac := zbf Ac hb; replace Ad := zbf Ad hb; replace Af := Aside0.mk (blk_below (g := Ak) (o := .cells #[.slice none 0 0] 29 (0, 0)) (zj Af) hb); replace HB := zs HB hb; clear B0 hb; obtain ⟨C9, Cs, Lu⟩ := Kd.R_slice Bq.out; subst Lu; obtain ⟨_, _⟩ := zc1 Af) | ((with_reducible refine gate_callee (f := 13) rfl ?_); refine zG (some 125) Try.func13 #[.agg #[.slice C9 Bw.length Cs]] ?_; (with_reducible refine (spec_DiskOk.calls B8 _ _ Bw false _ ?side1 ?side2 L9.out).mono ?_); (case side1 => refine (Kd.R_reads' (e := 45) (base := w.heap.size) (ok := fun k_ => (True ∧ k_ ≠ Ba)) (n := Bw.length) (c := Cs) ?_).2.2; exact (zo ((Kd.R_mono (Kd.R_far (p := ⟨Ak, 0, none⟩) (Kd.R_types Bq.out Af.out (by decide)) (fun _ hk => hk.2) (.slice C9 Bw.length Cs)) (fun _ h_ => h_.1))))); (case side2 => exact (Kd.R_reads' Bq.out).2.1); rintro e w321 ⟨rfl, hb⟩; refine ⟨_, rfl, ?_⟩; replace Bq := Aside0.mk (Kd.R_below (zo ((Kd.R_mono (Kd.R_far (p := ⟨Ak, 0, none⟩) (Kd.R_types Bq.out Af.out (by decide)) (fun _ hk => hk.2) (.slice C9 Bw.length Cs)) (fun _ h_ => h_.1)))) hb); replace Ab := zbf Ab hb; replace Aa := zbf Aa hb; replace Ac := zbf Ac hb; replace Ad := zbf Ad hb; replace Af := Aside0.mk (blk_below (g := Ak) (o := .cells #[.slice C9 Bw.length Cs] 29 (0, 0)) (zj Af) hb); replace HB := zs HB hb; clear hb; have hnb322 := Bd.out; have hnc322 := Bb.out; obtain ⟨_, _⟩ := zc1 Ac))
      refine bodyPost_ret (results_ct rfl _ _ Bi 29 #[.slice none 0 0] (0, 0) _ rfl (zj Ac) Try.underlying29 rfl (by kernel_rfl)) rfl ?_
      exact ⟨_, ze, by first | exact Kd.R_nil _ _ _ _ _ | exact Kd.N_nil _ _ _ _ _ | exact Kd.V_nil _ _ _ _ _ | exact Kd.Q_nil _ _ _ _ _ | exact Kd.S_nil _ _ _ _ _, zw HB⟩
     rw [if_neg Cz] at H
     have La : (a1_0 == 4) = false := beq_eq_false_iff_ne.mpr Cz
     have K9 : (a1_0 != 4) = true := bne_iff_ne.mpr Cz
     simp only [Option.some.injEq, Prod.mk.injEq] at H
     obtain ⟨rfl, rfl⟩ := H
     go_wp2_with (first | ((with_reducible refine gate_dst (N := 8) rfl ?_); refine zx (N := 8) (cs := #[.slice none 0 0]) (t := 29) ?_; intro Ak hg w324 hbox hb; have Af := Aside0.mk (hbox); have Cd := zg HB hg; have Ce := zg HB hg; replace HB := zs HB hb; have Ao := zl Ab hg; have Ax := zr Ab hg; replace Ab := zb Ab hb; have Ah := zl Aa hg; have Am := zr Aa hg; replace Aa := zb Aa hb; have Aq := zl Ac hg; have Ap := zr Ac hg; replace Ac := zb Ac hb; have Ai := zl Ad hg; have Al := zr Ad hg; replace Ad := zb Ad hb; clear hb hbox hg; have hnb325 := Ax.out; have hnc325 := Ao.out; have hnb326 := Am.out; have hnc326 := Ah.out; have hnb327 := Ap.out; have hnc327 := Aq.out; have hnb328 := Al.out; have hnc328 := Ai.out; obtain ⟨_, _⟩ := zc1 Af; have hnb330 := Au.out; have hnc330 := Aw.out; have hnb331 := As.out; have hnc331 := Ar.out; have hnb332 := Be.out; have hnc332 := Bc.out; obtain ⟨_, _, _, _, _, _, _, _⟩ := zc4 Aa; have hnb334 := Ay.out; have hnc334 := Az.out; have hnb335 := Bd.out; have hnc335 := Bb.out; obtain ⟨_, _⟩ := zc1 Ac))
     refine bodyPost_ret (results_ct rfl _ _ Bi 29 #[.slice none 0 0] (0, 0) _ rfl (zj Ac) Try.underlying29 rfl (by kernel_rfl)) rfl ?_
     exact ⟨_, ze, by first | exact Kd.R_nil _ _ _ _ _ | exact Kd.N_nil _ _ _ _ _ | exact Kd.V_nil _ _ _ _ _ | exact Kd.Q_nil _ _ _ _ _ | exact Kd.S_nil _ _ _ _ _, zw HB⟩

end Go.Proofs.Ytdiecogmaiglaaa.PFnActs
