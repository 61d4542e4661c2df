import Derived.Test.YtdiecogmaiglaaaQFnActsx0
import Derived.Test.YtdiecogmaiglaaaQFnActsx2
import Derived.Test.YtdiecogmaiglaaaQFnActsx5
import Derived.Test.YtdiecogmaiglaaaQFnActsx12
import Derived.Test.YtdiecogmaiglaaaQFnActsx13
import Derived.Test.YtdiecogmaiglaaaQFnActsx16
import Derived.Test.YtdiecogmaiglaaaQFnActsx18
import Derived.Test.YtdiecogmaiglaaaQFnActsx20
namespace Go.Proofs.Ytdiecogmaiglaaa.PFnActs
open Go.RowKit Go.Proofs.YtdiecogmaiglaaaW.PrintWords Go.Proofs.YtdiecogmaiglaaaW.PrintLast Go.Proofs.YtdiecogmaiglaaaW.PrintMore
attribute [local go_sem] max2_int min2_int max_two min_two max_three min_three max_four min_four   -- for this text's walks alone
set_option linter.unusedVariables false
set_option linter.unusedSimpArgs false

/-! ### laws_FnActs: function 10 -/
mutual
def laws_FnActs.j0 : Nat → List (S55) → Int → List Int → Int → Bool → List (S45) → List (S45) → Option (Bool)
 | 0, _, _, _, _, _, _, _ => none
 | k + 1, x4, x5, x6, x8, x52, x553000, x558000 => if x52 = true then (some false) else (laws_FnActs.l0 k x4 x5 x6 x8 0 x553000 x558000 x553000)
def laws_FnActs.l0 : Nat → List (S55) → Int → List Int → Int → Int → List (S45) → List (S45) → List (S45) → Option (Bool)
 | 0, _, _, _, _, _, _, _, _ => none
 | k + 1, x4, x5, x6, x8, x12, x553000, x558000, x565000 => if x12 < x8 then (if 0 ≤ x12 then (if x12 < (x4.length : Int) then ((impl_DoAct.f k x565000 ((rd_T55 x4 x12).f0) ((rd_T55 x4 x12).f1) ((rd_T55 x4 x12).f2) ((rd_T55 x4 x12).f3)).bind fun bt566 => (if bt566.2 = true then ((impl_FileAt.f x565000 ((rd_T55 x4 x12).f1)).bind fun bt572 => ((impl_FileAt.f bt566.1 ((rd_T55 x4 x12).f1)).bind fun bt575 => (if ((rd_T55 x4 x12).f0) = 1 then (if bt575.2 = true then (if bt572.1.size + ((rd_T55 x4 x12).f2).size ≤ 9223372036854775807 then (if bt575.1.toList = (bt572.1 ++ ((rd_T55 x4 x12).f2)).toList then (if ((rd_T55 x4 x12).f0) = 4 then (some false) else (laws_FnActs.l0 k x4 x5 x6 x8 (wrap64 (x12 + 1)) x553000 x558000 bt566.1)) else (some false)) else (none)) else (some false)) else (if ((rd_T55 x4 x12).f0) = 4 then (if bt575.2 = true then (some false) else (laws_FnActs.l0 k x4 x5 x6 x8 (wrap64 (x12 + 1)) x553000 x558000 bt566.1)) else (laws_FnActs.l0 k x4 x5 x6 x8 (wrap64 (x12 + 1)) x553000 x558000 bt566.1))))) else (some false))) else (none)) else (none)) else ((impl_CutActs.f k x553000 x4 x5 x6).bind fun bt581 => ((spec_CutActs.f k x553000 x4 x5 x6).bind fun bt586 => (if (bt581.2 == bt586.2) = true then ((laws_sameDisk.f k bt581.1 bt586.1).bind fun t591 => (if t591 = true then (if x8 = 0 then (some true) else ((laws_sameDisk.f k x565000 x558000).bind fun t592 => (some t592))) else (some false))) else (some false))))
end
def laws_FnActs.f (k : Nat) (l0 : List Int) : Option (Bool) := (laws_big.f l0).bind fun t541 => (if t541 = true then (some true) else ((spec_DrawCutActs.f k l0).bind fun bt542 => ((impl_DoActs.f k bt542.1 bt542.2.1).bind fun bt553 => ((spec_DoActs.f k bt542.1 bt542.2.1).bind fun bt558 => (if bt553.2 = bt558.2 then ((laws_sameDisk.f k bt553.1 bt558.1).bind fun t563 => (laws_FnActs.j0 k bt542.2.1 bt542.2.2.1 bt542.2.2.2 bt553.2 (!t563) bt542.1 bt553.1)) else (laws_FnActs.j0 k bt542.2.1 bt542.2.2.1 bt542.2.2.2 bt553.2 true bt542.1 bt553.1))))))
theorem laws_FnActs.mono_l : ∀ k, (∀ y0 y1 y2 y3 y4 y5 y6, LeO (laws_FnActs.j0 k y0 y1 y2 y3 y4 y5 y6) (laws_FnActs.j0 (k + 1) y0 y1 y2 y3 y4 y5 y6)) ∧ (∀ y0 y1 y2 y3 y4 y5 y6 y7, LeO (laws_FnActs.l0 k y0 y1 y2 y3 y4 y5 y6 y7) (laws_FnActs.l0 (k + 1) y0 y1 y2 y3 y4 y5 y6 y7))
 | 0 => ⟨fun _ _ _ _ _ _ _ r h => by simp [laws_FnActs.j0] at h, fun _ _ _ _ _ _ _ _ r h => by simp [laws_FnActs.l0] at h⟩
 | k + 1 => by
  obtain ⟨ih0, ih1⟩ := laws_FnActs.mono_l k
  refine ⟨?_, ?_⟩
  ·intro y0 y1 y2 y3 y4 y5 y6
   unfold laws_FnActs.j0
   repeat' first
   | (with_reducible exact ih0 _ _ _ _ _ _ _)
   | (with_reducible exact ih1 _ _ _ _ _ _ _ _)
   | (with_reducible exact impl_CutActs.mono _ _ _ _ _)
   | (with_reducible exact impl_DoAct.mono _ _ _ _ _ _)
   | (with_reducible exact impl_DoActs.mono _ _ _)
   | (with_reducible exact laws_sameDisk.mono _ _ _)
   | (with_reducible exact spec_CutActs.mono _ _ _ _ _)
   | (with_reducible exact spec_DoActs.mono _ _ _)
   | (with_reducible exact spec_DrawCutActs.mono _ _)
   | (with_reducible exact LeO.refl _)
   | (with_reducible exact LeO.none _)
   | (with_reducible refine LeO.ite ?_ ?_)
   | (with_reducible refine LeO.bind ?_ (fun _ => ?_))
   | exact ih0 _ _ _ _ _ _ _
   | exact ih1 _ _ _ _ _ _ _ _
   | exact impl_CutActs.mono _ _ _ _ _
   | exact impl_DoAct.mono _ _ _ _ _ _
   | exact impl_DoActs.mono _ _ _
   | exact laws_sameDisk.mono _ _ _
   | exact spec_CutActs.mono _ _ _ _ _
   | exact spec_DoActs.mono _ _ _
   | exact spec_DrawCutActs.mono _ _
   | exact LeO.none _
   | refine LeO.ite ?_ ?_
   | refine LeO.bind ?_ (fun _ => ?_)
  intro y0 y1 y2 y3 y4 y5 y6 y7
  unfold laws_FnActs.l0
  repeat' first
  | (with_reducible exact ih0 _ _ _ _ _ _ _)
  | (with_reducible exact ih1 _ _ _ _ _ _ _ _)
  | (with_reducible exact impl_CutActs.mono _ _ _ _ _)
  | (with_reducible exact impl_DoAct.mono _ _ _ _ _ _)
  | (with_reducible exact impl_DoActs.mono _ _ _)
  | (with_reducible exact laws_sameDisk.mono _ _ _)
  | (with_reducible exact spec_CutActs.mono _ _ _ _ _)
  | (with_reducible exact spec_DoActs.mono _ _ _)
  | (with_reducible exact spec_DrawCutActs.mono _ _)
  | (with_reducible exact LeO.refl _)
  | (with_reducible exact LeO.none _)
  | (with_reducible refine LeO.ite ?_ ?_)
  | (with_reducible refine LeO.bind ?_ (fun _ => ?_))
  | exact ih0 _ _ _ _ _ _ _
  | exact ih1 _ _ _ _ _ _ _ _
  | exact impl_CutActs.mono _ _ _ _ _
  | exact impl_DoAct.mono _ _ _ _ _ _
  | exact impl_DoActs.mono _ _ _
  | exact laws_sameDisk.mono _ _ _
  | exact spec_CutActs.mono _ _ _ _ _
  | exact spec_DoActs.mono _ _ _
  | exact spec_DrawCutActs.mono _ _
  | exact LeO.none _
  | refine LeO.ite ?_ ?_
  | refine LeO.bind ?_ (fun _ => ?_)
theorem laws_FnActs.mono : ∀ a0 k, LeO (laws_FnActs.f k a0) (laws_FnActs.f (k + 1) a0) := by
 intro a0 k
 obtain ⟨ih0, ih1⟩ := laws_FnActs.mono_l k
 unfold laws_FnActs.f
 repeat' first
   | (with_reducible exact ih0 _ _ _ _ _ _ _)
   | (with_reducible exact ih1 _ _ _ _ _ _ _ _)
   | (with_reducible exact impl_CutActs.mono _ _ _ _ _)
   | (with_reducible exact impl_DoAct.mono _ _ _ _ _ _)
   | (with_reducible exact impl_DoActs.mono _ _ _)
   | (with_reducible exact laws_sameDisk.mono _ _ _)
   | (with_reducible exact spec_CutActs.mono _ _ _ _ _)
   | (with_reducible exact spec_DoActs.mono _ _ _)
   | (with_reducible exact spec_DrawCutActs.mono _ _)
   | (with_reducible exact LeO.refl _)
   | (with_reducible exact LeO.none _)
   | (with_reducible refine LeO.ite ?_ ?_)
   | (with_reducible refine LeO.bind ?_ (fun _ => ?_))
   | exact ih0 _ _ _ _ _ _ _
   | exact ih1 _ _ _ _ _ _ _ _
   | exact impl_CutActs.mono _ _ _ _ _
   | exact impl_DoAct.mono _ _ _ _ _ _
   | exact impl_DoActs.mono _ _ _
   | exact laws_sameDisk.mono _ _ _
   | exact spec_CutActs.mono _ _ _ _ _
   | exact spec_DoActs.mono _ _ _
   | exact spec_DrawCutActs.mono _ _
   | exact LeO.none _
   | refine LeO.ite ?_ ?_
   | refine LeO.bind ?_ (fun _ => ?_)
def laws_FnActs.T12 : Bool × List (List Nat × List Nat) := (true, [([], []), ([], []), ([], []), ([1, 2], [1, 2]), ([3], [3]), ([0, 4], [0, 4]), ([5], [5]), ([6], [6]), ([6], [6]), ([], []), ([9, 7, 5, 0, 1, 2, 3, 4, 5, 6, 7, 9], [7, 9]), ([8, 10, 0, 1, 2, 3, 4, 5, 6, 7, 8, 9, 10], [8])])
def laws_FnActs.B12 : List Nat := [0, 0, 0, 6, 14, 31, 63, 127, 127, 0, 767, 2047]
theorem laws_FnActs.tab12 : rtab .any (opsOf Try.f10 12) = laws_FnActs.T12 := by kernel_rfl
theorem laws_FnActs.bits12 : waitsOk laws_FnActs.T12.2 laws_FnActs.B12 = true := by kernel_rfl
def laws_FnActs.T15 : Bool × List (List Nat × List Nat) := (true, [([], []), ([], []), ([], []), ([1, 2], [1, 2]), ([3], [3]), ([4], [4]), ([0, 5], [0, 5]), ([6], [6]), ([7], [7]), ([7], [7]), ([8, 6, 0, 1, 2, 3, 4, 5, 6, 7, 8], [8]), ([9, 10, 0, 1, 2, 3, 4, 5, 6, 7, 8, 9, 10], [9])])
def laws_FnActs.B15 : List Nat := [0, 0, 0, 6, 14, 30, 63, 127, 255, 255, 511, 2047]
theorem laws_FnActs.tab15 : rtab .any (opsOf Try.f10 15) = laws_FnActs.T15 := by kernel_rfl
theorem laws_FnActs.bits15 : waitsOk laws_FnActs.T15.2 laws_FnActs.B15 = true := by kernel_rfl
def laws_FnActs.T16 : Bool × List (List Nat × List Nat) := (true, [([], []), ([], []), ([], []), ([1, 2], [1, 2]), ([3], [3]), ([4], [4]), ([0, 5], [0, 5]), ([6], [6]), ([7], [7]), ([7], [7]), ([8, 6, 0, 1, 2, 3, 4, 5, 6, 7, 8], [8]), ([9, 10, 0, 1, 2, 3, 4, 5, 6, 7, 8, 9, 10], [9])])
def laws_FnActs.B16 : List Nat := [0, 0, 0, 6, 14, 30, 63, 127, 255, 255, 511, 2047]
theorem laws_FnActs.tab16 : rtab .any (opsOf Try.f10 16) = laws_FnActs.T16 := by kernel_rfl
theorem laws_FnActs.bits16 : waitsOk laws_FnActs.T16.2 laws_FnActs.B16 = true := by kernel_rfl
theorem laws_FnActs.j0_t {k : Nat} {y0} {y1} {y2} {y3} {y5} {y6} : ¬ laws_FnActs.j0 k y0 y1 y2 y3 true y5 y6 = some true := by cases k <;> simp [laws_FnActs.j0]
abbrev q21_0 := #[o_,o_,o_,o_,o_,o_,o_,o_,o_,o_,o_,o_]
abbrev q21_1 := #[o_,i_,o_,o_,o_,o_,o_,o_,o_,o_,o_,o_]
abbrev q21_2 := #[o_,i_,i_,o_,o_,o_,o_,o_,o_,o_,o_,o_]
abbrev q21_3 := #[o_,i_,i_,i_,o_,o_,o_,o_,o_,o_,o_,o_]
abbrev q21_4 := #[i_,i_,i_,i_,o_,o_,o_,o_,o_,o_,o_,o_]
abbrev q21_5 := #[i_,i_,i_,i_,i_,o_,o_,o_,o_,o_,o_,o_]
abbrev q21_6 := #[i_,i_,i_,i_,i_,i_,i_,i_,i_,i_,o_,o_]
abbrev q21_7 := #[i_,i_,i_,i_,i_,i_,o_,o_,o_,o_,o_,o_]
abbrev q21_8 := #[i_,i_,i_,i_,i_,o_,o_,o_,o_,i_,o_,o_]
abbrev q21_9 := #[i_,i_,i_,i_,i_,i_,i_,o_,o_,o_,o_,o_]
abbrev q21_10 := #[i_,i_,i_,i_,i_,i_,i_,i_,o_,o_,o_,o_]
abbrev q21_11 := #[i_,i_,i_,i_,i_,i_,i_,i_,i_,o_,o_,o_]
abbrev q21_12 := #[i_,i_,i_,i_,i_,i_,o_,o_,o_,i_,o_,o_]
abbrev q21_13 := #[i_,i_,i_,i_,i_,i_,i_,o_,o_,i_,o_,o_]
abbrev q21_14 := #[i_,i_,i_,i_,i_,i_,i_,i_,o_,i_,o_,o_]
abbrev q21_15 := #[i_,i_,i_,i_,i_,i_,i_,i_,i_,i_,i_,o_]
abbrev q21_16 := #[i_,i_,i_,i_,i_,i_,i_,i_,i_,i_,i_,i_]
abbrev q21_17 := #[o_,i_,i_,i_,i_,o_,o_,o_,o_,o_,o_,o_]
set_option maxHeartbeats 8000000 in
set_option maxRecDepth 100000 in
theorem laws_FnActs.calls (k : Nat) (A0 : Option Addr) (c0 : Nat) (l0 : List Int) (r : Bool) (w : World) (hr0 : Kd.C (Kd.int .u8) w A0 l0.length l0) (hc0 : l0.length ≤ c0) (hr_ : r = true) (h : laws_FnActs.f k l0 = some r) :
  Calls Try.prog 10 #[.slice A0 l0.length c0] w fun e w' => e = .returned (.bool r) ∧ Below w.heap.size w w' := by
 have hu29 := Try.underlying29
 have hu55 := Try.underlying55
 have HR0 := Aside0.mk hr0
 have Iq := Aside0.mk hc0
 clear hr0 hc0
 have HB := Aside0.mk (Below.refl w.heap.size w)
 have HR_ := Aside0.mk hr_
 clear hr_
 have H : ((laws_big.f l0).bind fun Gj => (if Gj = true then (some true) else ((spec_DrawCutActs.f k l0).bind fun Dp => ((impl_DoActs.f k Dp.1 Dp.2.1).bind fun Dg => ((spec_DoActs.f k Dp.1 Dp.2.1).bind fun Ee => (if Dg.2 = Ee.2 then ((laws_sameDisk.f k Dg.1 Ee.1).bind fun Et => (laws_FnActs.j0 k Dp.2.1 Dp.2.2.1 Dp.2.2.2 Dg.2 (!Et) Dp.1 Dg.1)) else (laws_FnActs.j0 k Dp.2.1 Dp.2.2.1 Dp.2.2.2 Dg.2 true Dp.1 Dg.1))))))) = some r := h
 clear h
 replace H := Option.bind_eq_some_iff.mp H
 obtain ⟨Gj, I1, H⟩ := H
 have A2 := Aside0.mk I1
 clear I1
 by_cases c3 : Gj = true
 ·subst c3
  rw [if_pos rfl] at H
  obtain rfl := Option.some.inj H
  go_enter Try.func10, Try.ntmps10
  go_wp2_with (first | ((with_reducible refine gate_callee (f := 21) rfl ?_); refine zG (some 24) Try.func21 #[.slice A0 l0.length c0] ?_; (with_reducible refine (laws_big.calls _ _ l0 true _ ?side1 ?side2 A2.out).mono ?_); (case side1 => exact zI HR0.out); (case side2 => exact Iq.out); rintro e w' ⟨rfl, ⟨nd, rfl⟩⟩; refine ⟨_, rfl, ?_⟩))
  go_ret
  exact ⟨ze, zw HB⟩
 replace c3 := Bool.eq_false_iff.mpr c3
 subst c3
 rw [if_neg (show ¬ (false = true) by decide)] at H
 replace H := Option.bind_eq_some_iff.mp H
 obtain ⟨⟨Aq, Ai, Cm, Bw⟩, I0, H⟩ := H
 replace H : ((impl_DoActs.f k Aq Ai).bind fun Dg => ((spec_DoActs.f k Aq Ai).bind fun Ee => (if Dg.2 = Ee.2 then ((laws_sameDisk.f k Dg.1 Ee.1).bind fun Et => (laws_FnActs.j0 k Ai Cm Bw Dg.2 (!Et) Aq Dg.1)) else (laws_FnActs.j0 k Ai Cm Bw Dg.2 true Aq Dg.1)))) = some r := H
 have A4 := Aside0.mk I0
 clear I0
 replace H := Option.bind_eq_some_iff.mp H
 obtain ⟨⟨As, Cf⟩, Iz, H⟩ := H
 replace H : ((spec_DoActs.f k Aq Ai).bind fun Ee => (if Cf = Ee.2 then ((laws_sameDisk.f k As Ee.1).bind fun Et => (laws_FnActs.j0 k Ai Cm Bw Cf (!Et) Aq As)) else (laws_FnActs.j0 k Ai Cm Bw Cf true Aq As))) = some r := H
 have A5 := Aside0.mk Iz
 clear Iz
 replace H := Option.bind_eq_some_iff.mp H
 obtain ⟨⟨Ax, E3⟩, Iy, H⟩ := H
 replace H : (if Cf = E3 then ((laws_sameDisk.f k As Ax).bind fun Et => (laws_FnActs.j0 k Ai Cm Bw Cf (!Et) Aq As)) else (laws_FnActs.j0 k Ai Cm Bw Cf true Aq As)) = some r := H
 have A6 := Aside0.mk Iy
 clear Iy
 have Ip := Aside0.mk H
 clear H
 go_enter Try.func10, Try.ntmps10
 go_upto_region 6 with (first | ((with_reducible refine gate_callee (f := 21) rfl ?_); refine zG (some 24) Try.func21 #[.slice A0 l0.length c0] ?_; (with_reducible refine (laws_big.calls _ _ l0 false _ ?side1 ?side2 A2.out).mono ?_); (case side1 => exact zI HR0.out); (case side2 => exact Iq.out); rintro e w' ⟨rfl, ⟨nd, rfl⟩⟩; refine ⟨_, rfl, ?_⟩) | ((with_reducible refine gate_callee (f := 44) rfl ?_); refine zG (some 27) Try.func44 #[.slice A0 l0.length c0] ?_; (with_reducible refine (spec_DrawCutActs.calls k _ _ l0 Aq Ai Cm Bw _ ?side1 ?side2 A4.out).mono ?_); (case side1 => exact zI HR0.out); (case side2 => exact Iq.out); rintro e w8 ⟨v543, v546, Eg, rfl, Bt, Ix, Iw, hb⟩; refine ⟨_, rfl, ?_⟩; have Cb := Aside0.mk (Kd.R_lower Bt (below_size (zw HB))); have Cj := Aside0.mk (Kd.R_lower Ix (below_size (zw HB))); have C6 := Aside0.mk (Kd.R_lower Iw (below_size (zw HB))); replace HB := zs HB hb; clear Bt Ix hb; (try clear Iw)) | ((with_reducible refine gate_dst (N := 3) rfl ?_); refine zx (N := 3) (cs := #[.slice none 0 0]) (t := 29) ?_; intro Bu hg w9 hbox hb; replace Cb := zy Cb hb; replace Cj := zy Cj hb; replace C6 := zy C6 hb; have Ah := Aside0.mk (hbox); have GW552 := zg HB hg; have GE552 := zg HB hg; replace HB := zs HB hb; clear hb hbox hg; obtain ⟨Bg, Bb, Im⟩ := Kd.R_slice Cb.out; subst Im; obtain ⟨F7, F1⟩ := zc1 Ah; obtain ⟨E2, Da, Il⟩ := Kd.R_slice Cj.out; subst Il) | ((with_reducible refine gate_callee (f := 41) rfl ?_); refine zG (some 35) Try.func41 #[.agg #[.slice Bg Aq.length Bb], .slice E2 Ai.length Da] ?_; (with_reducible refine (impl_DoActs.calls k _ _ Aq _ _ Ai As Cf _ ?side1 ?side2 ?side3 ?side4 A5.out).mono ?_); (case side1 => refine (Kd.R_reads' (e := 45) (base := w.heap.size) (ok := fun k_ => True) (n := Aq.length) (c := Bb) ?_).2.2; exact (zo ((Kd.R_mono (Kd.R_far (p := ⟨Bu, 0, none⟩) (Kd.R_types Cb.out Ah.out (by decide)) (fun _ hk => hk.2) (.slice Bg Aq.length Bb)) (fun _ h_ => h_.1))))); (case side2 => exact (Kd.R_reads' Cb.out).2.1); (case side3 => refine (Kd.R_reads' (e := 55) (base := w.heap.size) (ok := fun k_ => True) (n := Ai.length) (c := Da) ?_).2.2; exact (zo ((Kd.R_mono (Kd.R_far (p := ⟨Bu, 0, none⟩) (Kd.R_types Cj.out Ah.out (by decide)) (fun _ hk => hk.2) (.slice Bg Aq.length Bb)) (fun _ h_ => h_.1))))); (case side4 => exact (Kd.R_reads' Cj.out).2.1); rintro e w13 ⟨v554, rfl, Bt, hb⟩; refine ⟨_, rfl, ?_⟩; replace Cj := Aside0.mk (Kd.R_below (zo ((Kd.R_mono (Kd.R_far (p := ⟨Bu, 0, none⟩) (Kd.R_types Cj.out Ah.out (by decide)) (fun _ hk => hk.2) (.slice Bg Aq.length Bb)) (fun _ h_ => h_.1)))) hb); replace C6 := Aside0.mk (Kd.R_below (zo ((Kd.R_mono (Kd.R_far (p := ⟨Bu, 0, none⟩) (Kd.R_types C6.out Ah.out (by decide)) (fun _ hk => hk.2) (.slice Bg Aq.length Bb)) (fun _ h_ => h_.1)))) hb); have C5 := Aside0.mk (Kd.R_lower (Kd.R_new' Bt (Kd.R_lt (zo ((Kd.R_mono (Kd.R_far (p := ⟨Bu, 0, none⟩) (Kd.R_types Cb.out Ah.out (by decide)) (fun _ hk => hk.2) (.slice Bg Aq.length Bb)) (fun _ h_ => h_.1)))))) (below_size (zw HB))); replace Cb := Aside0.mk (Kd.R_elder' (zo ((Kd.R_mono (Kd.R_far (p := ⟨Bu, 0, none⟩) (Kd.R_types Cb.out Ah.out (by decide)) (fun _ hk => hk.2) (.slice Bg Aq.length Bb)) (fun _ h_ => h_.1)))) (Kd.R_base Bt) hb); replace Ah := Aside0.mk (blk_below (g := Bu) (o := .cells #[.slice Bg Aq.length Bb] 29 (0, 0)) (zj Ah) hb); replace HB := zs HB hb; clear Bt hb) | ((with_reducible refine gate_dst (N := 7) rfl ?_); refine zx (N := 7) (cs := #[.slice none 0 0]) (t := 29) ?_; intro Br hg w14 hbox hb; replace Cb := zy Cb hb; replace Cj := zy Cj hb; replace C6 := zy C6 hb; replace C5 := zy C5 hb; have Aj := Aside0.mk (hbox); have GW557 := zg HB hg; have GE557 := zg HB hg; replace HB := zs HB hb; have Do := zl Ah hg; have Dm := zr Ah hg; replace Ah := zb Ah hb; clear hb hbox hg; obtain ⟨Bf, Be, Ik⟩ := Kd.R_slice C5.out; subst Ik; have hnb16 := Dm.out; have hnc16 := Do.out; obtain ⟨F6, F0⟩ := zc1 Aj; obtain ⟨F5, Fz⟩ := zc1 Ah) | ((with_reducible refine gate_callee (f := 39) rfl ?_); refine zG (some 41) Try.func39 #[.agg #[.slice Bg Aq.length Bb], .slice E2 Ai.length Da] ?_; (with_reducible refine (spec_DoActs.calls k _ _ Aq _ _ Ai Ax E3 _ ?side1 ?side2 ?side3 ?side4 A6.out).mono ?_); (case side1 => refine (Kd.R_reads' (e := 45) (base := w.heap.size) (ok := fun k_ => (True ∧ some k_ ≠ (.slice Bf As.length Be : Value).ownBlock)) (n := Aq.length) (c := Bb) ?_).2.2; exact (zo ((Kd.R_mono (Kd.R_far (p := ⟨Br, 0, none⟩) (Kd.R_types Cb.out Aj.out (by decide)) (fun _ hk => hk.2) (.slice Bf As.length Be)) (fun _ h_ => h_.1))))); (case side2 => exact (Kd.R_reads' Cb.out).2.1); (case side3 => refine (Kd.R_reads' (e := 55) (base := w.heap.size) (ok := fun k_ => True) (n := Ai.length) (c := Da) ?_).2.2; exact (zo ((Kd.R_mono (Kd.R_far (p := ⟨Br, 0, none⟩) (Kd.R_types Cj.out Aj.out (by decide)) (fun _ hk => hk.2) (.slice Bf As.length Be)) (fun _ h_ => h_.1))))); (case side4 => exact (Kd.R_reads' Cj.out).2.1); rintro e w19 ⟨v559, rfl, Bt, hb⟩; refine ⟨_, rfl, ?_⟩; replace Cj := Aside0.mk (Kd.R_below (zo ((Kd.R_mono (Kd.R_far (p := ⟨Br, 0, none⟩) (Kd.R_types Cj.out Aj.out (by decide)) (fun _ hk => hk.2) (.slice Bf As.length Be)) (fun _ h_ => h_.1)))) hb); replace C6 := Aside0.mk (Kd.R_below (zo ((Kd.R_mono (Kd.R_far (p := ⟨Br, 0, none⟩) (Kd.R_types C6.out Aj.out (by decide)) (fun _ hk => hk.2) (.slice Bf As.length Be)) (fun _ h_ => h_.1)))) hb); have Dt := Aside0.mk (Kd.R_lower (Kd.R_new' (Kd.R_new' Bt (Kd.R_lt (zo ((Kd.R_mono (Kd.R_far (p := ⟨Br, 0, none⟩) (Kd.R_types Cb.out Aj.out (by decide)) (fun _ hk => hk.2) (.slice Bf As.length Be)) (fun _ h_ => h_.1)))))) (Kd.R_lt (zo ((Kd.R_mono (Kd.R_far (p := ⟨Br, 0, none⟩) (Kd.R_types C5.out Aj.out (by decide)) (fun _ hk => hk.2) (.slice Bf As.length Be)) (fun _ h_ => h_.1)))))) (below_size (zw HB))); replace Cb := Aside0.mk (Kd.R_elder' (zo ((Kd.R_mono (Kd.R_far (p := ⟨Br, 0, none⟩) (Kd.R_types Cb.out Aj.out (by decide)) (fun _ hk => hk.2) (.slice Bf As.length Be)) (fun _ h_ => h_.1)))) (Kd.R_base Bt) hb); replace C5 := Aside0.mk (Kd.R_elder' (zo ((Kd.R_mono (Kd.R_far (p := ⟨Br, 0, none⟩) (Kd.R_types C5.out Aj.out (by decide)) (fun _ hk => hk.2) (.slice Bf As.length Be)) (fun _ h_ => h_.1)))) (Kd.R_base Bt) hb); replace Ah := zbf Ah hb; replace Aj := Aside0.mk (blk_below (g := Br) (o := .cells #[.slice Bf As.length Be] 29 (0, 0)) (zj Aj) hb); replace HB := zs HB hb; clear Bt hb) | ((with_reducible refine gate_dst (N := 9) rfl ?_); refine zx (N := 9) (cs := #[.slice none 0 0]) (t := 29) ?_; intro Bp hg w20 hbox hb; replace Cb := zy Cb hb; replace Cj := zy Cj hb; replace C6 := zy C6 hb; replace C5 := zy C5 hb; replace Dt := zy Dt hb; have Ak := Aside0.mk (hbox); have GW562 := zg HB hg; have GE562 := zg HB hg; replace HB := zs HB hb; have Dn := zl Ah hg; have Dk := zr Ah hg; replace Ah := zb Ah hb; have Eb := zl Aj hg; have D8 := zr Aj hg; replace Aj := zb Aj hb; clear hb hbox hg; obtain ⟨Bd, Ba, Ij⟩ := Kd.R_slice Dt.out; subst Ij; have hnb22 := Dk.out; have hnc22 := Dn.out; have hnb23 := D8.out; have hnc23 := Eb.out; obtain ⟨F4, Fy⟩ := zc1 Ak))
 (try simp only [Act.put, zA, zB, zC])
 go_cut [52] (fun I5 wc => ∃ (kq : Nat) (E8 : Bool), I5 = .bool E8 ∧ Aside0 (laws_FnActs.j0 kq Ai Cm Bw Cf E8 Aq As = some r) ∧ Aside0 (kq ≤ k) ∧ Aside0 (Kd.R k55 55 wc w.heap.size (fun _ => True) (.slice E2 Ai.length Da) Ai) ∧ Aside0 (Kd.R (Kd.int .i64) 3 wc w.heap.size (fun _ => True) Eg Bw) ∧ Aside0 (Kd.R k45 45 wc w.heap.size (fun k_ => some k_ ≠ ((.slice Bf As.length Be) : Value).ownBlock ∧ some k_ ≠ ((.slice Bd Ax.length Ba) : Value).ownBlock) (.slice Bg Aq.length Bb) Aq) ∧ Aside0 (Kd.R k45 45 wc w.heap.size (fun k_ => some k_ ≠ ((.slice Bg Aq.length Bb) : Value).ownBlock ∧ some k_ ≠ ((.slice Bd Ax.length Ba) : Value).ownBlock) (.slice Bf As.length Be) As) ∧ Aside0 (Kd.R k45 45 wc w.heap.size (fun k_ => some k_ ≠ ((.slice Bg Aq.length Bb) : Value).ownBlock ∧ some k_ ≠ ((.slice Bf As.length Be) : Value).ownBlock) (.slice Bd Ax.length Ba) Ax) ∧ Aside0 (wc.heap[Bu]? = some (.cells #[(.slice Bg Aq.length Bb)] 29 (0, 0))) ∧ Aside0 (wc.heap[Br]? = some (.cells #[(.slice Bf As.length Be)] 29 (0, 0))) ∧ Aside0 (wc.heap[Bp]? = some (.cells #[(.slice Bd Ax.length Ba)] 29 (0, 0))) ∧ Aside0 (Below w.heap.size w wc))
 case first =>
  have H := Ip.out
  clear Ip
  by_cases Ft : Cf = E3
  ·rw [if_pos Ft] at H
   have Eq : (Cf == E3) = true := beq_iff_eq.mpr Ft
   have Fm : (Cf != E3) = false := bne_eq_false_iff_eq.mpr Ft
   clear Ft
   (first | rw [Eq] | (simp only [i64_w, i32_w]; rw [Eq]) | skip)
   replace H := Option.bind_eq_some_iff.mp H
   obtain ⟨Et, H0, H⟩ := H
   have Jf := Aside0.mk H0
   clear H0
   have H' := Aside0.mk H
   clear H
   have hnb27 := Dm.out
   have hnc27 := Do.out
   have hnb28 := Eb.out
   have hnc28 := D8.out
   obtain ⟨F3, Fx⟩ := zc1 Aj
   have hnb30 := Dk.out
   have hnc30 := Dn.out
   obtain ⟨F2, Fw⟩ := zc1 Ak
   go_wp2_with (first | (go_at_call 26; (with_reducible refine (laws_sameDisk.calls k _ _ As _ _ Ax Et _ ?side1 ?side2 ?side3 ?side4 Jf.out).mono ?_); (case side1 => refine (Kd.R_reads' (e := 45) (base := w.heap.size) (ok := fun k_ => ((True ∧ some k_ ≠ (.slice Bg Aq.length Bb : Value).ownBlock) ∧ some k_ ≠ (.slice Bd Ax.length Ba : Value).ownBlock)) (n := As.length) (c := Be) ?_).2.2; exact (zo ((Kd.R_mono (Kd.R_far (p := ⟨Bp, 0, none⟩) (Kd.R_types C5.out Ak.out (by decide)) (fun _ hk => hk.2) (.slice Bd Ax.length Ba)) (fun _ h_ => h_.1))))); (case side2 => exact (Kd.R_reads' C5.out).2.1); (case side3 => refine (Kd.R_reads' (e := 45) (base := w.heap.size) (ok := fun k_ => ((True ∧ some k_ ≠ (.slice Bg Aq.length Bb : Value).ownBlock) ∧ some k_ ≠ (.slice Bf As.length Be : Value).ownBlock)) (n := Ax.length) (c := Ba) ?_).2.2; exact (zo ((Kd.R_mono (Kd.R_far (p := ⟨Bp, 0, none⟩) (Kd.R_types Dt.out Ak.out (by decide)) (fun _ hk => hk.2) (.slice Bd Ax.length Ba)) (fun _ h_ => h_.1))))); (case side4 => exact (Kd.R_reads' Dt.out).2.1); rintro e w32 ⟨rfl, hb⟩; replace Cb := Aside0.mk (Kd.R_below (zo ((Kd.R_mono (Kd.R_far (p := ⟨Bp, 0, none⟩) (Kd.R_types Cb.out Ak.out (by decide)) (fun _ hk => hk.2) (.slice Bd Ax.length Ba)) (fun _ h_ => h_.1)))) hb); replace Cj := Aside0.mk (Kd.R_below (zo ((Kd.R_mono (Kd.R_far (p := ⟨Bp, 0, none⟩) (Kd.R_types Cj.out Ak.out (by decide)) (fun _ hk => hk.2) (.slice Bd Ax.length Ba)) (fun _ h_ => h_.1)))) hb); replace C6 := Aside0.mk (Kd.R_below (zo ((Kd.R_mono (Kd.R_far (p := ⟨Bp, 0, none⟩) (Kd.R_types C6.out Ak.out (by decide)) (fun _ hk => hk.2) (.slice Bd Ax.length Ba)) (fun _ h_ => h_.1)))) hb); replace C5 := Aside0.mk (Kd.R_below (zo ((Kd.R_mono (Kd.R_far (p := ⟨Bp, 0, none⟩) (Kd.R_types C5.out Ak.out (by decide)) (fun _ hk => hk.2) (.slice Bd Ax.length Ba)) (fun _ h_ => h_.1)))) hb); replace Dt := Aside0.mk (Kd.R_below (zo ((Kd.R_mono (Kd.R_far (p := ⟨Bp, 0, none⟩) (Kd.R_types Dt.out Ak.out (by decide)) (fun _ hk => hk.2) (.slice Bd Ax.length Ba)) (fun _ h_ => h_.1)))) hb); replace Ah := zbf Ah hb; replace Aj := zbf Aj hb; replace Ak := Aside0.mk (blk_below (g := Bp) (o := .cells #[.slice Bd Ax.length Ba] 29 (0, 0)) (zj Ak) hb); replace HB := zs HB hb; clear hb))
   go_meet
   case rel => exact ⟨_, (!Et), zf, H', ⟨by first | omega | exact Nat.le_refl _⟩, ⟨zo Cj.out⟩, ⟨zo C6.out⟩, ⟨zo (Kd.R_mono Cb.out (fun _ hk => ⟨hk.1.2, hk.2⟩))⟩, ⟨zo (Kd.R_mono C5.out (fun _ hk => ⟨hk.1.2, hk.2⟩))⟩, ⟨zo (Kd.R_mono Dt.out (fun _ hk => ⟨hk.1.2, hk.2⟩))⟩, ⟨zkf Ah⟩, ⟨zkf Aj⟩, ⟨zkf Ak⟩, ⟨zw HB⟩⟩
  rw [if_neg Ft] at H
  have Eq : (Cf == E3) = false := beq_eq_false_iff_ne.mpr Ft
  have Fm : (Cf != E3) = true := bne_iff_ne.mpr Ft
  (first | rw [Eq] | (simp only [i64_w, i32_w]; rw [Eq]) | skip)
  have H' := Aside0.mk H
  clear H
  go_wp2
  go_meet
  case rel => exact ⟨_, (true), zf, H', ⟨by first | omega | exact Nat.le_refl _⟩, ⟨zo (Kd.R_mono (Kd.R_far (p := ⟨Bp, 0, none⟩) (Kd.R_types Cj.out Ak.out (by decide)) (fun _ hk => hk.2) (.slice Bd Ax.length Ba)) (fun _ hk => trivial))⟩, ⟨zo (Kd.R_mono (Kd.R_far (p := ⟨Bp, 0, none⟩) (Kd.R_types C6.out Ak.out (by decide)) (fun _ hk => hk.2) (.slice Bd Ax.length Ba)) (fun _ hk => trivial))⟩, ⟨zo (Kd.R_mono (Kd.R_far (p := ⟨Bp, 0, none⟩) (Kd.R_types Cb.out Ak.out (by decide)) (fun _ hk => hk.2) (.slice Bd Ax.length Ba)) (fun _ hk => ⟨hk.1.1.2, hk.1.2⟩))⟩, ⟨zo (Kd.R_mono (Kd.R_far (p := ⟨Bp, 0, none⟩) (Kd.R_types C5.out Ak.out (by decide)) (fun _ hk => hk.2) (.slice Bd Ax.length Ba)) (fun _ hk => ⟨hk.1.1.2, hk.1.2⟩))⟩, ⟨zo (Kd.R_mono (Kd.R_far (p := ⟨Bp, 0, none⟩) (Kd.R_types Dt.out Ak.out (by decide)) (fun _ hk => hk.2) (.slice Bd Ax.length Ba)) (fun _ hk => ⟨hk.1.1.2, hk.1.2⟩))⟩, ⟨zkf Ah⟩, ⟨zkf Aj⟩, ⟨zj Ak⟩, ⟨zw HB⟩⟩
 case rest =>
  clear Ip
  try clear c1
  try clear c2
  try clear p2
  try clear c3
  try clear c4
  try clear Je
  try clear Jd
  try clear Jc
  try clear Jb
  try clear Ja
  try clear Ft
  try clear Eq
  try clear Fm
  try clear I9
  try clear I8
  try clear I7
  try clear F7
  try clear F6
  try clear F5
  try clear F4
  try clear F3
  try clear F2
  try clear F1
  try clear F0
  try clear Fz
  try clear Fy
  try clear Fx
  try clear Fw
  obtain ⟨kq, E8, rfl, HA, HJ6, Ao, Ar, Ac, Ad, Ae, Ah, Aj, Ak, HB⟩ := hcut
  cases kq with
  | zero => exact absurd HA.out (by simp [laws_FnActs.j0])
  | succ Iv =>
   have H := HA.out
   clear HA
   simp only [laws_FnActs.j0] at H
   by_cases Hq : E8 = true
   ·subst Hq
    rw [if_pos rfl] at H
    obtain rfl := Option.some.inj H
    exact absurd HR_.out (by decide)
   replace Hq := Bool.eq_false_iff.mpr Hq
   subst Hq
   rw [if_neg (show ¬ (false = true) by decide)] at H
   have H' := Aside0.mk H
   clear H
   have hnb34 := Do.out
   have hnc34 := Dm.out
   have hnb35 := Dn.out
   have hnc35 := Dk.out
   obtain ⟨G7, G5⟩ := zc1 Ah
   go_wp2_with (first | ((with_reducible refine gate_dst (N := 11) rfl ?_); refine zx (N := 11) (cs := #[.slice none 0 0]) (t := 29) ?_; intro Ay hg w37 hbox hb; replace Ao := zy Ao hb; replace Ar := zy Ar hb; replace Ac := zy Ac hb; replace Ad := zy Ad hb; replace Ae := zy Ae hb; have Ag := Aside0.mk (hbox); have GW564 := zg HB hg; have GE564 := zg HB hg; replace HB := zs HB hb; have Cq := zl Ah hg; have Cp := zr Ah hg; replace Ah := zb Ah hb; have Dl := zl Aj hg; have Di := zr Aj hg; replace Aj := zb Aj hb; have Dj := zl Ak hg; have Dh := zr Ak hg; replace Ak := zb Ak hb; clear hb hbox hg; have hnb38 := Cp.out; have hnc38 := Cq.out; have hnb39 := Di.out; have hnc39 := Dl.out; have hnb40 := Dh.out; have hnc40 := Dj.out; obtain ⟨G6, G4⟩ := zc1 Ag))
   go_loopg [12] Iv (fun kq I6 w' => ∃ (Aa : Int) (Af : List (S45)) (Co : Value), I6 = .int .i64 Aa ∧ Aside0 (laws_FnActs.l0 kq Ai Cm Bw Cf Aa Aq As Af = some r) ∧ Aside0 (kq ≤ Iv) ∧ Aside0 (Kd.R k55 55 w' w.heap.size (fun _ => True) (.slice E2 Ai.length Da) Ai) ∧ Aside0 (Kd.R (Kd.int .i64) 3 w' w.heap.size (fun _ => True) Eg Bw) ∧ Aside0 (Kd.R k45 45 w' w.heap.size (fun k_ => some k_ ≠ ((.slice Bf As.length Be) : Value).ownBlock ∧ some k_ ≠ ((.slice Bd Ax.length Ba) : Value).ownBlock) (.slice Bg Aq.length Bb) Aq) ∧ Aside0 (Kd.R k45 45 w' w.heap.size (fun k_ => some k_ ≠ ((.slice Bg Aq.length Bb) : Value).ownBlock ∧ some k_ ≠ ((.slice Bd Ax.length Ba) : Value).ownBlock ∧ some k_ ≠ (Co : Value).ownBlock) (.slice Bf As.length Be) As) ∧ Aside0 (Kd.R k45 45 w' w.heap.size (fun k_ => some k_ ≠ ((.slice Bg Aq.length Bb) : Value).ownBlock ∧ some k_ ≠ ((.slice Bf As.length Be) : Value).ownBlock ∧ some k_ ≠ (Co : Value).ownBlock) (.slice Bd Ax.length Ba) Ax) ∧ Aside0 (Kd.R k45 45 w' w.heap.size (fun k_ => some k_ ≠ ((.slice Bf As.length Be) : Value).ownBlock ∧ some k_ ≠ ((.slice Bd Ax.length Ba) : Value).ownBlock) Co Af) ∧ Aside0 (w'.heap[Bu]? = some (.cells #[(.slice Bg Aq.length Bb)] 29 (0, 0))) ∧ Aside0 (w'.heap[Br]? = some (.cells #[(.slice Bf As.length Be)] 29 (0, 0))) ∧ Aside0 (w'.heap[Bp]? = some (.cells #[(.slice Bd Ax.length Ba)] 29 (0, 0))) ∧ Aside0 (w'.heap[Ay]? = some (.cells #[Co] 29 (0, 0))) ∧ Aside0 (Below w.heap.size w w'))
   case atStart => exact ⟨(0), (Aq), (.slice Bg Aq.length Bb), zf, H', ⟨Nat.le_refl _⟩, ⟨zo (Kd.R_mono (Kd.R_far (p := ⟨Ay, 0, none⟩) (Kd.R_types Ao.out Ag.out (by decide)) (fun _ hk => hk.2) (.slice Bg Aq.length Bb)) (fun _ hk => trivial))⟩, ⟨zo (Kd.R_mono (Kd.R_far (p := ⟨Ay, 0, none⟩) (Kd.R_types Ar.out Ag.out (by decide)) (fun _ hk => hk.2) (.slice Bg Aq.length Bb)) (fun _ hk => trivial))⟩, ⟨zo (Kd.R_mono (Kd.R_far (p := ⟨Ay, 0, none⟩) (Kd.R_types Ac.out Ag.out (by decide)) (fun _ hk => hk.2) (.slice Bg Aq.length Bb)) (fun _ hk => ⟨hk.1.1, hk.1.2⟩))⟩, ⟨zo (Kd.R_mono (Kd.R_far (p := ⟨Ay, 0, none⟩) (Kd.R_types Ad.out Ag.out (by decide)) (fun _ hk => hk.2) (.slice Bg Aq.length Bb)) (fun _ hk => ⟨hk.1.1, ⟨hk.1.2, hk.1.1⟩⟩))⟩, ⟨zo (Kd.R_mono (Kd.R_far (p := ⟨Ay, 0, none⟩) (Kd.R_types Ae.out Ag.out (by decide)) (fun _ hk => hk.2) (.slice Bg Aq.length Bb)) (fun _ hk => ⟨hk.1.1, ⟨hk.1.2, hk.1.1⟩⟩))⟩, ⟨zo (Kd.R_mono (Kd.R_far (p := ⟨Ay, 0, none⟩) (Kd.R_types Ac.out Ag.out (by decide)) (fun _ hk => hk.2) (.slice Bg Aq.length Bb)) (fun _ hk => ⟨hk.1.1, hk.1.2⟩))⟩, ⟨zkf Ah⟩, ⟨zkf Aj⟩, ⟨zkf Ak⟩, ⟨zj Ag⟩, ⟨zw HB⟩⟩
   case round =>
    clear H'
    try clear c1
    try clear c2
    try clear p2
    try clear c3
    try clear c4
    try clear Je
    try clear Jd
    try clear Jc
    try clear Jb
    try clear Ja
    try clear Ft
    try clear Eq
    try clear Fm
    try clear I9
    try clear I8
    try clear I7
    try clear Hq
    try clear c34
    try clear c35
    try clear c38
    try clear c39
    try clear c40
    try clear c41
    try clear F7
    try clear F6
    try clear F5
    try clear F4
    try clear F3
    try clear F2
    try clear G7
    try clear G6
    try clear F1
    try clear F0
    try clear Fz
    try clear Fy
    try clear Fx
    try clear Fw
    try clear G5
    try clear G4
    try clear p2
    obtain ⟨Aa, Af, Co, rfl, HA, G1, Ao, Ar, Ac, Ad, Ae, Ab, Ah, Aj, Ak, Ag, HB⟩ := hrel
    cases gk with
    | zero => exact absurd HA.out (by simp [laws_FnActs.l0])
    | succ k2 =>
     have H := HA.out
     clear HA
     simp only [laws_FnActs.l0] at H
     by_cases G0 : Aa < Cf
     ·rw [if_pos G0] at H
      have Hp := decide_eq_true G0
      clear G0
      by_cases H8 : 0 ≤ Aa
      ·rw [if_pos H8] at H
       have c43b0 := decide_eq_true H8
       clear H8
       by_cases H7 : Aa < (Ai.length : Int)
       ·rw [if_pos H7] at H
        have c44b0 := decide_eq_true H7
        clear H7
        replace H := Option.bind_eq_some_iff.mp H
        obtain ⟨⟨Aw, G3⟩, Hz, H⟩ := H
        replace H : (if G3 = true then ((impl_FileAt.f Af ((rd_T55 Ai Aa).f1)).bind fun Gb => ((impl_FileAt.f Aw ((rd_T55 Ai Aa).f1)).bind fun Es => (if ((rd_T55 Ai Aa).f0) = 1 then (if Es.2 = true then (if Gb.1.size + ((rd_T55 Ai Aa).f2).size ≤ 9223372036854775807 then (if Es.1.toList = (Gb.1 ++ ((rd_T55 Ai Aa).f2)).toList then (if ((rd_T55 Ai Aa).f0) = 4 then (some false) else (laws_FnActs.l0 k2 Ai Cm Bw Cf (wrap64 (Aa + 1)) Aq As Aw)) else (some false)) else (none)) else (some false)) else (if ((rd_T55 Ai Aa).f0) = 4 then (if Es.2 = true then (some false) else (laws_FnActs.l0 k2 Ai Cm Bw Cf (wrap64 (Aa + 1)) Aq As Aw)) else (laws_FnActs.l0 k2 Ai Cm Bw Cf (wrap64 (Aa + 1)) Aq As Aw))))) else (some false)) = some r := H
        have G2 := Aside0.mk Hz
        clear Hz
        by_cases H6 : G3 = true
        ·subst H6
         rw [if_pos rfl] at H
         replace H := Option.bind_eq_some_iff.mp H
         obtain ⟨⟨Ds, Gi⟩, Hy, H⟩ := H
         replace H : ((impl_FileAt.f Aw ((rd_T55 Ai Aa).f1)).bind fun Es => (if ((rd_T55 Ai Aa).f0) = 1 then (if Es.2 = true then (if Ds.size + ((rd_T55 Ai Aa).f2).size ≤ 9223372036854775807 then (if Es.1.toList = (Ds ++ ((rd_T55 Ai Aa).f2)).toList then (if ((rd_T55 Ai Aa).f0) = 4 then (some false) else (laws_FnActs.l0 k2 Ai Cm Bw Cf (wrap64 (Aa + 1)) Aq As Aw)) else (some false)) else (none)) else (some false)) else (if ((rd_T55 Ai Aa).f0) = 4 then (if Es.2 = true then (some false) else (laws_FnActs.l0 k2 Ai Cm Bw Cf (wrap64 (Aa + 1)) Aq As Aw)) else (laws_FnActs.l0 k2 Ai Cm Bw Cf (wrap64 (Aa + 1)) Aq As Aw)))) = some r := H
         have Is := Aside0.mk Hy
         clear Hy
         replace H := Option.bind_eq_some_iff.mp H
         obtain ⟨⟨Ey, Ff⟩, Hx, H⟩ := H
         replace H : (if ((rd_T55 Ai Aa).f0) = 1 then (if Ff = true then (if Ds.size + ((rd_T55 Ai Aa).f2).size ≤ 9223372036854775807 then (if Ey.toList = (Ds ++ ((rd_T55 Ai Aa).f2)).toList then (if ((rd_T55 Ai Aa).f0) = 4 then (some false) else (laws_FnActs.l0 k2 Ai Cm Bw Cf (wrap64 (Aa + 1)) Aq As Aw)) else (some false)) else (none)) else (some false)) else (if ((rd_T55 Ai Aa).f0) = 4 then (if Ff = true then (some false) else (laws_FnActs.l0 k2 Ai Cm Bw Cf (wrap64 (Aa + 1)) Aq As Aw)) else (laws_FnActs.l0 k2 Ai Cm Bw Cf (wrap64 (Aa + 1)) Aq As Aw))) = some r := H
         have Ir := Aside0.mk Hx
         clear Hx
         by_cases Gs : ((rd_T55 Ai Aa).f0) = 1
         ·rw [if_pos Gs] at H
          have Ho : (((rd_T55 Ai Aa).f0) == 1) = true := beq_iff_eq.mpr Gs
          have Hn : (((rd_T55 Ai Aa).f0) != 1) = false := bne_eq_false_iff_eq.mpr Gs
          clear Gs
          by_cases H5 : Ff = true
          ·subst H5
           rw [if_pos rfl] at H
           by_cases Hm : Ds.size + ((rd_T55 Ai Aa).f2).size ≤ 9223372036854775807
           ·rw [if_pos Hm] at H
            have c51b0 := eq_true Hm
            have c51b1 := decide_eq_true Hm
            try have c51b2 : (9223372036854775807 < Ds.size + ((rd_T55 Ai Aa).f2).size) = False := eq_false (Nat.not_lt.2 Hm)
            by_cases Gr : Ey.toList = (Ds ++ ((rd_T55 Ai Aa).f2)).toList
            ·rw [if_pos Gr] at H
             have Hl : (Ey.toList == (Ds ++ ((rd_T55 Ai Aa).f2)).toList) = true := beq_iff_eq.mpr Gr
             have Hk : (Ey.toList != (Ds ++ ((rd_T55 Ai Aa).f2)).toList) = false := bne_eq_false_iff_eq.mpr Gr
             clear Gr
             by_cases Gq : ((rd_T55 Ai Aa).f0) = 4
             ·rw [if_pos Gq] at H
              have Hj : (((rd_T55 Ai Aa).f0) == 4) = true := beq_iff_eq.mpr Gq
              have Hi : (((rd_T55 Ai Aa).f0) != 4) = false := bne_eq_false_iff_eq.mpr Gq
              clear Gq
              obtain rfl := Option.some.inj H
              exact absurd HR_.out (by decide)
             rw [if_neg Gq] at H
             have Hj : (((rd_T55 Ai Aa).f0) == 4) = false := beq_eq_false_iff_ne.mpr Gq
             have Hi : (((rd_T55 Ai Aa).f0) != 4) = true := bne_iff_ne.mpr Gq
             have H' := Aside0.mk H
             clear H
             obtain ⟨Db, C9, Ii⟩ := Kd.R_slice Ab.out
             subst Ii
             try go_wp2
             replace Ao := zd3 Ao
             replace Ar := zd3 Ar
             replace Ac := zd3 Ac
             replace Ad := zd3 Ad
             replace Ae := zd3 Ae
             replace Ab := zd3 Ab
             replace Ah := zd1 Ah
             replace Aj := zd1 Aj
             replace Ak := zd1 Ak
             replace Ag := zd1 Ag
             replace HB := zd2 HB
             have Ep : 0 ≤ (Aa : Int) := of_decide_eq_true za
             have El : Aa < (Ai.length : Int) := of_decide_eq_true za
             obtain ⟨Al, Fj, C4, C3, C2, C1⟩ := at_T55 (Kd.R_reads' Ao.out).2.2 Aa Ep El
             cases Fj
             replace Ep := eq_true Ep
             replace El := eq_true El
             refine start_ (n := 12) (S := fun w' => w'.cell? ⟨Ay, 0, none⟩ = some (.slice Db Af.length C9) ∧ w'.cell? (Al.add ((Aa).toNat * 4)) = some (.int .i64 ((rd_T55 Ai Aa).f0)) ∧ w'.cell? ⟨(Al.add ((Aa).toNat * 4)).block, (Al.add ((Aa).toNat * 4)).off + 1, none⟩ = some (.string ((rd_T55 Ai Aa).f1)) ∧ w'.cell? ⟨(Al.add ((Aa).toNat * 4)).block, (Al.add ((Aa).toNat * 4)).off + 2, none⟩ = some (.string ((rd_T55 Ai Aa).f2)) ∧ w'.cell? ⟨(Al.add ((Aa).toNat * 4)).block, (Al.add ((Aa).toNat * 4)).off + 3, none⟩ = some (.string ((rd_T55 Ai Aa).f3))) (ds := []) q21_0 (by kernel_rfl) rfl rfl ⟨zv Ag, C4, C3, C2, C1⟩ (fun hHeld => ?_); refine with_tabW laws_FnActs.tab12 laws_FnActs.bits12 (fun HT_ HW_ => ?_)
             generalize wr.drew = w67 at Ao Ar Ac Ad Ae Ab Ah Aj Ak Ag HB C4 C3 C2 C1 hHeld ⊢
             refine zP 1 (some 61) q21_1 HT_ ?_
             refine zP 2 (some 62) q21_2 HT_ ?_
             refine zP 3 (some 63) q21_3 HT_ ?_
             refine zT 0 (some 60) q21_4 HT_ HW_ hHeld ?_
             refine zT 4 (some 64) q21_5 HT_ HW_ hHeld ?_
             refine join_ (σ := Value × Nat) 2 q21_6 (fun s_ => [(65, .tuple #[.agg #[s_.1], .bool true]), (13, .pointer (some ⟨s_.2, 0, none⟩)), (59, .tuple #[.agg #[s_.1], .bool true]), (66, .agg #[s_.1]), (67, .bool true)]) (fun s_ w' => (w'.cell? ⟨Ay, 0, none⟩ = some (.slice Db Af.length C9) ∧ w'.cell? (Al.add ((Aa).toNat * 4)) = some (.int .i64 ((rd_T55 Ai Aa).f0)) ∧ w'.cell? ⟨(Al.add ((Aa).toNat * 4)).block, (Al.add ((Aa).toNat * 4)).off + 1, none⟩ = some (.string ((rd_T55 Ai Aa).f1)) ∧ w'.cell? ⟨(Al.add ((Aa).toNat * 4)).block, (Al.add ((Aa).toNat * 4)).off + 2, none⟩ = some (.string ((rd_T55 Ai Aa).f2)) ∧ w'.cell? ⟨(Al.add ((Aa).toNat * 4)).block, (Al.add ((Aa).toNat * 4)).off + 3, none⟩ = some (.string ((rd_T55 Ai Aa).f3))) ∧ (Kd.R k45 45 w' w.heap.size (fun k_ => some k_ ≠ (.slice Bg Aq.length Bb : Value).ownBlock ∧ some k_ ≠ (.slice Bf As.length Be : Value).ownBlock ∧ some k_ ≠ (.slice Bd Ax.length Ba : Value).ownBlock ∧ some k_ ≠ (.slice Db Af.length C9 : Value).ownBlock) s_.1 Aw) ∧ (Kd.R k55 55 w' w.heap.size (fun _ => True) (.slice (some Al) Ai.length Da) Ai) ∧ (Kd.R k45 45 w' w.heap.size (fun k_ => some k_ ≠ (s_.1 : Value).ownBlock ∧ some k_ ≠ (.slice Bf As.length Be : Value).ownBlock ∧ some k_ ≠ (.slice Bd Ax.length Ba : Value).ownBlock) (.slice Bg Aq.length Bb) Aq) ∧ (Kd.R k45 45 w' w.heap.size (fun k_ => some k_ ≠ (s_.1 : Value).ownBlock ∧ some k_ ≠ (.slice Bg Aq.length Bb : Value).ownBlock ∧ some k_ ≠ (.slice Bd Ax.length Ba : Value).ownBlock ∧ some k_ ≠ (.slice Db Af.length C9 : Value).ownBlock) (.slice Bf As.length Be) As) ∧ (Kd.R k45 45 w' w.heap.size (fun k_ => some k_ ≠ (s_.1 : Value).ownBlock ∧ some k_ ≠ (.slice Bg Aq.length Bb : Value).ownBlock ∧ some k_ ≠ (.slice Bf As.length Be : Value).ownBlock ∧ some k_ ≠ (.slice Db Af.length C9 : Value).ownBlock) (.slice Bd Ax.length Ba) Ax) ∧ (Kd.R k45 45 w' w.heap.size (fun k_ => some k_ ≠ (s_.1 : Value).ownBlock ∧ some k_ ≠ (.slice Bf As.length Be : Value).ownBlock ∧ some k_ ≠ (.slice Bd Ax.length Ba : Value).ownBlock) (.slice Db Af.length C9) Af) ∧ (Kd.R (Kd.int .i64) 3 w' w.heap.size (fun _ => True) Eg Bw) ∧ (w'.heap[Bu]? = some (.cells #[.slice Bg Aq.length Bb] 29 (0, 0))) ∧ (w'.heap[Br]? = some (.cells #[.slice Bf As.length Be] 29 (0, 0))) ∧ (w'.heap[Bp]? = some (.cells #[.slice Bd Ax.length Ba] 29 (0, 0))) ∧ (w'.heap[Ay]? = some (.cells #[.slice Db Af.length C9] 29 (0, 0))) ∧ (w'.heap[s_.2]? = some (.cells #[.slice none 0 0] 29 (0, 0))) ∧ (w.heap.size ≤ s_.2) ∧ (w.heap.size ≤ s_.2) ∧ (Bu ≠ s_.2) ∧ (s_.2 ≠ Bu) ∧ (Br ≠ s_.2) ∧ (s_.2 ≠ Br) ∧ (Bp ≠ s_.2) ∧ (s_.2 ≠ Bp) ∧ (Ay ≠ s_.2) ∧ (s_.2 ≠ Ay) ∧ (Below w.heap.size w w')) ?_ ?_
             rotate_left
             ·intro hCont
              refine two_ (i := 5) (j := 9) (Ni := some 65) (Nj := some 13) q21_7 q21_8 rfl rfl rfl rfl (two_of HT_.out (by kernel_rfl)) (by decide) (by decide) (fun K hK => ?_) (fun K hK => ?_)
              ·skip
               refine zH Try.func37 #[.agg #[.slice Db Af.length C9], .agg #[.int .i64 ((rd_T55 Ai Aa).f0), .string ((rd_T55 Ai Aa).f1), .string ((rd_T55 Ai Aa).f2), .string ((rd_T55 Ai Aa).f3)]] ?_
               with_reducible refine (impl_DoAct.calls k2 _ _ Af ((rd_T55 Ai Aa).f0) ((rd_T55 Ai Aa).f1) ((rd_T55 Ai Aa).f2) ((rd_T55 Ai Aa).f3) Aw true _ ?side1 ?side2 G2.out).mono ?_
               (case side1 => exact zI (Kd.R_reads' Ab.out).2.2)
               (case side2 => exact (Kd.R_reads' Ab.out).2.1)
               rintro e I4 ⟨Cg, rfl, Bt, hb⟩
               have HS1_ := zhs hb hHeld.2.1
               have HS2_ := zhs hb hHeld.2.2.1
               have HS3_ := zhs hb hHeld.2.2.2.1
               have HS4_ := zhs hb hHeld.2.2.2.2
               refine ⟨_, rfl, ?_⟩
               replace Ao := zy Ao hb
               replace Ar := zy Ar hb
               have Au := Aside0.mk (Kd.R_lower (Kd.R_new' (Kd.R_new' (Kd.R_new' (Kd.R_new' Bt (Kd.R_lt (zo Ac.out))) (Kd.R_lt (zo Ad.out))) (Kd.R_lt (zo Ae.out))) (Kd.R_lt (zo Ab.out))) (below_size (zw HB)))
               replace Ac := Aside0.mk (Kd.R_elder' (zo Ac.out) (Kd.R_base Bt) hb)
               replace Ad := Aside0.mk (Kd.R_elder' (zo Ad.out) (Kd.R_base Bt) hb)
               replace Ae := Aside0.mk (Kd.R_elder' (zo Ae.out) (Kd.R_base Bt) hb)
               replace Ab := Aside0.mk (Kd.R_elder' (zo Ab.out) (Kd.R_base Bt) hb)
               replace Ah := zb Ah hb
               replace Aj := zb Aj hb
               replace Ak := zb Ak hb
               replace Ag := zb Ag hb
               replace HB := zs HB hb
               (try clear hb)
               (try clear hb2)
               (try clear hk)
               (try clear hi)
               (try clear Bt)
               refine hK.out _ _ ⟨zv Ag, HS1_, HS2_, HS3_, HS4_⟩ (fun hHeld => ?_)
               clear hK K
               refine zN ?_
               refine zP 6 (some 59) q21_9 HT_ ?_
               refine zP 7 (some 66) q21_10 HT_ ?_
               refine zP 8 (some 67) q21_11 HT_ ?_
               refine one_ (i := 9) (N := some 13) q21_6 rfl rfl (one_of HT_.out (by kernel_rfl)) (by decide) (fun K hK => ?_)
               refine box_step ?hg (N := 13) ?hd (cs := #[.slice none 0 0]) (t := 29) ?hr ?_; (case hd => rfl); (case hg => rfl); (case hr => first | (go_simp; done) | (go_simp; rfl))
               intro Ap hg I3 hbox hb
               have HS1_ := zhs hb hHeld.2.1
               have HS2_ := zhs hb hHeld.2.2.1
               have HS3_ := zhs hb hHeld.2.2.2.1
               have HS4_ := zhs hb hHeld.2.2.2.2
               replace Ao := zy Ao hb
               replace Ar := zy Ar hb
               replace Ac := zy Ac hb
               replace Ad := zy Ad hb
               replace Ae := zy Ae hb
               replace Ab := zy Ab hb
               replace Au := zy Au hb
               have Am := Aside0.mk (hbox)
               have C7 := zg HB hg
               have C8 := zg HB hg
               replace HB := zs HB hb
               have Bn := zl Ah hg
               have Bk := zr Ah hg
               replace Ah := zb Ah hb
               have Bm := zl Aj hg
               have Bj := zr Aj hg
               replace Aj := zb Aj hb
               have Bl := zl Ak hg
               have Bi := zr Ak hg
               replace Ak := zb Ak hb
               have Az := zl Ag hg
               have Bh := zr Ag hg
               replace Ag := zb Ag hb
               clear hb hbox hg
               refine hK.out _ _ ⟨zv Ag, HS1_, HS2_, HS3_, HS4_⟩ (fun hHeld => ?_)
               clear hK K
               refine zN ?_
               exact norm_ (by simp only [putAll, Act.put, zA, zB, zC]) (hCont (Cg, Ap) _ ⟨hHeld, (zo (Kd.R_mono Au.out (fun _ hk => ⟨hk.1.1.1.2, ⟨hk.1.1.2, ⟨hk.1.2, hk.2⟩⟩⟩))), (zo Ao.out), (zo (Kd.R_mono Ac.out (fun _ hk => ⟨hk.2, ⟨hk.1.1, hk.1.2⟩⟩))), (zo (Kd.R_mono Ad.out (fun _ hk => ⟨hk.2, ⟨hk.1.1, ⟨hk.1.2.1, hk.1.2.2⟩⟩⟩))), (zo (Kd.R_mono Ae.out (fun _ hk => ⟨hk.2, ⟨hk.1.1, ⟨hk.1.2.1, hk.1.2.2⟩⟩⟩))), (zo (Kd.R_mono Ab.out (fun _ hk => ⟨hk.2, ⟨hk.1.1, hk.1.2⟩⟩))), (zo Ar.out), (zk Ah), (zk Aj), (zk Ak), (zk Ag), (zk Am), C7.out, C8.out, Bn.out, Bk.out, Bm.out, Bj.out, Bl.out, Bi.out, Az.out, Bh.out, (zw HB)⟩)
              refine box_step ?hg (N := 13) ?hd (cs := #[.slice none 0 0]) (t := 29) ?hr ?_; (case hd => rfl); (case hg => rfl); (case hr => first | (go_simp; done) | (go_simp; rfl))
              intro Ap hg I4 hbox hb
              have HS1_ := zhs hb hHeld.2.1
              have HS2_ := zhs hb hHeld.2.2.1
              have HS3_ := zhs hb hHeld.2.2.2.1
              have HS4_ := zhs hb hHeld.2.2.2.2
              replace Ao := zy Ao hb
              replace Ar := zy Ar hb
              replace Ac := zy Ac hb
              replace Ad := zy Ad hb
              replace Ae := zy Ae hb
              replace Ab := zy Ab hb
              have Am := Aside0.mk (hbox)
              have C7 := zg HB hg
              have C8 := zg HB hg
              replace HB := zs HB hb
              have Bn := zl Ah hg
              have Bk := zr Ah hg
              replace Ah := zb Ah hb
              have Bm := zl Aj hg
              have Bj := zr Aj hg
              replace Aj := zb Aj hb
              have Bl := zl Ak hg
              have Bi := zr Ak hg
              replace Ak := zb Ak hb
              have Az := zl Ag hg
              have Bh := zr Ag hg
              replace Ag := zb Ag hb
              clear hb hbox hg
              refine hK.out _ _ ⟨zv Ag, HS1_, HS2_, HS3_, HS4_⟩ (fun hHeld => ?_)
              clear hK K
              refine zN ?_
              refine one_ (i := 5) (N := some 65) q21_12 rfl rfl (one_of HT_.out (by kernel_rfl)) (by decide) (fun K hK => ?_)
              refine zH Try.func37 #[.agg #[.slice Db Af.length C9], .agg #[.int .i64 ((rd_T55 Ai Aa).f0), .string ((rd_T55 Ai Aa).f1), .string ((rd_T55 Ai Aa).f2), .string ((rd_T55 Ai Aa).f3)]] ?_
              with_reducible refine (impl_DoAct.calls k2 _ _ Af ((rd_T55 Ai Aa).f0) ((rd_T55 Ai Aa).f1) ((rd_T55 Ai Aa).f2) ((rd_T55 Ai Aa).f3) Aw true _ ?side1 ?side2 G2.out).mono ?_
              (case side1 => exact zI (Kd.R_reads' Ab.out).2.2)
              (case side2 => exact (Kd.R_reads' Ab.out).2.1)
              rintro e I3 ⟨Cg, rfl, Bt, hb⟩
              have HS1_ := zhs hb hHeld.2.1
              have HS2_ := zhs hb hHeld.2.2.1
              have HS3_ := zhs hb hHeld.2.2.2.1
              have HS4_ := zhs hb hHeld.2.2.2.2
              refine ⟨_, rfl, ?_⟩
              replace Ao := zy Ao hb
              replace Ar := zy Ar hb
              have Au := Aside0.mk (Kd.R_lower (Kd.R_new' (Kd.R_new' (Kd.R_new' (Kd.R_new' Bt (Kd.R_lt (zo Ac.out))) (Kd.R_lt (zo Ad.out))) (Kd.R_lt (zo Ae.out))) (Kd.R_lt (zo Ab.out))) (below_size (zw HB)))
              replace Ac := Aside0.mk (Kd.R_elder' (zo Ac.out) (Kd.R_base Bt) hb)
              replace Ad := Aside0.mk (Kd.R_elder' (zo Ad.out) (Kd.R_base Bt) hb)
              replace Ae := Aside0.mk (Kd.R_elder' (zo Ae.out) (Kd.R_base Bt) hb)
              replace Ab := Aside0.mk (Kd.R_elder' (zo Ab.out) (Kd.R_base Bt) hb)
              replace Ah := zb Ah hb
              replace Aj := zb Aj hb
              replace Ak := zb Ak hb
              replace Ag := zb Ag hb
              replace Am := zb Am hb
              replace HB := zs HB hb
              (try clear hb)
              (try clear hb2)
              (try clear hk)
              (try clear hi)
              (try clear Bt)
              refine hK.out _ _ ⟨zv Ag, HS1_, HS2_, HS3_, HS4_⟩ (fun hHeld => ?_)
              clear hK K
              refine zN ?_
              refine zP 6 (some 59) q21_13 HT_ ?_
              refine zP 7 (some 66) q21_14 HT_ ?_
              refine zP 8 (some 67) q21_6 HT_ ?_
              exact norm_ (by simp only [putAll, Act.put, zA, zB, zC]) (hCont (Cg, Ap) _ ⟨hHeld, (zo (Kd.R_mono Au.out (fun _ hk => ⟨hk.1.1.1.2, ⟨hk.1.1.2, ⟨hk.1.2, hk.2⟩⟩⟩))), (zo Ao.out), (zo (Kd.R_mono Ac.out (fun _ hk => ⟨hk.2, ⟨hk.1.1, hk.1.2⟩⟩))), (zo (Kd.R_mono Ad.out (fun _ hk => ⟨hk.2, ⟨hk.1.1, ⟨hk.1.2.1, hk.1.2.2⟩⟩⟩))), (zo (Kd.R_mono Ae.out (fun _ hk => ⟨hk.2, ⟨hk.1.1, ⟨hk.1.2.1, hk.1.2.2⟩⟩⟩))), (zo (Kd.R_mono Ab.out (fun _ hk => ⟨hk.2, ⟨hk.1.1, hk.1.2⟩⟩))), (zo Ar.out), (zk Ah), (zk Aj), (zk Ak), (zk Ag), (zk Am), C7.out, C8.out, Bn.out, Bk.out, Bm.out, Bj.out, Bl.out, Bi.out, Az.out, Bh.out, (zw HB)⟩)
             rintro ⟨Cg, Ap⟩ Eu ⟨hS_, h0_, h1_, h2_, h3_, h4_, h5_, h6_, h7_, h8_, h9_, h10_, h11_, h12_, h13_, h14_, h15_, h16_, h17_, h18_, h19_, h20_, h21_, h22_⟩
             have n0_ : Aside0 (Kd.R k45 45 Eu w.heap.size (fun k_ => some k_ ≠ (.slice Bg Aq.length Bb : Value).ownBlock ∧ some k_ ≠ (.slice Bf As.length Be : Value).ownBlock ∧ some k_ ≠ (.slice Bd Ax.length Ba : Value).ownBlock ∧ some k_ ≠ (.slice Db Af.length C9 : Value).ownBlock) Cg Aw) := ⟨h0_⟩
             have n1_ : Aside0 (Kd.R k55 55 Eu w.heap.size (fun _ => True) (.slice (some Al) Ai.length Da) Ai) := ⟨h1_⟩
             have n2_ : Aside0 (Kd.R k45 45 Eu w.heap.size (fun k_ => some k_ ≠ (Cg : Value).ownBlock ∧ some k_ ≠ (.slice Bf As.length Be : Value).ownBlock ∧ some k_ ≠ (.slice Bd Ax.length Ba : Value).ownBlock) (.slice Bg Aq.length Bb) Aq) := ⟨h2_⟩
             have n3_ : Aside0 (Kd.R k45 45 Eu w.heap.size (fun k_ => some k_ ≠ (Cg : Value).ownBlock ∧ some k_ ≠ (.slice Bg Aq.length Bb : Value).ownBlock ∧ some k_ ≠ (.slice Bd Ax.length Ba : Value).ownBlock ∧ some k_ ≠ (.slice Db Af.length C9 : Value).ownBlock) (.slice Bf As.length Be) As) := ⟨h3_⟩
             have n4_ : Aside0 (Kd.R k45 45 Eu w.heap.size (fun k_ => some k_ ≠ (Cg : Value).ownBlock ∧ some k_ ≠ (.slice Bg Aq.length Bb : Value).ownBlock ∧ some k_ ≠ (.slice Bf As.length Be : Value).ownBlock ∧ some k_ ≠ (.slice Db Af.length C9 : Value).ownBlock) (.slice Bd Ax.length Ba) Ax) := ⟨h4_⟩
             have n5_ : Aside0 (Kd.R k45 45 Eu w.heap.size (fun k_ => some k_ ≠ (Cg : Value).ownBlock ∧ some k_ ≠ (.slice Bf As.length Be : Value).ownBlock ∧ some k_ ≠ (.slice Bd Ax.length Ba : Value).ownBlock) (.slice Db Af.length C9) Af) := ⟨h5_⟩
             have n6_ : Aside0 (Kd.R (Kd.int .i64) 3 Eu w.heap.size (fun _ => True) Eg Bw) := ⟨h6_⟩
             have n7_ : Aside0 (Eu.heap[Bu]? = some (.cells #[.slice Bg Aq.length Bb] 29 (0, 0))) := ⟨h7_⟩
             have n8_ : Aside0 (Eu.heap[Br]? = some (.cells #[.slice Bf As.length Be] 29 (0, 0))) := ⟨h8_⟩
             have n9_ : Aside0 (Eu.heap[Bp]? = some (.cells #[.slice Bd Ax.length Ba] 29 (0, 0))) := ⟨h9_⟩
             have n10_ : Aside0 (Eu.heap[Ay]? = some (.cells #[.slice Db Af.length C9] 29 (0, 0))) := ⟨h10_⟩
             have n11_ : Aside0 (Eu.heap[Ap]? = some (.cells #[.slice none 0 0] 29 (0, 0))) := ⟨h11_⟩
             have n12_ : Aside0 (w.heap.size ≤ Ap) := ⟨h12_⟩
             have n13_ : Aside0 (w.heap.size ≤ Ap) := ⟨h13_⟩
             have n14_ : Aside0 (Bu ≠ Ap) := ⟨h14_⟩
             have n15_ : Aside0 (Ap ≠ Bu) := ⟨h15_⟩
             have n16_ : Aside0 (Br ≠ Ap) := ⟨h16_⟩
             have n17_ : Aside0 (Ap ≠ Br) := ⟨h17_⟩
             have n18_ : Aside0 (Bp ≠ Ap) := ⟨h18_⟩
             have n19_ : Aside0 (Ap ≠ Bp) := ⟨h19_⟩
             have n20_ : Aside0 (Ay ≠ Ap) := ⟨h20_⟩
             have n21_ : Aside0 (Ap ≠ Ay) := ⟨h21_⟩
             have n22_ : Aside0 (Below w.heap.size w Eu) := ⟨h22_⟩
             clear Ao
             clear Ar
             clear Ac
             clear Ad
             clear Ae
             clear Ab
             clear Ah
             clear Aj
             clear Ak
             clear Ag
             clear HB
             clear h0_ h1_ h2_ h3_ h4_ h5_ h6_ h7_ h8_ h9_ h10_ h11_ h12_ h13_ h14_ h15_ h16_ h17_ h18_ h19_ h20_ h21_ h22_
             have Au := n0_
             have Ao := n1_
             have Ac := n2_
             have Ad := n3_
             have Ae := n4_
             have Ab := n5_
             have Ar := n6_
             have Ah := n7_
             have Aj := n8_
             have Ak := n9_
             have Ag := n10_
             have Am := n11_
             have C7 := n12_
             have C8 := n13_
             have Bn := n14_
             have Bk := n15_
             have Bm := n16_
             have Bj := n17_
             have Bl := n18_
             have Bi := n19_
             have Az := n20_
             have Bh := n21_
             have HB := n22_
             clear n0_ n1_ n2_ n3_ n4_ n5_ n6_ n7_ n8_ n9_ n10_ n11_ n12_ n13_ n14_ n15_ n16_ n17_ n18_ n19_ n20_ n21_ n22_
             have hHeld : Eu.cell? ⟨Ay, 0, none⟩ = some (.slice Db Af.length C9) ∧ Eu.cell? (Al.add ((Aa).toNat * 4)) = some (.int .i64 ((rd_T55 Ai Aa).f0)) ∧ Eu.cell? ⟨(Al.add ((Aa).toNat * 4)).block, (Al.add ((Aa).toNat * 4)).off + 1, none⟩ = some (.string ((rd_T55 Ai Aa).f1)) ∧ Eu.cell? ⟨(Al.add ((Aa).toNat * 4)).block, (Al.add ((Aa).toNat * 4)).off + 2, none⟩ = some (.string ((rd_T55 Ai Aa).f2)) ∧ Eu.cell? ⟨(Al.add ((Aa).toNat * 4)).block, (Al.add ((Aa).toNat * 4)).off + 3, none⟩ = some (.string ((rd_T55 Ai Aa).f3)) := hS_
             obtain ⟨Cs, Cr, G8⟩ := Kd.R_slice Au.out
             (first | subst G8 | (injection G8 with f1_ f2_ f3_; have f4_ := f1_.symm; have f5_ := f3_.symm; clear f1_ f2_ f3_; subst f4_; subst f5_))
             refine norm_ (a' := ?_) ?_ ?_
             rotate_left
             ·simp only [putAll, Act.put, zA, zB, zC]
              rfl
             refine one_ (i := 10) (N := none) q21_15 rfl rfl (one_of HT_.out (by kernel_rfl)) (by decide) (fun K hK => ?_)
             have hs72 : Eu.cell? ⟨Ap, 0, none⟩ = some (.slice none 0 0) := zv Am
             have hfs72 := blk_frozen Am.out 0
             have hns72_0 := Bn.out
             have hns72_1 := Bm.out
             have hns72_2 := Bl.out
             have hns72_3 := Az.out
             have hms72_0 := Bk.out
             have hms72_1 := Bj.out
             have hms72_2 := Bi.out
             have hms72_3 := Bh.out
             refine skip_ (w1 := ?_) (by rfl) rfl ?_ ?_
             rotate_left
             ·go_simp
              rfl
             refine hK.out _ _ ⟨((cell_far (p := ⟨Ap, _, none⟩) Az.out _).trans (hHeld.1)), ((cell_far (p := ⟨Ap, _, none⟩) (zob Ao Am) _).trans (hHeld.2.1)), ((cell_far (p := ⟨Ap, _, none⟩) (zob Ao Am) _).trans (hHeld.2.2.1)), ((cell_far (p := ⟨Ap, _, none⟩) (zob Ao Am) _).trans (hHeld.2.2.2.1)), ((cell_far (p := ⟨Ap, _, none⟩) (zob Ao Am) _).trans (hHeld.2.2.2.2))⟩ (fun hHeld => ?_)
             clear hK K
             refine zP 11 (some 14) q21_16 HT_ ?_
             refine done_ (done_of HT_.out (by kernel_rfl)) ?_
             try go_wp2
             obtain ⟨Fo, hq_⟩ : ∃ v_, Eu.setCell ⟨Ap, 0, none⟩ (.slice Cs Aw.length Cr) = v_ := ⟨_, rfl⟩
             replace Ao : Aside0 (Kd.R k55 55 Fo w.heap.size (fun _ => True) (.slice (some Al) Ai.length Da) Ai) := ⟨hq_ ▸ (zo (Kd.R_mono (Kd.R_far (p := ⟨Ap, 0, none⟩) (Kd.R_types Ao.out Am.out (by decide)) (fun _ hk => hk.2) (.slice Cs Aw.length Cr)) (fun _ hk => trivial)))⟩
             replace Ar : Aside0 (Kd.R (Kd.int .i64) 3 Fo w.heap.size (fun _ => True) Eg Bw) := ⟨hq_ ▸ (zo (Kd.R_mono (Kd.R_far (p := ⟨Ap, 0, none⟩) (Kd.R_types Ar.out Am.out (by decide)) (fun _ hk => hk.2) (.slice Cs Aw.length Cr)) (fun _ hk => trivial)))⟩
             replace Ac : Aside0 (Kd.R k45 45 Fo w.heap.size (fun k_ => some k_ ≠ (.slice Bf As.length Be : Value).ownBlock ∧ some k_ ≠ (.slice Bd Ax.length Ba : Value).ownBlock ∧ some k_ ≠ (.slice Cs Aw.length Cr : Value).ownBlock) (.slice Bg Aq.length Bb) Aq) := ⟨hq_ ▸ (zo (Kd.R_mono (Kd.R_far (p := ⟨Ap, 0, none⟩) (Kd.R_types Ac.out Am.out (by decide)) (fun _ hk => hk.2) (.slice Cs Aw.length Cr)) (fun _ hk => ⟨hk.1.2.1, ⟨hk.1.2.2, hk.1.1⟩⟩)))⟩
             replace Ad : Aside0 (Kd.R k45 45 Fo w.heap.size (fun k_ => some k_ ≠ (.slice Bg Aq.length Bb : Value).ownBlock ∧ some k_ ≠ (.slice Bd Ax.length Ba : Value).ownBlock ∧ some k_ ≠ (.slice Db Af.length C9 : Value).ownBlock ∧ some k_ ≠ (.slice Cs Aw.length Cr : Value).ownBlock) (.slice Bf As.length Be) As) := ⟨hq_ ▸ (zo (Kd.R_mono (Kd.R_far (p := ⟨Ap, 0, none⟩) (Kd.R_types Ad.out Am.out (by decide)) (fun _ hk => hk.2) (.slice Cs Aw.length Cr)) (fun _ hk => ⟨hk.1.2.1, ⟨hk.1.2.2.1, ⟨hk.1.2.2.2, hk.1.1⟩⟩⟩)))⟩
             replace Ae : Aside0 (Kd.R k45 45 Fo w.heap.size (fun k_ => some k_ ≠ (.slice Bg Aq.length Bb : Value).ownBlock ∧ some k_ ≠ (.slice Bf As.length Be : Value).ownBlock ∧ some k_ ≠ (.slice Db Af.length C9 : Value).ownBlock ∧ some k_ ≠ (.slice Cs Aw.length Cr : Value).ownBlock) (.slice Bd Ax.length Ba) Ax) := ⟨hq_ ▸ (zo (Kd.R_mono (Kd.R_far (p := ⟨Ap, 0, none⟩) (Kd.R_types Ae.out Am.out (by decide)) (fun _ hk => hk.2) (.slice Cs Aw.length Cr)) (fun _ hk => ⟨hk.1.2.1, ⟨hk.1.2.2.1, ⟨hk.1.2.2.2, hk.1.1⟩⟩⟩)))⟩
             replace Ab : Aside0 (Kd.R k45 45 Fo w.heap.size (fun k_ => some k_ ≠ (.slice Bf As.length Be : Value).ownBlock ∧ some k_ ≠ (.slice Bd Ax.length Ba : Value).ownBlock ∧ some k_ ≠ (.slice Cs Aw.length Cr : Value).ownBlock) (.slice Db Af.length C9) Af) := ⟨hq_ ▸ (zo (Kd.R_mono (Kd.R_far (p := ⟨Ap, 0, none⟩) (Kd.R_types Ab.out Am.out (by decide)) (fun _ hk => hk.2) (.slice Cs Aw.length Cr)) (fun _ hk => ⟨hk.1.2.1, ⟨hk.1.2.2, hk.1.1⟩⟩)))⟩
             replace Au : Aside0 (Kd.R k45 45 Fo w.heap.size (fun k_ => some k_ ≠ (.slice Bg Aq.length Bb : Value).ownBlock ∧ some k_ ≠ (.slice Bf As.length Be : Value).ownBlock ∧ some k_ ≠ (.slice Bd Ax.length Ba : Value).ownBlock ∧ some k_ ≠ (.slice Db Af.length C9 : Value).ownBlock) (.slice Cs Aw.length Cr) Aw) := ⟨hq_ ▸ (zo (Kd.R_mono (Kd.R_far (p := ⟨Ap, 0, none⟩) (Kd.R_types Au.out Am.out (by decide)) (fun _ hk => hk.2) (.slice Cs Aw.length Cr)) (fun _ hk => ⟨hk.1.1, ⟨hk.1.2.1, ⟨hk.1.2.2.1, hk.1.2.2.2⟩⟩⟩)))⟩
             replace Ah := zjq hq_ Ah
             replace Aj := zjq hq_ Aj
             replace Ak := zjq hq_ Ak
             replace Ag := zjq hq_ Ag
             replace Am : Aside0 (Fo.heap[Ap]? = some (.cells #[.slice Cs Aw.length Cr] 29 (0, 0))) := ⟨hq_ ▸ (zj Am)⟩
             replace HB := zwq hq_ HB
             (try rw [hq_])
             clear hq_
             replace Ao := zd3 Ao
             replace Ar := zd3 Ar
             replace Ac := zd3 Ac
             replace Ad := zd3 Ad
             replace Ae := zd3 Ae
             replace Ab := zd3 Ab
             replace Au := zd3 Au
             replace Ah := zd1 Ah
             replace Aj := zd1 Aj
             replace Ak := zd1 Ak
             replace Ag := zd1 Ag
             replace Am := zd1 Am
             replace HB := zd2 HB
             have Eo : 0 ≤ (Aa : Int) := of_decide_eq_true za
             have Ek : Aa < (Ai.length : Int) := of_decide_eq_true za
             obtain ⟨E1, Fi, C0, Cz, Cy, Cx⟩ := at_T55 (Kd.R_reads' Ao.out).2.2 Aa Eo Ek
             obtain rfl : Al = E1 := (by injection Fi)
             replace Eo := eq_true Eo
             replace Ek := eq_true Ek
             refine start_ (n := 12) (S := fun w' => w'.cell? ⟨Ay, 0, none⟩ = some (.slice Db Af.length C9) ∧ w'.cell? (Al.add ((Aa).toNat * 4)) = some (.int .i64 ((rd_T55 Ai Aa).f0)) ∧ w'.cell? ⟨(Al.add ((Aa).toNat * 4)).block, (Al.add ((Aa).toNat * 4)).off + 1, none⟩ = some (.string ((rd_T55 Ai Aa).f1)) ∧ w'.cell? ⟨(Al.add ((Aa).toNat * 4)).block, (Al.add ((Aa).toNat * 4)).off + 2, none⟩ = some (.string ((rd_T55 Ai Aa).f2)) ∧ w'.cell? ⟨(Al.add ((Aa).toNat * 4)).block, (Al.add ((Aa).toNat * 4)).off + 3, none⟩ = some (.string ((rd_T55 Ai Aa).f3))) (ds := []) q21_0 (by kernel_rfl) rfl rfl ⟨zv Ag, C0, Cz, Cy, Cx⟩ (fun hHeld => ?_); refine with_tabW laws_FnActs.tab15 laws_FnActs.bits15 (fun HT_ HW_ => ?_)
             generalize Fo.drew = w74 at Ao Ar Ac Ad Ae Ab Au Ah Aj Ak Ag Am HB C0 Cz Cy Cx hHeld ⊢
             refine zP 1 (some 72) q21_1 HT_ ?_
             refine zP 2 (some 73) q21_2 HT_ ?_
             refine zP 3 (some 74) q21_3 HT_ ?_
             refine zP 4 (some 75) q21_17 HT_ ?_
             refine zT 0 (some 71) q21_5 HT_ HW_ hHeld ?_
             refine zT 5 (some 76) q21_7 HT_ HW_ hHeld ?_
             refine one_ (i := 6) (N := some 77) q21_9 rfl rfl (one_of HT_.out (by kernel_rfl)) (by decide) (fun K hK => ?_)
             refine zH Try.func18 #[.agg #[.slice Db Af.length C9], .string ((rd_T55 Ai Aa).f1)] ?_
             with_reducible refine (impl_FileAt.calls _ _ Af ((rd_T55 Ai Aa).f1) Ds Gi _ ?side1 ?side2 Is.out).mono ?_
             (case side1 => exact zI (Kd.R_reads' Ab.out).2.2)
             (case side2 => exact (Kd.R_reads' Ab.out).2.1)
             rintro e I2 ⟨rfl, hb⟩
             have HS1_ := zhs hb hHeld.2.1
             have HS2_ := zhs hb hHeld.2.2.1
             have HS3_ := zhs hb hHeld.2.2.2.1
             have HS4_ := zhs hb hHeld.2.2.2.2
             refine ⟨_, rfl, ?_⟩
             replace Ao := zy Ao hb
             replace Ar := zy Ar hb
             replace Ac := zy Ac hb
             replace Ad := zy Ad hb
             replace Ae := zy Ae hb
             replace Ab := zy Ab hb
             replace Au := zy Au hb
             replace Ah := zb Ah hb
             replace Aj := zb Aj hb
             replace Ak := zb Ak hb
             replace Ag := zb Ag hb
             replace Am := zb Am hb
             replace HB := zs HB hb
             (try clear hb)
             (try clear hb2)
             (try clear hk)
             (try clear hi)
             refine hK.out _ _ ⟨zv Ag, HS1_, HS2_, HS3_, HS4_⟩ (fun hHeld => ?_)
             clear hK K
             refine zN ?_
             refine zP 7 (some 70) q21_10 HT_ ?_
             refine zP 8 (some 78) q21_11 HT_ ?_
             refine zP 9 (some 79) q21_6 HT_ ?_
             refine zP 10 (some 15) q21_15 HT_ ?_
             refine zP 11 (some 16) q21_16 HT_ ?_
             refine done_ (done_of HT_.out (by kernel_rfl)) ?_
             try go_wp2
             replace Ao := zd3 Ao
             replace Ar := zd3 Ar
             replace Ac := zd3 Ac
             replace Ad := zd3 Ad
             replace Ae := zd3 Ae
             replace Ab := zd3 Ab
             replace Au := zd3 Au
             replace Ah := zd1 Ah
             replace Aj := zd1 Aj
             replace Ak := zd1 Ak
             replace Ag := zd1 Ag
             replace Am := zd1 Am
             replace HB := zd2 HB
             have En : 0 ≤ (Aa : Int) := of_decide_eq_true za
             have Ej : Aa < (Ai.length : Int) := of_decide_eq_true za
             obtain ⟨E0, Fh, Cw, Cv, Cu, Ct⟩ := at_T55 (Kd.R_reads' Ao.out).2.2 Aa En Ej
             obtain rfl : Al = E0 := (by injection Fh)
             replace En := eq_true En
             replace Ej := eq_true Ej
             refine start_ (n := 12) (S := fun w' => w'.cell? ⟨Ap, 0, none⟩ = some (.slice Cs Aw.length Cr) ∧ w'.cell? (Al.add ((Aa).toNat * 4)) = some (.int .i64 ((rd_T55 Ai Aa).f0)) ∧ w'.cell? ⟨(Al.add ((Aa).toNat * 4)).block, (Al.add ((Aa).toNat * 4)).off + 1, none⟩ = some (.string ((rd_T55 Ai Aa).f1)) ∧ w'.cell? ⟨(Al.add ((Aa).toNat * 4)).block, (Al.add ((Aa).toNat * 4)).off + 2, none⟩ = some (.string ((rd_T55 Ai Aa).f2)) ∧ w'.cell? ⟨(Al.add ((Aa).toNat * 4)).block, (Al.add ((Aa).toNat * 4)).off + 3, none⟩ = some (.string ((rd_T55 Ai Aa).f3))) (ds := []) q21_0 (by kernel_rfl) rfl rfl ⟨zv Am, Cw, Cv, Cu, Ct⟩ (fun hHeld => ?_); refine with_tabW laws_FnActs.tab16 laws_FnActs.bits16 (fun HT_ HW_ => ?_)
             generalize I2.drew = w76 at Ao Ar Ac Ad Ae Ab Au Ah Aj Ak Ag Am HB Cw Cv Cu Ct hHeld ⊢
             refine zP 1 (some 82) q21_1 HT_ ?_
             refine zP 2 (some 83) q21_2 HT_ ?_
             refine zP 3 (some 84) q21_3 HT_ ?_
             refine zP 4 (some 85) q21_17 HT_ ?_
             refine zT 0 (some 81) q21_5 HT_ HW_ hHeld ?_
             refine zT 5 (some 86) q21_7 HT_ HW_ hHeld ?_
             refine one_ (i := 6) (N := some 87) q21_9 rfl rfl (one_of HT_.out (by kernel_rfl)) (by decide) (fun K hK => ?_)
             refine zH Try.func18 #[.agg #[.slice Cs Aw.length Cr], .string ((rd_T55 Ai Aa).f1)] ?_
             with_reducible refine (impl_FileAt.calls _ _ Aw ((rd_T55 Ai Aa).f1) Ey true _ ?side1 ?side2 Ir.out).mono ?_
             (case side1 => exact zI (Kd.R_reads' Au.out).2.2)
             (case side2 => exact (Kd.R_reads' Au.out).2.1)
             rintro e w77 ⟨rfl, hb⟩
             have HS1_ := zhs hb hHeld.2.1
             have HS2_ := zhs hb hHeld.2.2.1
             have HS3_ := zhs hb hHeld.2.2.2.1
             have HS4_ := zhs hb hHeld.2.2.2.2
             refine ⟨_, rfl, ?_⟩
             replace Ao := zy Ao hb
             replace Ar := zy Ar hb
             replace Ac := zy Ac hb
             replace Ad := zy Ad hb
             replace Ae := zy Ae hb
             replace Ab := zy Ab hb
             replace Au := zy Au hb
             replace Ah := zb Ah hb
             replace Aj := zb Aj hb
             replace Ak := zb Ak hb
             replace Ag := zb Ag hb
             replace Am := zb Am hb
             replace HB := zs HB hb
             (try clear hb)
             (try clear hb2)
             (try clear hk)
             (try clear hi)
             refine hK.out _ _ ⟨zv Am, HS1_, HS2_, HS3_, HS4_⟩ (fun hHeld => ?_)
             clear hK K
             refine zN ?_
             refine zP 7 (some 80) q21_10 HT_ ?_
             refine zP 8 (some 88) q21_11 HT_ ?_
             refine zP 9 (some 89) q21_6 HT_ ?_
             refine zP 10 (some 17) q21_15 HT_ ?_
             refine zP 11 (some 18) q21_16 HT_ ?_
             refine done_ (done_of HT_.out (by kernel_rfl)) ?_
             have Em : 0 ≤ (Aa : Int) := of_decide_eq_true za
             have Ei : Aa < (Ai.length : Int) := of_decide_eq_true za
             obtain ⟨Ez, Fg, Fc, Fb, Fa, E9⟩ := at_T55 (Kd.R_reads' Ao.out).2.2 Aa Em Ei
             obtain rfl : Al = Ez := (by injection Fg)
             replace Em := eq_true Em
             replace Ei := eq_true Ei
             have Gn : 0 ≤ (Aa : Int) := of_decide_eq_true za
             have Gl : Aa < (Ai.length : Int) := of_decide_eq_true za
             obtain ⟨Hs, Io, hx578_0, hx578_1, hx578_2, hx578_3⟩ := at_T55 (Kd.R_reads' Ao.out).2.2 Aa Gn Gl
             obtain rfl : Al = Hs := (by injection Io)
             replace Gn := eq_true Gn
             replace Gl := eq_true Gl
             have Gm : 0 ≤ (Aa : Int) := of_decide_eq_true za
             have Gk : Aa < (Ai.length : Int) := of_decide_eq_true za
             obtain ⟨Hr, In, hx579_0, hx579_1, hx579_2, hx579_3⟩ := at_T55 (Kd.R_reads' Ao.out).2.2 Aa Gm Gk
             obtain rfl : Al = Hr := (by injection In)
             replace Gm := eq_true Gm
             replace Gk := eq_true Gk
             have hnb78 := Bk.out
             have hnc78 := Bn.out
             have hnb79 := Bj.out
             have hnc79 := Bm.out
             have hnb80 := Bi.out
             have hnc80 := Bl.out
             have hnb81 := Bh.out
             have hnc81 := Az.out
             obtain ⟨_, _⟩ := zc1 Am
             have hnb83 := Cp.out
             have hnc83 := Cq.out
             have hnb84 := Di.out
             have hnc84 := Dl.out
             have hnb85 := Dh.out
             have hnc85 := Dj.out
             obtain ⟨_, _⟩ := zc1 Ag
             try go_wp2
             go_roundg k2
             case measure => have := HJ6.out; have := G1.out; omega
             case rel => exact ⟨(wrap64 (Aa + 1)), (Aw), (.slice Cs Aw.length Cr), zf, H', ⟨by have := HJ6.out; have := G1.out; omega⟩, ⟨zo (Kd.R_mono (Kd.R_far (p := ⟨Ay, 0, none⟩) (Kd.R_types Ao.out Ag.out (by decide)) (fun _ hk => hk.2) (.slice Cs Aw.length Cr)) (fun _ hk => trivial))⟩, ⟨zo (Kd.R_mono (Kd.R_far (p := ⟨Ay, 0, none⟩) (Kd.R_types Ar.out Ag.out (by decide)) (fun _ hk => hk.2) (.slice Cs Aw.length Cr)) (fun _ hk => trivial))⟩, ⟨zo (Kd.R_mono (Kd.R_far (p := ⟨Ay, 0, none⟩) (Kd.R_types Ac.out Ag.out (by decide)) (fun _ hk => hk.2) (.slice Cs Aw.length Cr)) (fun _ hk => ⟨hk.1.1, hk.1.2.1⟩))⟩, ⟨zo (Kd.R_mono (Kd.R_far (p := ⟨Ay, 0, none⟩) (Kd.R_types Ad.out Ag.out (by decide)) (fun _ hk => hk.2) (.slice Cs Aw.length Cr)) (fun _ hk => ⟨hk.1.1, ⟨hk.1.2.1, hk.1.2.2.2⟩⟩))⟩, ⟨zo (Kd.R_mono (Kd.R_far (p := ⟨Ay, 0, none⟩) (Kd.R_types Ae.out Ag.out (by decide)) (fun _ hk => hk.2) (.slice Cs Aw.length Cr)) (fun _ hk => ⟨hk.1.1, ⟨hk.1.2.1, hk.1.2.2.2⟩⟩))⟩, ⟨zo (Kd.R_mono (Kd.R_far (p := ⟨Ay, 0, none⟩) (Kd.R_types Au.out Ag.out (by decide)) (fun _ hk => hk.2) (.slice Cs Aw.length Cr)) (fun _ hk => ⟨hk.1.2.1, hk.1.2.2.1⟩))⟩, ⟨zkf Ah⟩, ⟨zkf Aj⟩, ⟨zkf Ak⟩, ⟨zj Ag⟩, ⟨zw HB⟩⟩
            rw [if_neg Gr] at H
            have Hl : (Ey.toList == (Ds ++ ((rd_T55 Ai Aa).f2)).toList) = false := beq_eq_false_iff_ne.mpr Gr
            have Hk : (Ey.toList != (Ds ++ ((rd_T55 Ai Aa).f2)).toList) = true := bne_iff_ne.mpr Gr
            obtain rfl := Option.some.inj H
            exact absurd HR_.out (by decide)
           rw [if_neg Hm] at H
           exact absurd H (by simp)
          replace H5 := Bool.eq_false_iff.mpr H5
          subst H5
          rw [if_neg (show ¬ (false = true) by decide)] at H
          obtain rfl := Option.some.inj H
          exact absurd HR_.out (by decide)
         rw [if_neg Gs] at H
         have Ho : (((rd_T55 Ai Aa).f0) == 1) = false := beq_eq_false_iff_ne.mpr Gs
         have Hn : (((rd_T55 Ai Aa).f0) != 1) = true := bne_iff_ne.mpr Gs
         by_cases E7 : ((rd_T55 Ai Aa).f0) = 4
         ·rw [if_pos E7] at H
          have Gz : (((rd_T55 Ai Aa).f0) == 4) = true := beq_iff_eq.mpr E7
          have Gy : (((rd_T55 Ai Aa).f0) != 4) = false := bne_eq_false_iff_eq.mpr E7
          clear E7
          by_cases Fv : Ff = true
          ·subst Fv
           rw [if_pos rfl] at H
           obtain rfl := Option.some.inj H
           exact absurd HR_.out (by decide)
          replace Fv := Bool.eq_false_iff.mpr Fv
          subst Fv
          rw [if_neg (show ¬ (false = true) by decide)] at H
          have H' := Aside0.mk H
          clear H
          obtain ⟨Cd, Ca, Hh⟩ := Kd.R_slice Ab.out
          subst Hh
          try go_wp2
          replace Ao := zd3 Ao
          replace Ar := zd3 Ar
          replace Ac := zd3 Ac
          replace Ad := zd3 Ad
          replace Ae := zd3 Ae
          replace Ab := zd3 Ab
          replace Ah := zd1 Ah
          replace Aj := zd1 Aj
          replace Ak := zd1 Ak
          replace Ag := zd1 Ag
          replace HB := zd2 HB
          have Ep : 0 ≤ (Aa : Int) := of_decide_eq_true za
          have El : Aa < (Ai.length : Int) := of_decide_eq_true za
          obtain ⟨Al, Fj, C4, C3, C2, C1⟩ := at_T55 (Kd.R_reads' Ao.out).2.2 Aa Ep El
          cases Fj
          replace Ep := eq_true Ep
          replace El := eq_true El
          refine start_ (n := 12) (S := fun w' => w'.cell? ⟨Ay, 0, none⟩ = some (.slice Cd Af.length Ca) ∧ w'.cell? (Al.add ((Aa).toNat * 4)) = some (.int .i64 ((rd_T55 Ai Aa).f0)) ∧ w'.cell? ⟨(Al.add ((Aa).toNat * 4)).block, (Al.add ((Aa).toNat * 4)).off + 1, none⟩ = some (.string ((rd_T55 Ai Aa).f1)) ∧ w'.cell? ⟨(Al.add ((Aa).toNat * 4)).block, (Al.add ((Aa).toNat * 4)).off + 2, none⟩ = some (.string ((rd_T55 Ai Aa).f2)) ∧ w'.cell? ⟨(Al.add ((Aa).toNat * 4)).block, (Al.add ((Aa).toNat * 4)).off + 3, none⟩ = some (.string ((rd_T55 Ai Aa).f3))) (ds := []) q21_0 (by kernel_rfl) rfl rfl ⟨zv Ag, C4, C3, C2, C1⟩ (fun hHeld => ?_); refine with_tabW laws_FnActs.tab12 laws_FnActs.bits12 (fun HT_ HW_ => ?_)
          generalize wr.drew = w126 at Ao Ar Ac Ad Ae Ab Ah Aj Ak Ag HB C4 C3 C2 C1 hHeld ⊢
          refine zP 1 (some 61) q21_1 HT_ ?_
          refine zP 2 (some 62) q21_2 HT_ ?_
          refine zP 3 (some 63) q21_3 HT_ ?_
          refine zT 0 (some 60) q21_4 HT_ HW_ hHeld ?_
          refine zT 4 (some 64) q21_5 HT_ HW_ hHeld ?_
          refine join_ (σ := Value × Nat) 2 q21_6 (fun s_ => [(65, .tuple #[.agg #[s_.1], .bool true]), (13, .pointer (some ⟨s_.2, 0, none⟩)), (59, .tuple #[.agg #[s_.1], .bool true]), (66, .agg #[s_.1]), (67, .bool true)]) (fun s_ w' => (w'.cell? ⟨Ay, 0, none⟩ = some (.slice Cd Af.length Ca) ∧ w'.cell? (Al.add ((Aa).toNat * 4)) = some (.int .i64 ((rd_T55 Ai Aa).f0)) ∧ w'.cell? ⟨(Al.add ((Aa).toNat * 4)).block, (Al.add ((Aa).toNat * 4)).off + 1, none⟩ = some (.string ((rd_T55 Ai Aa).f1)) ∧ w'.cell? ⟨(Al.add ((Aa).toNat * 4)).block, (Al.add ((Aa).toNat * 4)).off + 2, none⟩ = some (.string ((rd_T55 Ai Aa).f2)) ∧ w'.cell? ⟨(Al.add ((Aa).toNat * 4)).block, (Al.add ((Aa).toNat * 4)).off + 3, none⟩ = some (.string ((rd_T55 Ai Aa).f3))) ∧ (Kd.R k45 45 w' w.heap.size (fun k_ => some k_ ≠ (.slice Bg Aq.length Bb : Value).ownBlock ∧ some k_ ≠ (.slice Bf As.length Be : Value).ownBlock ∧ some k_ ≠ (.slice Bd Ax.length Ba : Value).ownBlock ∧ some k_ ≠ (.slice Cd Af.length Ca : Value).ownBlock) s_.1 Aw) ∧ (Kd.R k55 55 w' w.heap.size (fun _ => True) (.slice (some Al) Ai.length Da) Ai) ∧ (Kd.R k45 45 w' w.heap.size (fun k_ => some k_ ≠ (s_.1 : Value).ownBlock ∧ some k_ ≠ (.slice Bf As.length Be : Value).ownBlock ∧ some k_ ≠ (.slice Bd Ax.length Ba : Value).ownBlock) (.slice Bg Aq.length Bb) Aq) ∧ (Kd.R k45 45 w' w.heap.size (fun k_ => some k_ ≠ (s_.1 : Value).ownBlock ∧ some k_ ≠ (.slice Bg Aq.length Bb : Value).ownBlock ∧ some k_ ≠ (.slice Bd Ax.length Ba : Value).ownBlock ∧ some k_ ≠ (.slice Cd Af.length Ca : Value).ownBlock) (.slice Bf As.length Be) As) ∧ (Kd.R k45 45 w' w.heap.size (fun k_ => some k_ ≠ (s_.1 : Value).ownBlock ∧ some k_ ≠ (.slice Bg Aq.length Bb : Value).ownBlock ∧ some k_ ≠ (.slice Bf As.length Be : Value).ownBlock ∧ some k_ ≠ (.slice Cd Af.length Ca : Value).ownBlock) (.slice Bd Ax.length Ba) Ax) ∧ (Kd.R k45 45 w' w.heap.size (fun k_ => some k_ ≠ (s_.1 : Value).ownBlock ∧ some k_ ≠ (.slice Bf As.length Be : Value).ownBlock ∧ some k_ ≠ (.slice Bd Ax.length Ba : Value).ownBlock) (.slice Cd Af.length Ca) Af) ∧ (Kd.R (Kd.int .i64) 3 w' w.heap.size (fun _ => True) Eg Bw) ∧ (w'.heap[Bu]? = some (.cells #[.slice Bg Aq.length Bb] 29 (0, 0))) ∧ (w'.heap[Br]? = some (.cells #[.slice Bf As.length Be] 29 (0, 0))) ∧ (w'.heap[Bp]? = some (.cells #[.slice Bd Ax.length Ba] 29 (0, 0))) ∧ (w'.heap[Ay]? = some (.cells #[.slice Cd Af.length Ca] 29 (0, 0))) ∧ (w'.heap[s_.2]? = some (.cells #[.slice none 0 0] 29 (0, 0))) ∧ (w.heap.size ≤ s_.2) ∧ (w.heap.size ≤ s_.2) ∧ (Bu ≠ s_.2) ∧ (s_.2 ≠ Bu) ∧ (Br ≠ s_.2) ∧ (s_.2 ≠ Br) ∧ (Bp ≠ s_.2) ∧ (s_.2 ≠ Bp) ∧ (Ay ≠ s_.2) ∧ (s_.2 ≠ Ay) ∧ (Below w.heap.size w w')) ?_ ?_
          rotate_left
          ·intro hCont
           refine two_ (i := 5) (j := 9) (Ni := some 65) (Nj := some 13) q21_7 q21_8 rfl rfl rfl rfl (two_of HT_.out (by kernel_rfl)) (by decide) (by decide) (fun K hK => ?_) (fun K hK => ?_)
           ·skip
            refine zH Try.func37 #[.agg #[.slice Cd Af.length Ca], .agg #[.int .i64 ((rd_T55 Ai Aa).f0), .string ((rd_T55 Ai Aa).f1), .string ((rd_T55 Ai Aa).f2), .string ((rd_T55 Ai Aa).f3)]] ?_
            with_reducible refine (impl_DoAct.calls k2 _ _ Af ((rd_T55 Ai Aa).f0) ((rd_T55 Ai Aa).f1) ((rd_T55 Ai Aa).f2) ((rd_T55 Ai Aa).f3) Aw true _ ?side1 ?side2 G2.out).mono ?_
            (case side1 => exact zI (Kd.R_reads' Ab.out).2.2)
            (case side2 => exact (Kd.R_reads' Ab.out).2.1)
            rintro e Ie ⟨Cg, rfl, Bt, hb⟩
            have HS1_ := zhs hb hHeld.2.1
            have HS2_ := zhs hb hHeld.2.2.1
            have HS3_ := zhs hb hHeld.2.2.2.1
            have HS4_ := zhs hb hHeld.2.2.2.2
            refine ⟨_, rfl, ?_⟩
            replace Ao := zy Ao hb
            replace Ar := zy Ar hb
            have Au := Aside0.mk (Kd.R_lower (Kd.R_new' (Kd.R_new' (Kd.R_new' (Kd.R_new' Bt (Kd.R_lt (zo Ac.out))) (Kd.R_lt (zo Ad.out))) (Kd.R_lt (zo Ae.out))) (Kd.R_lt (zo Ab.out))) (below_size (zw HB)))
            replace Ac := Aside0.mk (Kd.R_elder' (zo Ac.out) (Kd.R_base Bt) hb)
            replace Ad := Aside0.mk (Kd.R_elder' (zo Ad.out) (Kd.R_base Bt) hb)
            replace Ae := Aside0.mk (Kd.R_elder' (zo Ae.out) (Kd.R_base Bt) hb)
            replace Ab := Aside0.mk (Kd.R_elder' (zo Ab.out) (Kd.R_base Bt) hb)
            replace Ah := zb Ah hb
            replace Aj := zb Aj hb
            replace Ak := zb Ak hb
            replace Ag := zb Ag hb
            replace HB := zs HB hb
            (try clear hb)
            (try clear hb2)
            (try clear hk)
            (try clear hi)
            (try clear Bt)
            refine hK.out _ _ ⟨zv Ag, HS1_, HS2_, HS3_, HS4_⟩ (fun hHeld => ?_)
            clear hK K
            refine zN ?_
            refine zP 6 (some 59) q21_9 HT_ ?_
            refine zP 7 (some 66) q21_10 HT_ ?_
            refine zP 8 (some 67) q21_11 HT_ ?_
            refine one_ (i := 9) (N := some 13) q21_6 rfl rfl (one_of HT_.out (by kernel_rfl)) (by decide) (fun K hK => ?_)
            refine box_step ?hg (N := 13) ?hd (cs := #[.slice none 0 0]) (t := 29) ?hr ?_; (case hd => rfl); (case hg => rfl); (case hr => first | (go_simp; done) | (go_simp; rfl))
            intro Ap hg Id hbox hb
            have HS1_ := zhs hb hHeld.2.1
            have HS2_ := zhs hb hHeld.2.2.1
            have HS3_ := zhs hb hHeld.2.2.2.1
            have HS4_ := zhs hb hHeld.2.2.2.2
            replace Ao := zy Ao hb
            replace Ar := zy Ar hb
            replace Ac := zy Ac hb
            replace Ad := zy Ad hb
            replace Ae := zy Ae hb
            replace Ab := zy Ab hb
            replace Au := zy Au hb
            have Am := Aside0.mk (hbox)
            have C7 := zg HB hg
            have C8 := zg HB hg
            replace HB := zs HB hb
            have Bn := zl Ah hg
            have Bk := zr Ah hg
            replace Ah := zb Ah hb
            have Bm := zl Aj hg
            have Bj := zr Aj hg
            replace Aj := zb Aj hb
            have Bl := zl Ak hg
            have Bi := zr Ak hg
            replace Ak := zb Ak hb
            have Az := zl Ag hg
            have Bh := zr Ag hg
            replace Ag := zb Ag hb
            clear hb hbox hg
            refine hK.out _ _ ⟨zv Ag, HS1_, HS2_, HS3_, HS4_⟩ (fun hHeld => ?_)
            clear hK K
            refine zN ?_
            exact norm_ (by simp only [putAll, Act.put, zA, zB, zC]) (hCont (Cg, Ap) _ ⟨hHeld, (zo (Kd.R_mono Au.out (fun _ hk => ⟨hk.1.1.1.2, ⟨hk.1.1.2, ⟨hk.1.2, hk.2⟩⟩⟩))), (zo Ao.out), (zo (Kd.R_mono Ac.out (fun _ hk => ⟨hk.2, ⟨hk.1.1, hk.1.2⟩⟩))), (zo (Kd.R_mono Ad.out (fun _ hk => ⟨hk.2, ⟨hk.1.1, ⟨hk.1.2.1, hk.1.2.2⟩⟩⟩))), (zo (Kd.R_mono Ae.out (fun _ hk => ⟨hk.2, ⟨hk.1.1, ⟨hk.1.2.1, hk.1.2.2⟩⟩⟩))), (zo (Kd.R_mono Ab.out (fun _ hk => ⟨hk.2, ⟨hk.1.1, hk.1.2⟩⟩))), (zo Ar.out), (zk Ah), (zk Aj), (zk Ak), (zk Ag), (zk Am), C7.out, C8.out, Bn.out, Bk.out, Bm.out, Bj.out, Bl.out, Bi.out, Az.out, Bh.out, (zw HB)⟩)
           refine box_step ?hg (N := 13) ?hd (cs := #[.slice none 0 0]) (t := 29) ?hr ?_; (case hd => rfl); (case hg => rfl); (case hr => first | (go_simp; done) | (go_simp; rfl))
           intro Ap hg Ie hbox hb
           have HS1_ := zhs hb hHeld.2.1
           have HS2_ := zhs hb hHeld.2.2.1
           have HS3_ := zhs hb hHeld.2.2.2.1
           have HS4_ := zhs hb hHeld.2.2.2.2
           replace Ao := zy Ao hb
           replace Ar := zy Ar hb
           replace Ac := zy Ac hb
           replace Ad := zy Ad hb
           replace Ae := zy Ae hb
           replace Ab := zy Ab hb
           have Am := Aside0.mk (hbox)
           have C7 := zg HB hg
           have C8 := zg HB hg
           replace HB := zs HB hb
           have Bn := zl Ah hg
           have Bk := zr Ah hg
           replace Ah := zb Ah hb
           have Bm := zl Aj hg
           have Bj := zr Aj hg
           replace Aj := zb Aj hb
           have Bl := zl Ak hg
           have Bi := zr Ak hg
           replace Ak := zb Ak hb
           have Az := zl Ag hg
           have Bh := zr Ag hg
           replace Ag := zb Ag hb
           clear hb hbox hg
           refine hK.out _ _ ⟨zv Ag, HS1_, HS2_, HS3_, HS4_⟩ (fun hHeld => ?_)
           clear hK K
           refine zN ?_
           refine one_ (i := 5) (N := some 65) q21_12 rfl rfl (one_of HT_.out (by kernel_rfl)) (by decide) (fun K hK => ?_)
           refine zH Try.func37 #[.agg #[.slice Cd Af.length Ca], .agg #[.int .i64 ((rd_T55 Ai Aa).f0), .string ((rd_T55 Ai Aa).f1), .string ((rd_T55 Ai Aa).f2), .string ((rd_T55 Ai Aa).f3)]] ?_
           with_reducible refine (impl_DoAct.calls k2 _ _ Af ((rd_T55 Ai Aa).f0) ((rd_T55 Ai Aa).f1) ((rd_T55 Ai Aa).f2) ((rd_T55 Ai Aa).f3) Aw true _ ?side1 ?side2 G2.out).mono ?_
           (case side1 => exact zI (Kd.R_reads' Ab.out).2.2)
           (case side2 => exact (Kd.R_reads' Ab.out).2.1)
           rintro e Id ⟨Cg, rfl, Bt, hb⟩
           have HS1_ := zhs hb hHeld.2.1
           have HS2_ := zhs hb hHeld.2.2.1
           have HS3_ := zhs hb hHeld.2.2.2.1
           have HS4_ := zhs hb hHeld.2.2.2.2
           refine ⟨_, rfl, ?_⟩
           replace Ao := zy Ao hb
           replace Ar := zy Ar hb
           have Au := Aside0.mk (Kd.R_lower (Kd.R_new' (Kd.R_new' (Kd.R_new' (Kd.R_new' Bt (Kd.R_lt (zo Ac.out))) (Kd.R_lt (zo Ad.out))) (Kd.R_lt (zo Ae.out))) (Kd.R_lt (zo Ab.out))) (below_size (zw HB)))
           replace Ac := Aside0.mk (Kd.R_elder' (zo Ac.out) (Kd.R_base Bt) hb)
           replace Ad := Aside0.mk (Kd.R_elder' (zo Ad.out) (Kd.R_base Bt) hb)
           replace Ae := Aside0.mk (Kd.R_elder' (zo Ae.out) (Kd.R_base Bt) hb)
           replace Ab := Aside0.mk (Kd.R_elder' (zo Ab.out) (Kd.R_base Bt) hb)
           replace Ah := zb Ah hb
           replace Aj := zb Aj hb
           replace Ak := zb Ak hb
           replace Ag := zb Ag hb
           replace Am := zb Am hb
           replace HB := zs HB hb
           (try clear hb)
           (try clear hb2)
           (try clear hk)
           (try clear hi)
           (try clear Bt)
           refine hK.out _ _ ⟨zv Ag, HS1_, HS2_, HS3_, HS4_⟩ (fun hHeld => ?_)
           clear hK K
           refine zN ?_
           refine zP 6 (some 59) q21_13 HT_ ?_
           refine zP 7 (some 66) q21_14 HT_ ?_
           refine zP 8 (some 67) q21_6 HT_ ?_
           exact norm_ (by simp only [putAll, Act.put, zA, zB, zC]) (hCont (Cg, Ap) _ ⟨hHeld, (zo (Kd.R_mono Au.out (fun _ hk => ⟨hk.1.1.1.2, ⟨hk.1.1.2, ⟨hk.1.2, hk.2⟩⟩⟩))), (zo Ao.out), (zo (Kd.R_mono Ac.out (fun _ hk => ⟨hk.2, ⟨hk.1.1, hk.1.2⟩⟩))), (zo (Kd.R_mono Ad.out (fun _ hk => ⟨hk.2, ⟨hk.1.1, ⟨hk.1.2.1, hk.1.2.2⟩⟩⟩))), (zo (Kd.R_mono Ae.out (fun _ hk => ⟨hk.2, ⟨hk.1.1, ⟨hk.1.2.1, hk.1.2.2⟩⟩⟩))), (zo (Kd.R_mono Ab.out (fun _ hk => ⟨hk.2, ⟨hk.1.1, hk.1.2⟩⟩))), (zo Ar.out), (zk Ah), (zk Aj), (zk Ak), (zk Ag), (zk Am), C7.out, C8.out, Bn.out, Bk.out, Bm.out, Bj.out, Bl.out, Bi.out, Az.out, Bh.out, (zw HB)⟩)
          rintro ⟨Cg, Ap⟩ Dd ⟨hS_, h0_, h1_, h2_, h3_, h4_, h5_, h6_, h7_, h8_, h9_, h10_, h11_, h12_, h13_, h14_, h15_, h16_, h17_, h18_, h19_, h20_, h21_, h22_⟩
          have n0_ : Aside0 (Kd.R k45 45 Dd w.heap.size (fun k_ => some k_ ≠ (.slice Bg Aq.length Bb : Value).ownBlock ∧ some k_ ≠ (.slice Bf As.length Be : Value).ownBlock ∧ some k_ ≠ (.slice Bd Ax.length Ba : Value).ownBlock ∧ some k_ ≠ (.slice Cd Af.length Ca : Value).ownBlock) Cg Aw) := ⟨h0_⟩
          have n1_ : Aside0 (Kd.R k55 55 Dd w.heap.size (fun _ => True) (.slice (some Al) Ai.length Da) Ai) := ⟨h1_⟩
          have n2_ : Aside0 (Kd.R k45 45 Dd w.heap.size (fun k_ => some k_ ≠ (Cg : Value).ownBlock ∧ some k_ ≠ (.slice Bf As.length Be : Value).ownBlock ∧ some k_ ≠ (.slice Bd Ax.length Ba : Value).ownBlock) (.slice Bg Aq.length Bb) Aq) := ⟨h2_⟩
          have n3_ : Aside0 (Kd.R k45 45 Dd w.heap.size (fun k_ => some k_ ≠ (Cg : Value).ownBlock ∧ some k_ ≠ (.slice Bg Aq.length Bb : Value).ownBlock ∧ some k_ ≠ (.slice Bd Ax.length Ba : Value).ownBlock ∧ some k_ ≠ (.slice Cd Af.length Ca : Value).ownBlock) (.slice Bf As.length Be) As) := ⟨h3_⟩
          have n4_ : Aside0 (Kd.R k45 45 Dd w.heap.size (fun k_ => some k_ ≠ (Cg : Value).ownBlock ∧ some k_ ≠ (.slice Bg Aq.length Bb : Value).ownBlock ∧ some k_ ≠ (.slice Bf As.length Be : Value).ownBlock ∧ some k_ ≠ (.slice Cd Af.length Ca : Value).ownBlock) (.slice Bd Ax.length Ba) Ax) := ⟨h4_⟩
          have n5_ : Aside0 (Kd.R k45 45 Dd w.heap.size (fun k_ => some k_ ≠ (Cg : Value).ownBlock ∧ some k_ ≠ (.slice Bf As.length Be : Value).ownBlock ∧ some k_ ≠ (.slice Bd Ax.length Ba : Value).ownBlock) (.slice Cd Af.length Ca) Af) := ⟨h5_⟩
          have n6_ : Aside0 (Kd.R (Kd.int .i64) 3 Dd w.heap.size (fun _ => True) Eg Bw) := ⟨h6_⟩
          have n7_ : Aside0 (Dd.heap[Bu]? = some (.cells #[.slice Bg Aq.length Bb] 29 (0, 0))) := ⟨h7_⟩
          have n8_ : Aside0 (Dd.heap[Br]? = some (.cells #[.slice Bf As.length Be] 29 (0, 0))) := ⟨h8_⟩
          have n9_ : Aside0 (Dd.heap[Bp]? = some (.cells #[.slice Bd Ax.length Ba] 29 (0, 0))) := ⟨h9_⟩
          have n10_ : Aside0 (Dd.heap[Ay]? = some (.cells #[.slice Cd Af.length Ca] 29 (0, 0))) := ⟨h10_⟩
          have n11_ : Aside0 (Dd.heap[Ap]? = some (.cells #[.slice none 0 0] 29 (0, 0))) := ⟨h11_⟩
          have n12_ : Aside0 (w.heap.size ≤ Ap) := ⟨h12_⟩
          have n13_ : Aside0 (w.heap.size ≤ Ap) := ⟨h13_⟩
          have n14_ : Aside0 (Bu ≠ Ap) := ⟨h14_⟩
          have n15_ : Aside0 (Ap ≠ Bu) := ⟨h15_⟩
          have n16_ : Aside0 (Br ≠ Ap) := ⟨h16_⟩
          have n17_ : Aside0 (Ap ≠ Br) := ⟨h17_⟩
          have n18_ : Aside0 (Bp ≠ Ap) := ⟨h18_⟩
          have n19_ : Aside0 (Ap ≠ Bp) := ⟨h19_⟩
          have n20_ : Aside0 (Ay ≠ Ap) := ⟨h20_⟩
          have n21_ : Aside0 (Ap ≠ Ay) := ⟨h21_⟩
          have n22_ : Aside0 (Below w.heap.size w Dd) := ⟨h22_⟩
          clear Ao
          clear Ar
          clear Ac
          clear Ad
          clear Ae
          clear Ab
          clear Ah
          clear Aj
          clear Ak
          clear Ag
          clear HB
          clear h0_ h1_ h2_ h3_ h4_ h5_ h6_ h7_ h8_ h9_ h10_ h11_ h12_ h13_ h14_ h15_ h16_ h17_ h18_ h19_ h20_ h21_ h22_
          have Au := n0_
          have Ao := n1_
          have Ac := n2_
          have Ad := n3_
          have Ae := n4_
          have Ab := n5_
          have Ar := n6_
          have Ah := n7_
          have Aj := n8_
          have Ak := n9_
          have Ag := n10_
          have Am := n11_
          have C7 := n12_
          have C8 := n13_
          have Bn := n14_
          have Bk := n15_
          have Bm := n16_
          have Bj := n17_
          have Bl := n18_
          have Bi := n19_
          have Az := n20_
          have Bh := n21_
          have HB := n22_
          clear n0_ n1_ n2_ n3_ n4_ n5_ n6_ n7_ n8_ n9_ n10_ n11_ n12_ n13_ n14_ n15_ n16_ n17_ n18_ n19_ n20_ n21_ n22_
          have hHeld : Dd.cell? ⟨Ay, 0, none⟩ = some (.slice Cd Af.length Ca) ∧ Dd.cell? (Al.add ((Aa).toNat * 4)) = some (.int .i64 ((rd_T55 Ai Aa).f0)) ∧ Dd.cell? ⟨(Al.add ((Aa).toNat * 4)).block, (Al.add ((Aa).toNat * 4)).off + 1, none⟩ = some (.string ((rd_T55 Ai Aa).f1)) ∧ Dd.cell? ⟨(Al.add ((Aa).toNat * 4)).block, (Al.add ((Aa).toNat * 4)).off + 2, none⟩ = some (.string ((rd_T55 Ai Aa).f2)) ∧ Dd.cell? ⟨(Al.add ((Aa).toNat * 4)).block, (Al.add ((Aa).toNat * 4)).off + 3, none⟩ = some (.string ((rd_T55 Ai Aa).f3)) := hS_
          obtain ⟨B2, B0, F9⟩ := Kd.R_slice Au.out
          (first | subst F9 | (injection F9 with f1_ f2_ f3_; have f4_ := f1_.symm; have f5_ := f3_.symm; clear f1_ f2_ f3_; subst f4_; subst f5_))
          refine norm_ (a' := ?_) ?_ ?_
          rotate_left
          ·simp only [putAll, Act.put, zA, zB, zC]
           rfl
          refine one_ (i := 10) (N := none) q21_15 rfl rfl (one_of HT_.out (by kernel_rfl)) (by decide) (fun K hK => ?_)
          have hs131 : Dd.cell? ⟨Ap, 0, none⟩ = some (.slice none 0 0) := zv Am
          have hfs131 := blk_frozen Am.out 0
          have hns131_0 := Bn.out
          have hns131_1 := Bm.out
          have hns131_2 := Bl.out
          have hns131_3 := Az.out
          have hms131_0 := Bk.out
          have hms131_1 := Bj.out
          have hms131_2 := Bi.out
          have hms131_3 := Bh.out
          refine skip_ (w1 := ?_) (by rfl) rfl ?_ ?_
          rotate_left
          ·go_simp
           rfl
          refine hK.out _ _ ⟨((cell_far (p := ⟨Ap, _, none⟩) Az.out _).trans (hHeld.1)), ((cell_far (p := ⟨Ap, _, none⟩) (zob Ao Am) _).trans (hHeld.2.1)), ((cell_far (p := ⟨Ap, _, none⟩) (zob Ao Am) _).trans (hHeld.2.2.1)), ((cell_far (p := ⟨Ap, _, none⟩) (zob Ao Am) _).trans (hHeld.2.2.2.1)), ((cell_far (p := ⟨Ap, _, none⟩) (zob Ao Am) _).trans (hHeld.2.2.2.2))⟩ (fun hHeld => ?_)
          clear hK K
          refine zP 11 (some 14) q21_16 HT_ ?_
          refine done_ (done_of HT_.out (by kernel_rfl)) ?_
          try go_wp2
          obtain ⟨Ex, hq_⟩ : ∃ v_, Dd.setCell ⟨Ap, 0, none⟩ (.slice B2 Aw.length B0) = v_ := ⟨_, rfl⟩
          replace Ao : Aside0 (Kd.R k55 55 Ex w.heap.size (fun _ => True) (.slice (some Al) Ai.length Da) Ai) := ⟨hq_ ▸ (zo (Kd.R_mono (Kd.R_far (p := ⟨Ap, 0, none⟩) (Kd.R_types Ao.out Am.out (by decide)) (fun _ hk => hk.2) (.slice B2 Aw.length B0)) (fun _ hk => trivial)))⟩
          replace Ar : Aside0 (Kd.R (Kd.int .i64) 3 Ex w.heap.size (fun _ => True) Eg Bw) := ⟨hq_ ▸ (zo (Kd.R_mono (Kd.R_far (p := ⟨Ap, 0, none⟩) (Kd.R_types Ar.out Am.out (by decide)) (fun _ hk => hk.2) (.slice B2 Aw.length B0)) (fun _ hk => trivial)))⟩
          replace Ac : Aside0 (Kd.R k45 45 Ex w.heap.size (fun k_ => some k_ ≠ (.slice Bf As.length Be : Value).ownBlock ∧ some k_ ≠ (.slice Bd Ax.length Ba : Value).ownBlock ∧ some k_ ≠ (.slice B2 Aw.length B0 : Value).ownBlock) (.slice Bg Aq.length Bb) Aq) := ⟨hq_ ▸ (zo (Kd.R_mono (Kd.R_far (p := ⟨Ap, 0, none⟩) (Kd.R_types Ac.out Am.out (by decide)) (fun _ hk => hk.2) (.slice B2 Aw.length B0)) (fun _ hk => ⟨hk.1.2.1, ⟨hk.1.2.2, hk.1.1⟩⟩)))⟩
          replace Ad : Aside0 (Kd.R k45 45 Ex w.heap.size (fun k_ => some k_ ≠ (.slice Bg Aq.length Bb : Value).ownBlock ∧ some k_ ≠ (.slice Bd Ax.length Ba : Value).ownBlock ∧ some k_ ≠ (.slice Cd Af.length Ca : Value).ownBlock ∧ some k_ ≠ (.slice B2 Aw.length B0 : Value).ownBlock) (.slice Bf As.length Be) As) := ⟨hq_ ▸ (zo (Kd.R_mono (Kd.R_far (p := ⟨Ap, 0, none⟩) (Kd.R_types Ad.out Am.out (by decide)) (fun _ hk => hk.2) (.slice B2 Aw.length B0)) (fun _ hk => ⟨hk.1.2.1, ⟨hk.1.2.2.1, ⟨hk.1.2.2.2, hk.1.1⟩⟩⟩)))⟩
          replace Ae : Aside0 (Kd.R k45 45 Ex w.heap.size (fun k_ => some k_ ≠ (.slice Bg Aq.length Bb : Value).ownBlock ∧ some k_ ≠ (.slice Bf As.length Be : Value).ownBlock ∧ some k_ ≠ (.slice Cd Af.length Ca : Value).ownBlock ∧ some k_ ≠ (.slice B2 Aw.length B0 : Value).ownBlock) (.slice Bd Ax.length Ba) Ax) := ⟨hq_ ▸ (zo (Kd.R_mono (Kd.R_far (p := ⟨Ap, 0, none⟩) (Kd.R_types Ae.out Am.out (by decide)) (fun _ hk => hk.2) (.slice B2 Aw.length B0)) (fun _ hk => ⟨hk.1.2.1, ⟨hk.1.2.2.1, ⟨hk.1.2.2.2, hk.1.1⟩⟩⟩)))⟩
          replace Ab : Aside0 (Kd.R k45 45 Ex w.heap.size (fun k_ => some k_ ≠ (.slice Bf As.length Be : Value).ownBlock ∧ some k_ ≠ (.slice Bd Ax.length Ba : Value).ownBlock ∧ some k_ ≠ (.slice B2 Aw.length B0 : Value).ownBlock) (.slice Cd Af.length Ca) Af) := ⟨hq_ ▸ (zo (Kd.R_mono (Kd.R_far (p := ⟨Ap, 0, none⟩) (Kd.R_types Ab.out Am.out (by decide)) (fun _ hk => hk.2) (.slice B2 Aw.length B0)) (fun _ hk => ⟨hk.1.2.1, ⟨hk.1.2.2, hk.1.1⟩⟩)))⟩
          replace Au : Aside0 (Kd.R k45 45 Ex w.heap.size (fun k_ => some k_ ≠ (.slice Bg Aq.length Bb : Value).ownBlock ∧ some k_ ≠ (.slice Bf As.length Be : Value).ownBlock ∧ some k_ ≠ (.slice Bd Ax.length Ba : Value).ownBlock ∧ some k_ ≠ (.slice Cd Af.length Ca : Value).ownBlock) (.slice B2 Aw.length B0) Aw) := ⟨hq_ ▸ (zo (Kd.R_mono (Kd.R_far (p := ⟨Ap, 0, none⟩) (Kd.R_types Au.out Am.out (by decide)) (fun _ hk => hk.2) (.slice B2 Aw.length B0)) (fun _ hk => ⟨hk.1.1, ⟨hk.1.2.1, ⟨hk.1.2.2.1, hk.1.2.2.2⟩⟩⟩)))⟩
          replace Ah := zjq hq_ Ah
          replace Aj := zjq hq_ Aj
          replace Ak := zjq hq_ Ak
          replace Ag := zjq hq_ Ag
          replace Am : Aside0 (Ex.heap[Ap]? = some (.cells #[.slice B2 Aw.length B0] 29 (0, 0))) := ⟨hq_ ▸ (zj Am)⟩
          replace HB := zwq hq_ HB
          (try rw [hq_])
          clear hq_
          replace Ao := zd3 Ao
          replace Ar := zd3 Ar
          replace Ac := zd3 Ac
          replace Ad := zd3 Ad
          replace Ae := zd3 Ae
          replace Ab := zd3 Ab
          replace Au := zd3 Au
          replace Ah := zd1 Ah
          replace Aj := zd1 Aj
          replace Ak := zd1 Ak
          replace Ag := zd1 Ag
          replace Am := zd1 Am
          replace HB := zd2 HB
          have Eo : 0 ≤ (Aa : Int) := of_decide_eq_true za
          have Ek : Aa < (Ai.length : Int) := of_decide_eq_true za
          obtain ⟨E1, Fi, C0, Cz, Cy, Cx⟩ := at_T55 (Kd.R_reads' Ao.out).2.2 Aa Eo Ek
          obtain rfl : Al = E1 := (by injection Fi)
          replace Eo := eq_true Eo
          replace Ek := eq_true Ek
          refine start_ (n := 12) (S := fun w' => w'.cell? ⟨Ay, 0, none⟩ = some (.slice Cd Af.length Ca) ∧ w'.cell? (Al.add ((Aa).toNat * 4)) = some (.int .i64 ((rd_T55 Ai Aa).f0)) ∧ w'.cell? ⟨(Al.add ((Aa).toNat * 4)).block, (Al.add ((Aa).toNat * 4)).off + 1, none⟩ = some (.string ((rd_T55 Ai Aa).f1)) ∧ w'.cell? ⟨(Al.add ((Aa).toNat * 4)).block, (Al.add ((Aa).toNat * 4)).off + 2, none⟩ = some (.string ((rd_T55 Ai Aa).f2)) ∧ w'.cell? ⟨(Al.add ((Aa).toNat * 4)).block, (Al.add ((Aa).toNat * 4)).off + 3, none⟩ = some (.string ((rd_T55 Ai Aa).f3))) (ds := []) q21_0 (by kernel_rfl) rfl rfl ⟨zv Ag, C0, Cz, Cy, Cx⟩ (fun hHeld => ?_); refine with_tabW laws_FnActs.tab15 laws_FnActs.bits15 (fun HT_ HW_ => ?_)
          generalize Ex.drew = w133 at Ao Ar Ac Ad Ae Ab Au Ah Aj Ak Ag Am HB C0 Cz Cy Cx hHeld ⊢
          refine zP 1 (some 72) q21_1 HT_ ?_
          refine zP 2 (some 73) q21_2 HT_ ?_
          refine zP 3 (some 74) q21_3 HT_ ?_
          refine zP 4 (some 75) q21_17 HT_ ?_
          refine zT 0 (some 71) q21_5 HT_ HW_ hHeld ?_
          refine zT 5 (some 76) q21_7 HT_ HW_ hHeld ?_
          refine one_ (i := 6) (N := some 77) q21_9 rfl rfl (one_of HT_.out (by kernel_rfl)) (by decide) (fun K hK => ?_)
          refine zH Try.func18 #[.agg #[.slice Cd Af.length Ca], .string ((rd_T55 Ai Aa).f1)] ?_
          with_reducible refine (impl_FileAt.calls _ _ Af ((rd_T55 Ai Aa).f1) Ds Gi _ ?side1 ?side2 Is.out).mono ?_
          (case side1 => exact zI (Kd.R_reads' Ab.out).2.2)
          (case side2 => exact (Kd.R_reads' Ab.out).2.1)
          rintro e Ic ⟨rfl, hb⟩
          have HS1_ := zhs hb hHeld.2.1
          have HS2_ := zhs hb hHeld.2.2.1
          have HS3_ := zhs hb hHeld.2.2.2.1
          have HS4_ := zhs hb hHeld.2.2.2.2
          refine ⟨_, rfl, ?_⟩
          replace Ao := zy Ao hb
          replace Ar := zy Ar hb
          replace Ac := zy Ac hb
          replace Ad := zy Ad hb
          replace Ae := zy Ae hb
          replace Ab := zy Ab hb
          replace Au := zy Au hb
          replace Ah := zb Ah hb
          replace Aj := zb Aj hb
          replace Ak := zb Ak hb
          replace Ag := zb Ag hb
          replace Am := zb Am hb
          replace HB := zs HB hb
          (try clear hb)
          (try clear hb2)
          (try clear hk)
          (try clear hi)
          refine hK.out _ _ ⟨zv Ag, HS1_, HS2_, HS3_, HS4_⟩ (fun hHeld => ?_)
          clear hK K
          refine zN ?_
          refine zP 7 (some 70) q21_10 HT_ ?_
          refine zP 8 (some 78) q21_11 HT_ ?_
          refine zP 9 (some 79) q21_6 HT_ ?_
          refine zP 10 (some 15) q21_15 HT_ ?_
          refine zP 11 (some 16) q21_16 HT_ ?_
          refine done_ (done_of HT_.out (by kernel_rfl)) ?_
          try go_wp2
          replace Ao := zd3 Ao
          replace Ar := zd3 Ar
          replace Ac := zd3 Ac
          replace Ad := zd3 Ad
          replace Ae := zd3 Ae
          replace Ab := zd3 Ab
          replace Au := zd3 Au
          replace Ah := zd1 Ah
          replace Aj := zd1 Aj
          replace Ak := zd1 Ak
          replace Ag := zd1 Ag
          replace Am := zd1 Am
          replace HB := zd2 HB
          have En : 0 ≤ (Aa : Int) := of_decide_eq_true za
          have Ej : Aa < (Ai.length : Int) := of_decide_eq_true za
          obtain ⟨E0, Fh, Cw, Cv, Cu, Ct⟩ := at_T55 (Kd.R_reads' Ao.out).2.2 Aa En Ej
          obtain rfl : Al = E0 := (by injection Fh)
          replace En := eq_true En
          replace Ej := eq_true Ej
          refine start_ (n := 12) (S := fun w' => w'.cell? ⟨Ap, 0, none⟩ = some (.slice B2 Aw.length B0) ∧ w'.cell? (Al.add ((Aa).toNat * 4)) = some (.int .i64 ((rd_T55 Ai Aa).f0)) ∧ w'.cell? ⟨(Al.add ((Aa).toNat * 4)).block, (Al.add ((Aa).toNat * 4)).off + 1, none⟩ = some (.string ((rd_T55 Ai Aa).f1)) ∧ w'.cell? ⟨(Al.add ((Aa).toNat * 4)).block, (Al.add ((Aa).toNat * 4)).off + 2, none⟩ = some (.string ((rd_T55 Ai Aa).f2)) ∧ w'.cell? ⟨(Al.add ((Aa).toNat * 4)).block, (Al.add ((Aa).toNat * 4)).off + 3, none⟩ = some (.string ((rd_T55 Ai Aa).f3))) (ds := []) q21_0 (by kernel_rfl) rfl rfl ⟨zv Am, Cw, Cv, Cu, Ct⟩ (fun hHeld => ?_); refine with_tabW laws_FnActs.tab16 laws_FnActs.bits16 (fun HT_ HW_ => ?_)
          generalize Ic.drew = w135 at Ao Ar Ac Ad Ae Ab Au Ah Aj Ak Ag Am HB Cw Cv Cu Ct hHeld ⊢
          refine zP 1 (some 82) q21_1 HT_ ?_
          refine zP 2 (some 83) q21_2 HT_ ?_
          refine zP 3 (some 84) q21_3 HT_ ?_
          refine zP 4 (some 85) q21_17 HT_ ?_
          refine zT 0 (some 81) q21_5 HT_ HW_ hHeld ?_
          refine zT 5 (some 86) q21_7 HT_ HW_ hHeld ?_
          refine one_ (i := 6) (N := some 87) q21_9 rfl rfl (one_of HT_.out (by kernel_rfl)) (by decide) (fun K hK => ?_)
          refine zH Try.func18 #[.agg #[.slice B2 Aw.length B0], .string ((rd_T55 Ai Aa).f1)] ?_
          with_reducible refine (impl_FileAt.calls _ _ Aw ((rd_T55 Ai Aa).f1) Ey false _ ?side1 ?side2 Ir.out).mono ?_
          (case side1 => exact zI (Kd.R_reads' Au.out).2.2)
          (case side2 => exact (Kd.R_reads' Au.out).2.1)
          rintro e w136 ⟨rfl, hb⟩
          have HS1_ := zhs hb hHeld.2.1
          have HS2_ := zhs hb hHeld.2.2.1
          have HS3_ := zhs hb hHeld.2.2.2.1
          have HS4_ := zhs hb hHeld.2.2.2.2
          refine ⟨_, rfl, ?_⟩
          replace Ao := zy Ao hb
          replace Ar := zy Ar hb
          replace Ac := zy Ac hb
          replace Ad := zy Ad hb
          replace Ae := zy Ae hb
          replace Ab := zy Ab hb
          replace Au := zy Au hb
          replace Ah := zb Ah hb
          replace Aj := zb Aj hb
          replace Ak := zb Ak hb
          replace Ag := zb Ag hb
          replace Am := zb Am hb
          replace HB := zs HB hb
          (try clear hb)
          (try clear hb2)
          (try clear hk)
          (try clear hi)
          refine hK.out _ _ ⟨zv Am, HS1_, HS2_, HS3_, HS4_⟩ (fun hHeld => ?_)
          clear hK K
          refine zN ?_
          refine zP 7 (some 80) q21_10 HT_ ?_
          refine zP 8 (some 88) q21_11 HT_ ?_
          refine zP 9 (some 89) q21_6 HT_ ?_
          refine zP 10 (some 17) q21_15 HT_ ?_
          refine zP 11 (some 18) q21_16 HT_ ?_
          refine done_ (done_of HT_.out (by kernel_rfl)) ?_
          have Em : 0 ≤ (Aa : Int) := of_decide_eq_true za
          have Ei : Aa < (Ai.length : Int) := of_decide_eq_true za
          obtain ⟨Ez, Fg, Fc, Fb, Fa, E9⟩ := at_T55 (Kd.R_reads' Ao.out).2.2 Aa Em Ei
          obtain rfl : Al = Ez := (by injection Fg)
          replace Em := eq_true Em
          replace Ei := eq_true Ei
          have E5 : 0 ≤ (Aa : Int) := of_decide_eq_true za
          have E4 : Aa < (Ai.length : Int) := of_decide_eq_true za
          obtain ⟨Fn, Gp, Fs, Fr, Fq, Fp⟩ := at_T55 (Kd.R_reads' Ao.out).2.2 Aa E5 E4
          obtain rfl : Al = Fn := (by injection Gp)
          replace E5 := eq_true E5
          replace E4 := eq_true E4
          have hnb137 := Bk.out
          have hnc137 := Bn.out
          have hnb138 := Bj.out
          have hnc138 := Bm.out
          have hnb139 := Bi.out
          have hnc139 := Bl.out
          have hnb140 := Bh.out
          have hnc140 := Az.out
          obtain ⟨_, _⟩ := zc1 Am
          have hnb142 := Cp.out
          have hnc142 := Cq.out
          have hnb143 := Di.out
          have hnc143 := Dl.out
          have hnb144 := Dh.out
          have hnc144 := Dj.out
          obtain ⟨_, _⟩ := zc1 Ag
          try go_wp2
          go_roundg k2
          case measure => have := HJ6.out; have := G1.out; omega
          case rel => exact ⟨(wrap64 (Aa + 1)), (Aw), (.slice B2 Aw.length B0), zf, H', ⟨by have := HJ6.out; have := G1.out; omega⟩, ⟨zo (Kd.R_mono (Kd.R_far (p := ⟨Ay, 0, none⟩) (Kd.R_types Ao.out Ag.out (by decide)) (fun _ hk => hk.2) (.slice B2 Aw.length B0)) (fun _ hk => trivial))⟩, ⟨zo (Kd.R_mono (Kd.R_far (p := ⟨Ay, 0, none⟩) (Kd.R_types Ar.out Ag.out (by decide)) (fun _ hk => hk.2) (.slice B2 Aw.length B0)) (fun _ hk => trivial))⟩, ⟨zo (Kd.R_mono (Kd.R_far (p := ⟨Ay, 0, none⟩) (Kd.R_types Ac.out Ag.out (by decide)) (fun _ hk => hk.2) (.slice B2 Aw.length B0)) (fun _ hk => ⟨hk.1.1, hk.1.2.1⟩))⟩, ⟨zo (Kd.R_mono (Kd.R_far (p := ⟨Ay, 0, none⟩) (Kd.R_types Ad.out Ag.out (by decide)) (fun _ hk => hk.2) (.slice B2 Aw.length B0)) (fun _ hk => ⟨hk.1.1, ⟨hk.1.2.1, hk.1.2.2.2⟩⟩))⟩, ⟨zo (Kd.R_mono (Kd.R_far (p := ⟨Ay, 0, none⟩) (Kd.R_types Ae.out Ag.out (by decide)) (fun _ hk => hk.2) (.slice B2 Aw.length B0)) (fun _ hk => ⟨hk.1.1, ⟨hk.1.2.1, hk.1.2.2.2⟩⟩))⟩, ⟨zo (Kd.R_mono (Kd.R_far (p := ⟨Ay, 0, none⟩) (Kd.R_types Au.out Ag.out (by decide)) (fun _ hk => hk.2) (.slice B2 Aw.length B0)) (fun _ hk => ⟨hk.1.2.1, hk.1.2.2.1⟩))⟩, ⟨zkf Ah⟩, ⟨zkf Aj⟩, ⟨zkf Ak⟩, ⟨zj Ag⟩, ⟨zw HB⟩⟩
         rw [if_neg E7] at H
         have Gz : (((rd_T55 Ai Aa).f0) == 4) = false := beq_eq_false_iff_ne.mpr E7
         have Gy : (((rd_T55 Ai Aa).f0) != 4) = true := bne_iff_ne.mpr E7
         have H' := Aside0.mk H
         clear H
         obtain ⟨Cc, B8, Hg⟩ := Kd.R_slice Ab.out
         subst Hg
         try go_wp2
         replace Ao := zd3 Ao
         replace Ar := zd3 Ar
         replace Ac := zd3 Ac
         replace Ad := zd3 Ad
         replace Ae := zd3 Ae
         replace Ab := zd3 Ab
         replace Ah := zd1 Ah
         replace Aj := zd1 Aj
         replace Ak := zd1 Ak
         replace Ag := zd1 Ag
         replace HB := zd2 HB
         have Ep : 0 ≤ (Aa : Int) := of_decide_eq_true za
         have El : Aa < (Ai.length : Int) := of_decide_eq_true za
         obtain ⟨Al, Fj, C4, C3, C2, C1⟩ := at_T55 (Kd.R_reads' Ao.out).2.2 Aa Ep El
         cases Fj
         replace Ep := eq_true Ep
         replace El := eq_true El
         refine start_ (n := 12) (S := fun w' => w'.cell? ⟨Ay, 0, none⟩ = some (.slice Cc Af.length B8) ∧ w'.cell? (Al.add ((Aa).toNat * 4)) = some (.int .i64 ((rd_T55 Ai Aa).f0)) ∧ w'.cell? ⟨(Al.add ((Aa).toNat * 4)).block, (Al.add ((Aa).toNat * 4)).off + 1, none⟩ = some (.string ((rd_T55 Ai Aa).f1)) ∧ w'.cell? ⟨(Al.add ((Aa).toNat * 4)).block, (Al.add ((Aa).toNat * 4)).off + 2, none⟩ = some (.string ((rd_T55 Ai Aa).f2)) ∧ w'.cell? ⟨(Al.add ((Aa).toNat * 4)).block, (Al.add ((Aa).toNat * 4)).off + 3, none⟩ = some (.string ((rd_T55 Ai Aa).f3))) (ds := []) q21_0 (by kernel_rfl) rfl rfl ⟨zv Ag, C4, C3, C2, C1⟩ (fun hHeld => ?_); refine with_tabW laws_FnActs.tab12 laws_FnActs.bits12 (fun HT_ HW_ => ?_)
         generalize wr.drew = w147 at Ao Ar Ac Ad Ae Ab Ah Aj Ak Ag HB C4 C3 C2 C1 hHeld ⊢
         refine zP 1 (some 61) q21_1 HT_ ?_
         refine zP 2 (some 62) q21_2 HT_ ?_
         refine zP 3 (some 63) q21_3 HT_ ?_
         refine zT 0 (some 60) q21_4 HT_ HW_ hHeld ?_
         refine zT 4 (some 64) q21_5 HT_ HW_ hHeld ?_
         refine join_ (σ := Value × Nat) 2 q21_6 (fun s_ => [(65, .tuple #[.agg #[s_.1], .bool true]), (13, .pointer (some ⟨s_.2, 0, none⟩)), (59, .tuple #[.agg #[s_.1], .bool true]), (66, .agg #[s_.1]), (67, .bool true)]) (fun s_ w' => (w'.cell? ⟨Ay, 0, none⟩ = some (.slice Cc Af.length B8) ∧ w'.cell? (Al.add ((Aa).toNat * 4)) = some (.int .i64 ((rd_T55 Ai Aa).f0)) ∧ w'.cell? ⟨(Al.add ((Aa).toNat * 4)).block, (Al.add ((Aa).toNat * 4)).off + 1, none⟩ = some (.string ((rd_T55 Ai Aa).f1)) ∧ w'.cell? ⟨(Al.add ((Aa).toNat * 4)).block, (Al.add ((Aa).toNat * 4)).off + 2, none⟩ = some (.string ((rd_T55 Ai Aa).f2)) ∧ w'.cell? ⟨(Al.add ((Aa).toNat * 4)).block, (Al.add ((Aa).toNat * 4)).off + 3, none⟩ = some (.string ((rd_T55 Ai Aa).f3))) ∧ (Kd.R k45 45 w' w.heap.size (fun k_ => some k_ ≠ (.slice Bg Aq.length Bb : Value).ownBlock ∧ some k_ ≠ (.slice Bf As.length Be : Value).ownBlock ∧ some k_ ≠ (.slice Bd Ax.length Ba : Value).ownBlock ∧ some k_ ≠ (.slice Cc Af.length B8 : Value).ownBlock) s_.1 Aw) ∧ (Kd.R k55 55 w' w.heap.size (fun _ => True) (.slice (some Al) Ai.length Da) Ai) ∧ (Kd.R k45 45 w' w.heap.size (fun k_ => some k_ ≠ (s_.1 : Value).ownBlock ∧ some k_ ≠ (.slice Bf As.length Be : Value).ownBlock ∧ some k_ ≠ (.slice Bd Ax.length Ba : Value).ownBlock) (.slice Bg Aq.length Bb) Aq) ∧ (Kd.R k45 45 w' w.heap.size (fun k_ => some k_ ≠ (s_.1 : Value).ownBlock ∧ some k_ ≠ (.slice Bg Aq.length Bb : Value).ownBlock ∧ some k_ ≠ (.slice Bd Ax.length Ba : Value).ownBlock ∧ some k_ ≠ (.slice Cc Af.length B8 : Value).ownBlock) (.slice Bf As.length Be) As) ∧ (Kd.R k45 45 w' w.heap.size (fun k_ => some k_ ≠ (s_.1 : Value).ownBlock ∧ some k_ ≠ (.slice Bg Aq.length Bb : Value).ownBlock ∧ some k_ ≠ (.slice Bf As.length Be : Value).ownBlock ∧ some k_ ≠ (.slice Cc Af.length B8 : Value).ownBlock) (.slice Bd Ax.length Ba) Ax) ∧ (Kd.R k45 45 w' w.heap.size (fun k_ => some k_ ≠ (s_.1 : Value).ownBlock ∧ some k_ ≠ (.slice Bf As.length Be : Value).ownBlock ∧ some k_ ≠ (.slice Bd Ax.length Ba : Value).ownBlock) (.slice Cc Af.length B8) Af) ∧ (Kd.R (Kd.int .i64) 3 w' w.heap.size (fun _ => True) Eg Bw) ∧ (w'.heap[Bu]? = some (.cells #[.slice Bg Aq.length Bb] 29 (0, 0))) ∧ (w'.heap[Br]? = some (.cells #[.slice Bf As.length Be] 29 (0, 0))) ∧ (w'.heap[Bp]? = some (.cells #[.slice Bd Ax.length Ba] 29 (0, 0))) ∧ (w'.heap[Ay]? = some (.cells #[.slice Cc Af.length B8] 29 (0, 0))) ∧ (w'.heap[s_.2]? = some (.cells #[.slice none 0 0] 29 (0, 0))) ∧ (w.heap.size ≤ s_.2) ∧ (w.heap.size ≤ s_.2) ∧ (Bu ≠ s_.2) ∧ (s_.2 ≠ Bu) ∧ (Br ≠ s_.2) ∧ (s_.2 ≠ Br) ∧ (Bp ≠ s_.2) ∧ (s_.2 ≠ Bp) ∧ (Ay ≠ s_.2) ∧ (s_.2 ≠ Ay) ∧ (Below w.heap.size w w')) ?_ ?_
         rotate_left
         ·intro hCont
          refine two_ (i := 5) (j := 9) (Ni := some 65) (Nj := some 13) q21_7 q21_8 rfl rfl rfl rfl (two_of HT_.out (by kernel_rfl)) (by decide) (by decide) (fun K hK => ?_) (fun K hK => ?_)
          ·skip
           refine zH Try.func37 #[.agg #[.slice Cc Af.length B8], .agg #[.int .i64 ((rd_T55 Ai Aa).f0), .string ((rd_T55 Ai Aa).f1), .string ((rd_T55 Ai Aa).f2), .string ((rd_T55 Ai Aa).f3)]] ?_
           with_reducible refine (impl_DoAct.calls k2 _ _ Af ((rd_T55 Ai Aa).f0) ((rd_T55 Ai Aa).f1) ((rd_T55 Ai Aa).f2) ((rd_T55 Ai Aa).f3) Aw true _ ?side1 ?side2 G2.out).mono ?_
           (case side1 => exact zI (Kd.R_reads' Ab.out).2.2)
           (case side2 => exact (Kd.R_reads' Ab.out).2.1)
           rintro e Ib ⟨Cg, rfl, Bt, hb⟩
           have HS1_ := zhs hb hHeld.2.1
           have HS2_ := zhs hb hHeld.2.2.1
           have HS3_ := zhs hb hHeld.2.2.2.1
           have HS4_ := zhs hb hHeld.2.2.2.2
           refine ⟨_, rfl, ?_⟩
           replace Ao := zy Ao hb
           replace Ar := zy Ar hb
           have Au := Aside0.mk (Kd.R_lower (Kd.R_new' (Kd.R_new' (Kd.R_new' (Kd.R_new' Bt (Kd.R_lt (zo Ac.out))) (Kd.R_lt (zo Ad.out))) (Kd.R_lt (zo Ae.out))) (Kd.R_lt (zo Ab.out))) (below_size (zw HB)))
           replace Ac := Aside0.mk (Kd.R_elder' (zo Ac.out) (Kd.R_base Bt) hb)
           replace Ad := Aside0.mk (Kd.R_elder' (zo Ad.out) (Kd.R_base Bt) hb)
           replace Ae := Aside0.mk (Kd.R_elder' (zo Ae.out) (Kd.R_base Bt) hb)
           replace Ab := Aside0.mk (Kd.R_elder' (zo Ab.out) (Kd.R_base Bt) hb)
           replace Ah := zb Ah hb
           replace Aj := zb Aj hb
           replace Ak := zb Ak hb
           replace Ag := zb Ag hb
           replace HB := zs HB hb
           (try clear hb)
           (try clear hb2)
           (try clear hk)
           (try clear hi)
           (try clear Bt)
           refine hK.out _ _ ⟨zv Ag, HS1_, HS2_, HS3_, HS4_⟩ (fun hHeld => ?_)
           clear hK K
           refine zN ?_
           refine zP 6 (some 59) q21_9 HT_ ?_
           refine zP 7 (some 66) q21_10 HT_ ?_
           refine zP 8 (some 67) q21_11 HT_ ?_
           refine one_ (i := 9) (N := some 13) q21_6 rfl rfl (one_of HT_.out (by kernel_rfl)) (by decide) (fun K hK => ?_)
           refine box_step ?hg (N := 13) ?hd (cs := #[.slice none 0 0]) (t := 29) ?hr ?_; (case hd => rfl); (case hg => rfl); (case hr => first | (go_simp; done) | (go_simp; rfl))
           intro Ap hg Ia hbox hb
           have HS1_ := zhs hb hHeld.2.1
           have HS2_ := zhs hb hHeld.2.2.1
           have HS3_ := zhs hb hHeld.2.2.2.1
           have HS4_ := zhs hb hHeld.2.2.2.2
           replace Ao := zy Ao hb
           replace Ar := zy Ar hb
           replace Ac := zy Ac hb
           replace Ad := zy Ad hb
           replace Ae := zy Ae hb
           replace Ab := zy Ab hb
           replace Au := zy Au hb
           have Am := Aside0.mk (hbox)
           have C7 := zg HB hg
           have C8 := zg HB hg
           replace HB := zs HB hb
           have Bn := zl Ah hg
           have Bk := zr Ah hg
           replace Ah := zb Ah hb
           have Bm := zl Aj hg
           have Bj := zr Aj hg
           replace Aj := zb Aj hb
           have Bl := zl Ak hg
           have Bi := zr Ak hg
           replace Ak := zb Ak hb
           have Az := zl Ag hg
           have Bh := zr Ag hg
           replace Ag := zb Ag hb
           clear hb hbox hg
           refine hK.out _ _ ⟨zv Ag, HS1_, HS2_, HS3_, HS4_⟩ (fun hHeld => ?_)
           clear hK K
           refine zN ?_
           exact norm_ (by simp only [putAll, Act.put, zA, zB, zC]) (hCont (Cg, Ap) _ ⟨hHeld, (zo (Kd.R_mono Au.out (fun _ hk => ⟨hk.1.1.1.2, ⟨hk.1.1.2, ⟨hk.1.2, hk.2⟩⟩⟩))), (zo Ao.out), (zo (Kd.R_mono Ac.out (fun _ hk => ⟨hk.2, ⟨hk.1.1, hk.1.2⟩⟩))), (zo (Kd.R_mono Ad.out (fun _ hk => ⟨hk.2, ⟨hk.1.1, ⟨hk.1.2.1, hk.1.2.2⟩⟩⟩))), (zo (Kd.R_mono Ae.out (fun _ hk => ⟨hk.2, ⟨hk.1.1, ⟨hk.1.2.1, hk.1.2.2⟩⟩⟩))), (zo (Kd.R_mono Ab.out (fun _ hk => ⟨hk.2, ⟨hk.1.1, hk.1.2⟩⟩))), (zo Ar.out), (zk Ah), (zk Aj), (zk Ak), (zk Ag), (zk Am), C7.out, C8.out, Bn.out, Bk.out, Bm.out, Bj.out, Bl.out, Bi.out, Az.out, Bh.out, (zw HB)⟩)
          refine box_step ?hg (N := 13) ?hd (cs := #[.slice none 0 0]) (t := 29) ?hr ?_; (case hd => rfl); (case hg => rfl); (case hr => first | (go_simp; done) | (go_simp; rfl))
          intro Ap hg Ib hbox hb
          have HS1_ := zhs hb hHeld.2.1
          have HS2_ := zhs hb hHeld.2.2.1
          have HS3_ := zhs hb hHeld.2.2.2.1
          have HS4_ := zhs hb hHeld.2.2.2.2
          replace Ao := zy Ao hb
          replace Ar := zy Ar hb
          replace Ac := zy Ac hb
          replace Ad := zy Ad hb
          replace Ae := zy Ae hb
          replace Ab := zy Ab hb
          have Am := Aside0.mk (hbox)
          have C7 := zg HB hg
          have C8 := zg HB hg
          replace HB := zs HB hb
          have Bn := zl Ah hg
          have Bk := zr Ah hg
          replace Ah := zb Ah hb
          have Bm := zl Aj hg
          have Bj := zr Aj hg
          replace Aj := zb Aj hb
          have Bl := zl Ak hg
          have Bi := zr Ak hg
          replace Ak := zb Ak hb
          have Az := zl Ag hg
          have Bh := zr Ag hg
          replace Ag := zb Ag hb
          clear hb hbox hg
          refine hK.out _ _ ⟨zv Ag, HS1_, HS2_, HS3_, HS4_⟩ (fun hHeld => ?_)
          clear hK K
          refine zN ?_
          refine one_ (i := 5) (N := some 65) q21_12 rfl rfl (one_of HT_.out (by kernel_rfl)) (by decide) (fun K hK => ?_)
          refine zH Try.func37 #[.agg #[.slice Cc Af.length B8], .agg #[.int .i64 ((rd_T55 Ai Aa).f0), .string ((rd_T55 Ai Aa).f1), .string ((rd_T55 Ai Aa).f2), .string ((rd_T55 Ai Aa).f3)]] ?_
          with_reducible refine (impl_DoAct.calls k2 _ _ Af ((rd_T55 Ai Aa).f0) ((rd_T55 Ai Aa).f1) ((rd_T55 Ai Aa).f2) ((rd_T55 Ai Aa).f3) Aw true _ ?side1 ?side2 G2.out).mono ?_
          (case side1 => exact zI (Kd.R_reads' Ab.out).2.2)
          (case side2 => exact (Kd.R_reads' Ab.out).2.1)
          rintro e Ia ⟨Cg, rfl, Bt, hb⟩
          have HS1_ := zhs hb hHeld.2.1
          have HS2_ := zhs hb hHeld.2.2.1
          have HS3_ := zhs hb hHeld.2.2.2.1
          have HS4_ := zhs hb hHeld.2.2.2.2
          refine ⟨_, rfl, ?_⟩
          replace Ao := zy Ao hb
          replace Ar := zy Ar hb
          have Au := Aside0.mk (Kd.R_lower (Kd.R_new' (Kd.R_new' (Kd.R_new' (Kd.R_new' Bt (Kd.R_lt (zo Ac.out))) (Kd.R_lt (zo Ad.out))) (Kd.R_lt (zo Ae.out))) (Kd.R_lt (zo Ab.out))) (below_size (zw HB)))
          replace Ac := Aside0.mk (Kd.R_elder' (zo Ac.out) (Kd.R_base Bt) hb)
          replace Ad := Aside0.mk (Kd.R_elder' (zo Ad.out) (Kd.R_base Bt) hb)
          replace Ae := Aside0.mk (Kd.R_elder' (zo Ae.out) (Kd.R_base Bt) hb)
          replace Ab := Aside0.mk (Kd.R_elder' (zo Ab.out) (Kd.R_base Bt) hb)
          replace Ah := zb Ah hb
          replace Aj := zb Aj hb
          replace Ak := zb Ak hb
          replace Ag := zb Ag hb
          replace Am := zb Am hb
          replace HB := zs HB hb
          (try clear hb)
          (try clear hb2)
          (try clear hk)
          (try clear hi)
          (try clear Bt)
          refine hK.out _ _ ⟨zv Ag, HS1_, HS2_, HS3_, HS4_⟩ (fun hHeld => ?_)
          clear hK K
          refine zN ?_
          refine zP 6 (some 59) q21_13 HT_ ?_
          refine zP 7 (some 66) q21_14 HT_ ?_
          refine zP 8 (some 67) q21_6 HT_ ?_
          exact norm_ (by simp only [putAll, Act.put, zA, zB, zC]) (hCont (Cg, Ap) _ ⟨hHeld, (zo (Kd.R_mono Au.out (fun _ hk => ⟨hk.1.1.1.2, ⟨hk.1.1.2, ⟨hk.1.2, hk.2⟩⟩⟩))), (zo Ao.out), (zo (Kd.R_mono Ac.out (fun _ hk => ⟨hk.2, ⟨hk.1.1, hk.1.2⟩⟩))), (zo (Kd.R_mono Ad.out (fun _ hk => ⟨hk.2, ⟨hk.1.1, ⟨hk.1.2.1, hk.1.2.2⟩⟩⟩))), (zo (Kd.R_mono Ae.out (fun _ hk => ⟨hk.2, ⟨hk.1.1, ⟨hk.1.2.1, hk.1.2.2⟩⟩⟩))), (zo (Kd.R_mono Ab.out (fun _ hk => ⟨hk.2, ⟨hk.1.1, hk.1.2⟩⟩))), (zo Ar.out), (zk Ah), (zk Aj), (zk Ak), (zk Ag), (zk Am), C7.out, C8.out, Bn.out, Bk.out, Bm.out, Bj.out, Bl.out, Bi.out, Az.out, Bh.out, (zw HB)⟩)
         rintro ⟨Cg, Ap⟩ Dc ⟨hS_, h0_, h1_, h2_, h3_, h4_, h5_, h6_, h7_, h8_, h9_, h10_, h11_, h12_, h13_, h14_, h15_, h16_, h17_, h18_, h19_, h20_, h21_, h22_⟩
         have n0_ : Aside0 (Kd.R k45 45 Dc w.heap.size (fun k_ => some k_ ≠ (.slice Bg Aq.length Bb : Value).ownBlock ∧ some k_ ≠ (.slice Bf As.length Be : Value).ownBlock ∧ some k_ ≠ (.slice Bd Ax.length Ba : Value).ownBlock ∧ some k_ ≠ (.slice Cc Af.length B8 : Value).ownBlock) Cg Aw) := ⟨h0_⟩
         have n1_ : Aside0 (Kd.R k55 55 Dc w.heap.size (fun _ => True) (.slice (some Al) Ai.length Da) Ai) := ⟨h1_⟩
         have n2_ : Aside0 (Kd.R k45 45 Dc w.heap.size (fun k_ => some k_ ≠ (Cg : Value).ownBlock ∧ some k_ ≠ (.slice Bf As.length Be : Value).ownBlock ∧ some k_ ≠ (.slice Bd Ax.length Ba : Value).ownBlock) (.slice Bg Aq.length Bb) Aq) := ⟨h2_⟩
         have n3_ : Aside0 (Kd.R k45 45 Dc w.heap.size (fun k_ => some k_ ≠ (Cg : Value).ownBlock ∧ some k_ ≠ (.slice Bg Aq.length Bb : Value).ownBlock ∧ some k_ ≠ (.slice Bd Ax.length Ba : Value).ownBlock ∧ some k_ ≠ (.slice Cc Af.length B8 : Value).ownBlock) (.slice Bf As.length Be) As) := ⟨h3_⟩
         have n4_ : Aside0 (Kd.R k45 45 Dc w.heap.size (fun k_ => some k_ ≠ (Cg : Value).ownBlock ∧ some k_ ≠ (.slice Bg Aq.length Bb : Value).ownBlock ∧ some k_ ≠ (.slice Bf As.length Be : Value).ownBlock ∧ some k_ ≠ (.slice Cc Af.length B8 : Value).ownBlock) (.slice Bd Ax.length Ba) Ax) := ⟨h4_⟩
         have n5_ : Aside0 (Kd.R k45 45 Dc w.heap.size (fun k_ => some k_ ≠ (Cg : Value).ownBlock ∧ some k_ ≠ (.slice Bf As.length Be : Value).ownBlock ∧ some k_ ≠ (.slice Bd Ax.length Ba : Value).ownBlock) (.slice Cc Af.length B8) Af) := ⟨h5_⟩
         have n6_ : Aside0 (Kd.R (Kd.int .i64) 3 Dc w.heap.size (fun _ => True) Eg Bw) := ⟨h6_⟩
         have n7_ : Aside0 (Dc.heap[Bu]? = some (.cells #[.slice Bg Aq.length Bb] 29 (0, 0))) := ⟨h7_⟩
         have n8_ : Aside0 (Dc.heap[Br]? = some (.cells #[.slice Bf As.length Be] 29 (0, 0))) := ⟨h8_⟩
         have n9_ : Aside0 (Dc.heap[Bp]? = some (.cells #[.slice Bd Ax.length Ba] 29 (0, 0))) := ⟨h9_⟩
         have n10_ : Aside0 (Dc.heap[Ay]? = some (.cells #[.slice Cc Af.length B8] 29 (0, 0))) := ⟨h10_⟩
         have n11_ : Aside0 (Dc.heap[Ap]? = some (.cells #[.slice none 0 0] 29 (0, 0))) := ⟨h11_⟩
         have n12_ : Aside0 (w.heap.size ≤ Ap) := ⟨h12_⟩
         have n13_ : Aside0 (w.heap.size ≤ Ap) := ⟨h13_⟩
         have n14_ : Aside0 (Bu ≠ Ap) := ⟨h14_⟩
         have n15_ : Aside0 (Ap ≠ Bu) := ⟨h15_⟩
         have n16_ : Aside0 (Br ≠ Ap) := ⟨h16_⟩
         have n17_ : Aside0 (Ap ≠ Br) := ⟨h17_⟩
         have n18_ : Aside0 (Bp ≠ Ap) := ⟨h18_⟩
         have n19_ : Aside0 (Ap ≠ Bp) := ⟨h19_⟩
         have n20_ : Aside0 (Ay ≠ Ap) := ⟨h20_⟩
         have n21_ : Aside0 (Ap ≠ Ay) := ⟨h21_⟩
         have n22_ : Aside0 (Below w.heap.size w Dc) := ⟨h22_⟩
         clear Ao
         clear Ar
         clear Ac
         clear Ad
         clear Ae
         clear Ab
         clear Ah
         clear Aj
         clear Ak
         clear Ag
         clear HB
         clear h0_ h1_ h2_ h3_ h4_ h5_ h6_ h7_ h8_ h9_ h10_ h11_ h12_ h13_ h14_ h15_ h16_ h17_ h18_ h19_ h20_ h21_ h22_
         have Au := n0_
         have Ao := n1_
         have Ac := n2_
         have Ad := n3_
         have Ae := n4_
         have Ab := n5_
         have Ar := n6_
         have Ah := n7_
         have Aj := n8_
         have Ak := n9_
         have Ag := n10_
         have Am := n11_
         have C7 := n12_
         have C8 := n13_
         have Bn := n14_
         have Bk := n15_
         have Bm := n16_
         have Bj := n17_
         have Bl := n18_
         have Bi := n19_
         have Az := n20_
         have Bh := n21_
         have HB := n22_
         clear n0_ n1_ n2_ n3_ n4_ n5_ n6_ n7_ n8_ n9_ n10_ n11_ n12_ n13_ n14_ n15_ n16_ n17_ n18_ n19_ n20_ n21_ n22_
         have hHeld : Dc.cell? ⟨Ay, 0, none⟩ = some (.slice Cc Af.length B8) ∧ Dc.cell? (Al.add ((Aa).toNat * 4)) = some (.int .i64 ((rd_T55 Ai Aa).f0)) ∧ Dc.cell? ⟨(Al.add ((Aa).toNat * 4)).block, (Al.add ((Aa).toNat * 4)).off + 1, none⟩ = some (.string ((rd_T55 Ai Aa).f1)) ∧ Dc.cell? ⟨(Al.add ((Aa).toNat * 4)).block, (Al.add ((Aa).toNat * 4)).off + 2, none⟩ = some (.string ((rd_T55 Ai Aa).f2)) ∧ Dc.cell? ⟨(Al.add ((Aa).toNat * 4)).block, (Al.add ((Aa).toNat * 4)).off + 3, none⟩ = some (.string ((rd_T55 Ai Aa).f3)) := hS_
         obtain ⟨B1, Bz, F8⟩ := Kd.R_slice Au.out
         (first | subst F8 | (injection F8 with f1_ f2_ f3_; have f4_ := f1_.symm; have f5_ := f3_.symm; clear f1_ f2_ f3_; subst f4_; subst f5_))
         refine norm_ (a' := ?_) ?_ ?_
         rotate_left
         ·simp only [putAll, Act.put, zA, zB, zC]
          rfl
         refine one_ (i := 10) (N := none) q21_15 rfl rfl (one_of HT_.out (by kernel_rfl)) (by decide) (fun K hK => ?_)
         have hs152 : Dc.cell? ⟨Ap, 0, none⟩ = some (.slice none 0 0) := zv Am
         have hfs152 := blk_frozen Am.out 0
         have hns152_0 := Bn.out
         have hns152_1 := Bm.out
         have hns152_2 := Bl.out
         have hns152_3 := Az.out
         have hms152_0 := Bk.out
         have hms152_1 := Bj.out
         have hms152_2 := Bi.out
         have hms152_3 := Bh.out
         refine skip_ (w1 := ?_) (by rfl) rfl ?_ ?_
         rotate_left
         ·go_simp
          rfl
         refine hK.out _ _ ⟨((cell_far (p := ⟨Ap, _, none⟩) Az.out _).trans (hHeld.1)), ((cell_far (p := ⟨Ap, _, none⟩) (zob Ao Am) _).trans (hHeld.2.1)), ((cell_far (p := ⟨Ap, _, none⟩) (zob Ao Am) _).trans (hHeld.2.2.1)), ((cell_far (p := ⟨Ap, _, none⟩) (zob Ao Am) _).trans (hHeld.2.2.2.1)), ((cell_far (p := ⟨Ap, _, none⟩) (zob Ao Am) _).trans (hHeld.2.2.2.2))⟩ (fun hHeld => ?_)
         clear hK K
         refine zP 11 (some 14) q21_16 HT_ ?_
         refine done_ (done_of HT_.out (by kernel_rfl)) ?_
         try go_wp2
         obtain ⟨Ew, hq_⟩ : ∃ v_, Dc.setCell ⟨Ap, 0, none⟩ (.slice B1 Aw.length Bz) = v_ := ⟨_, rfl⟩
         replace Ao : Aside0 (Kd.R k55 55 Ew w.heap.size (fun _ => True) (.slice (some Al) Ai.length Da) Ai) := ⟨hq_ ▸ (zo (Kd.R_mono (Kd.R_far (p := ⟨Ap, 0, none⟩) (Kd.R_types Ao.out Am.out (by decide)) (fun _ hk => hk.2) (.slice B1 Aw.length Bz)) (fun _ hk => trivial)))⟩
         replace Ar : Aside0 (Kd.R (Kd.int .i64) 3 Ew w.heap.size (fun _ => True) Eg Bw) := ⟨hq_ ▸ (zo (Kd.R_mono (Kd.R_far (p := ⟨Ap, 0, none⟩) (Kd.R_types Ar.out Am.out (by decide)) (fun _ hk => hk.2) (.slice B1 Aw.length Bz)) (fun _ hk => trivial)))⟩
         replace Ac : Aside0 (Kd.R k45 45 Ew w.heap.size (fun k_ => some k_ ≠ (.slice Bf As.length Be : Value).ownBlock ∧ some k_ ≠ (.slice Bd Ax.length Ba : Value).ownBlock ∧ some k_ ≠ (.slice B1 Aw.length Bz : Value).ownBlock) (.slice Bg Aq.length Bb) Aq) := ⟨hq_ ▸ (zo (Kd.R_mono (Kd.R_far (p := ⟨Ap, 0, none⟩) (Kd.R_types Ac.out Am.out (by decide)) (fun _ hk => hk.2) (.slice B1 Aw.length Bz)) (fun _ hk => ⟨hk.1.2.1, ⟨hk.1.2.2, hk.1.1⟩⟩)))⟩
         replace Ad : Aside0 (Kd.R k45 45 Ew w.heap.size (fun k_ => some k_ ≠ (.slice Bg Aq.length Bb : Value).ownBlock ∧ some k_ ≠ (.slice Bd Ax.length Ba : Value).ownBlock ∧ some k_ ≠ (.slice Cc Af.length B8 : Value).ownBlock ∧ some k_ ≠ (.slice B1 Aw.length Bz : Value).ownBlock) (.slice Bf As.length Be) As) := ⟨hq_ ▸ (zo (Kd.R_mono (Kd.R_far (p := ⟨Ap, 0, none⟩) (Kd.R_types Ad.out Am.out (by decide)) (fun _ hk => hk.2) (.slice B1 Aw.length Bz)) (fun _ hk => ⟨hk.1.2.1, ⟨hk.1.2.2.1, ⟨hk.1.2.2.2, hk.1.1⟩⟩⟩)))⟩
         replace Ae : Aside0 (Kd.R k45 45 Ew w.heap.size (fun k_ => some k_ ≠ (.slice Bg Aq.length Bb : Value).ownBlock ∧ some k_ ≠ (.slice Bf As.length Be : Value).ownBlock ∧ some k_ ≠ (.slice Cc Af.length B8 : Value).ownBlock ∧ some k_ ≠ (.slice B1 Aw.length Bz : Value).ownBlock) (.slice Bd Ax.length Ba) Ax) := ⟨hq_ ▸ (zo (Kd.R_mono (Kd.R_far (p := ⟨Ap, 0, none⟩) (Kd.R_types Ae.out Am.out (by decide)) (fun _ hk => hk.2) (.slice B1 Aw.length Bz)) (fun _ hk => ⟨hk.1.2.1, ⟨hk.1.2.2.1, ⟨hk.1.2.2.2, hk.1.1⟩⟩⟩)))⟩
         replace Ab : Aside0 (Kd.R k45 45 Ew w.heap.size (fun k_ => some k_ ≠ (.slice Bf As.length Be : Value).ownBlock ∧ some k_ ≠ (.slice Bd Ax.length Ba : Value).ownBlock ∧ some k_ ≠ (.slice B1 Aw.length Bz : Value).ownBlock) (.slice Cc Af.length B8) Af) := ⟨hq_ ▸ (zo (Kd.R_mono (Kd.R_far (p := ⟨Ap, 0, none⟩) (Kd.R_types Ab.out Am.out (by decide)) (fun _ hk => hk.2) (.slice B1 Aw.length Bz)) (fun _ hk => ⟨hk.1.2.1, ⟨hk.1.2.2, hk.1.1⟩⟩)))⟩
         replace Au : Aside0 (Kd.R k45 45 Ew w.heap.size (fun k_ => some k_ ≠ (.slice Bg Aq.length Bb : Value).ownBlock ∧ some k_ ≠ (.slice Bf As.length Be : Value).ownBlock ∧ some k_ ≠ (.slice Bd Ax.length Ba : Value).ownBlock ∧ some k_ ≠ (.slice Cc Af.length B8 : Value).ownBlock) (.slice B1 Aw.length Bz) Aw) := ⟨hq_ ▸ (zo (Kd.R_mono (Kd.R_far (p := ⟨Ap, 0, none⟩) (Kd.R_types Au.out Am.out (by decide)) (fun _ hk => hk.2) (.slice B1 Aw.length Bz)) (fun _ hk => ⟨hk.1.1, ⟨hk.1.2.1, ⟨hk.1.2.2.1, hk.1.2.2.2⟩⟩⟩)))⟩
         replace Ah := zjq hq_ Ah
         replace Aj := zjq hq_ Aj
         replace Ak := zjq hq_ Ak
         replace Ag := zjq hq_ Ag
         replace Am : Aside0 (Ew.heap[Ap]? = some (.cells #[.slice B1 Aw.length Bz] 29 (0, 0))) := ⟨hq_ ▸ (zj Am)⟩
         replace HB := zwq hq_ HB
         (try rw [hq_])
         clear hq_
         replace Ao := zd3 Ao
         replace Ar := zd3 Ar
         replace Ac := zd3 Ac
         replace Ad := zd3 Ad
         replace Ae := zd3 Ae
         replace Ab := zd3 Ab
         replace Au := zd3 Au
         replace Ah := zd1 Ah
         replace Aj := zd1 Aj
         replace Ak := zd1 Ak
         replace Ag := zd1 Ag
         replace Am := zd1 Am
         replace HB := zd2 HB
         have Eo : 0 ≤ (Aa : Int) := of_decide_eq_true za
         have Ek : Aa < (Ai.length : Int) := of_decide_eq_true za
         obtain ⟨E1, Fi, C0, Cz, Cy, Cx⟩ := at_T55 (Kd.R_reads' Ao.out).2.2 Aa Eo Ek
         obtain rfl : Al = E1 := (by injection Fi)
         replace Eo := eq_true Eo
         replace Ek := eq_true Ek
         refine start_ (n := 12) (S := fun w' => w'.cell? ⟨Ay, 0, none⟩ = some (.slice Cc Af.length B8) ∧ w'.cell? (Al.add ((Aa).toNat * 4)) = some (.int .i64 ((rd_T55 Ai Aa).f0)) ∧ w'.cell? ⟨(Al.add ((Aa).toNat * 4)).block, (Al.add ((Aa).toNat * 4)).off + 1, none⟩ = some (.string ((rd_T55 Ai Aa).f1)) ∧ w'.cell? ⟨(Al.add ((Aa).toNat * 4)).block, (Al.add ((Aa).toNat * 4)).off + 2, none⟩ = some (.string ((rd_T55 Ai Aa).f2)) ∧ w'.cell? ⟨(Al.add ((Aa).toNat * 4)).block, (Al.add ((Aa).toNat * 4)).off + 3, none⟩ = some (.string ((rd_T55 Ai Aa).f3))) (ds := []) q21_0 (by kernel_rfl) rfl rfl ⟨zv Ag, C0, Cz, Cy, Cx⟩ (fun hHeld => ?_); refine with_tabW laws_FnActs.tab15 laws_FnActs.bits15 (fun HT_ HW_ => ?_)
         generalize Ew.drew = w154 at Ao Ar Ac Ad Ae Ab Au Ah Aj Ak Ag Am HB C0 Cz Cy Cx hHeld ⊢
         refine zP 1 (some 72) q21_1 HT_ ?_
         refine zP 2 (some 73) q21_2 HT_ ?_
         refine zP 3 (some 74) q21_3 HT_ ?_
         refine zP 4 (some 75) q21_17 HT_ ?_
         refine zT 0 (some 71) q21_5 HT_ HW_ hHeld ?_
         refine zT 5 (some 76) q21_7 HT_ HW_ hHeld ?_
         refine one_ (i := 6) (N := some 77) q21_9 rfl rfl (one_of HT_.out (by kernel_rfl)) (by decide) (fun K hK => ?_)
         refine zH Try.func18 #[.agg #[.slice Cc Af.length B8], .string ((rd_T55 Ai Aa).f1)] ?_
         with_reducible refine (impl_FileAt.calls _ _ Af ((rd_T55 Ai Aa).f1) Ds Gi _ ?side1 ?side2 Is.out).mono ?_
         (case side1 => exact zI (Kd.R_reads' Ab.out).2.2)
         (case side2 => exact (Kd.R_reads' Ab.out).2.1)
         rintro e H9 ⟨rfl, hb⟩
         have HS1_ := zhs hb hHeld.2.1
         have HS2_ := zhs hb hHeld.2.2.1
         have HS3_ := zhs hb hHeld.2.2.2.1
         have HS4_ := zhs hb hHeld.2.2.2.2
         refine ⟨_, rfl, ?_⟩
         replace Ao := zy Ao hb
         replace Ar := zy Ar hb
         replace Ac := zy Ac hb
         replace Ad := zy Ad hb
         replace Ae := zy Ae hb
         replace Ab := zy Ab hb
         replace Au := zy Au hb
         replace Ah := zb Ah hb
         replace Aj := zb Aj hb
         replace Ak := zb Ak hb
         replace Ag := zb Ag hb
         replace Am := zb Am hb
         replace HB := zs HB hb
         (try clear hb)
         (try clear hb2)
         (try clear hk)
         (try clear hi)
         refine hK.out _ _ ⟨zv Ag, HS1_, HS2_, HS3_, HS4_⟩ (fun hHeld => ?_)
         clear hK K
         refine zN ?_
         refine zP 7 (some 70) q21_10 HT_ ?_
         refine zP 8 (some 78) q21_11 HT_ ?_
         refine zP 9 (some 79) q21_6 HT_ ?_
         refine zP 10 (some 15) q21_15 HT_ ?_
         refine zP 11 (some 16) q21_16 HT_ ?_
         refine done_ (done_of HT_.out (by kernel_rfl)) ?_
         try go_wp2
         replace Ao := zd3 Ao
         replace Ar := zd3 Ar
         replace Ac := zd3 Ac
         replace Ad := zd3 Ad
         replace Ae := zd3 Ae
         replace Ab := zd3 Ab
         replace Au := zd3 Au
         replace Ah := zd1 Ah
         replace Aj := zd1 Aj
         replace Ak := zd1 Ak
         replace Ag := zd1 Ag
         replace Am := zd1 Am
         replace HB := zd2 HB
         have En : 0 ≤ (Aa : Int) := of_decide_eq_true za
         have Ej : Aa < (Ai.length : Int) := of_decide_eq_true za
         obtain ⟨E0, Fh, Cw, Cv, Cu, Ct⟩ := at_T55 (Kd.R_reads' Ao.out).2.2 Aa En Ej
         obtain rfl : Al = E0 := (by injection Fh)
         replace En := eq_true En
         replace Ej := eq_true Ej
         refine start_ (n := 12) (S := fun w' => w'.cell? ⟨Ap, 0, none⟩ = some (.slice B1 Aw.length Bz) ∧ w'.cell? (Al.add ((Aa).toNat * 4)) = some (.int .i64 ((rd_T55 Ai Aa).f0)) ∧ w'.cell? ⟨(Al.add ((Aa).toNat * 4)).block, (Al.add ((Aa).toNat * 4)).off + 1, none⟩ = some (.string ((rd_T55 Ai Aa).f1)) ∧ w'.cell? ⟨(Al.add ((Aa).toNat * 4)).block, (Al.add ((Aa).toNat * 4)).off + 2, none⟩ = some (.string ((rd_T55 Ai Aa).f2)) ∧ w'.cell? ⟨(Al.add ((Aa).toNat * 4)).block, (Al.add ((Aa).toNat * 4)).off + 3, none⟩ = some (.string ((rd_T55 Ai Aa).f3))) (ds := []) q21_0 (by kernel_rfl) rfl rfl ⟨zv Am, Cw, Cv, Cu, Ct⟩ (fun hHeld => ?_); refine with_tabW laws_FnActs.tab16 laws_FnActs.bits16 (fun HT_ HW_ => ?_)
         generalize H9.drew = w156 at Ao Ar Ac Ad Ae Ab Au Ah Aj Ak Ag Am HB Cw Cv Cu Ct hHeld ⊢
         refine zP 1 (some 82) q21_1 HT_ ?_
         refine zP 2 (some 83) q21_2 HT_ ?_
         refine zP 3 (some 84) q21_3 HT_ ?_
         refine zP 4 (some 85) q21_17 HT_ ?_
         refine zT 0 (some 81) q21_5 HT_ HW_ hHeld ?_
         refine zT 5 (some 86) q21_7 HT_ HW_ hHeld ?_
         refine one_ (i := 6) (N := some 87) q21_9 rfl rfl (one_of HT_.out (by kernel_rfl)) (by decide) (fun K hK => ?_)
         refine zH Try.func18 #[.agg #[.slice B1 Aw.length Bz], .string ((rd_T55 Ai Aa).f1)] ?_
         with_reducible refine (impl_FileAt.calls _ _ Aw ((rd_T55 Ai Aa).f1) Ey Ff _ ?side1 ?side2 Ir.out).mono ?_
         (case side1 => exact zI (Kd.R_reads' Au.out).2.2)
         (case side2 => exact (Kd.R_reads' Au.out).2.1)
         rintro e w157 ⟨rfl, hb⟩
         have HS1_ := zhs hb hHeld.2.1
         have HS2_ := zhs hb hHeld.2.2.1
         have HS3_ := zhs hb hHeld.2.2.2.1
         have HS4_ := zhs hb hHeld.2.2.2.2
         refine ⟨_, rfl, ?_⟩
         replace Ao := zy Ao hb
         replace Ar := zy Ar hb
         replace Ac := zy Ac hb
         replace Ad := zy Ad hb
         replace Ae := zy Ae hb
         replace Ab := zy Ab hb
         replace Au := zy Au hb
         replace Ah := zb Ah hb
         replace Aj := zb Aj hb
         replace Ak := zb Ak hb
         replace Ag := zb Ag hb
         replace Am := zb Am hb
         replace HB := zs HB hb
         (try clear hb)
         (try clear hb2)
         (try clear hk)
         (try clear hi)
         refine hK.out _ _ ⟨zv Am, HS1_, HS2_, HS3_, HS4_⟩ (fun hHeld => ?_)
         clear hK K
         refine zN ?_
         refine zP 7 (some 80) q21_10 HT_ ?_
         refine zP 8 (some 88) q21_11 HT_ ?_
         refine zP 9 (some 89) q21_6 HT_ ?_
         refine zP 10 (some 17) q21_15 HT_ ?_
         refine zP 11 (some 18) q21_16 HT_ ?_
         refine done_ (done_of HT_.out (by kernel_rfl)) ?_
         have Em : 0 ≤ (Aa : Int) := of_decide_eq_true za
         have Ei : Aa < (Ai.length : Int) := of_decide_eq_true za
         obtain ⟨Ez, Fg, Fc, Fb, Fa, E9⟩ := at_T55 (Kd.R_reads' Ao.out).2.2 Aa Em Ei
         obtain rfl : Al = Ez := (by injection Fg)
         replace Em := eq_true Em
         replace Ei := eq_true Ei
         have E5 : 0 ≤ (Aa : Int) := of_decide_eq_true za
         have E4 : Aa < (Ai.length : Int) := of_decide_eq_true za
         obtain ⟨Fn, Gp, Fs, Fr, Fq, Fp⟩ := at_T55 (Kd.R_reads' Ao.out).2.2 Aa E5 E4
         obtain rfl : Al = Fn := (by injection Gp)
         replace E5 := eq_true E5
         replace E4 := eq_true E4
         have hnb158 := Bk.out
         have hnc158 := Bn.out
         have hnb159 := Bj.out
         have hnc159 := Bm.out
         have hnb160 := Bi.out
         have hnc160 := Bl.out
         have hnb161 := Bh.out
         have hnc161 := Az.out
         obtain ⟨_, _⟩ := zc1 Am
         have hnb163 := Cp.out
         have hnc163 := Cq.out
         have hnb164 := Di.out
         have hnc164 := Dl.out
         have hnb165 := Dh.out
         have hnc165 := Dj.out
         obtain ⟨_, _⟩ := zc1 Ag
         try go_wp2
         go_roundg k2
         case measure => have := HJ6.out; have := G1.out; omega
         case rel => exact ⟨(wrap64 (Aa + 1)), (Aw), (.slice B1 Aw.length Bz), zf, H', ⟨by have := HJ6.out; have := G1.out; omega⟩, ⟨zo (Kd.R_mono (Kd.R_far (p := ⟨Ay, 0, none⟩) (Kd.R_types Ao.out Ag.out (by decide)) (fun _ hk => hk.2) (.slice B1 Aw.length Bz)) (fun _ hk => trivial))⟩, ⟨zo (Kd.R_mono (Kd.R_far (p := ⟨Ay, 0, none⟩) (Kd.R_types Ar.out Ag.out (by decide)) (fun _ hk => hk.2) (.slice B1 Aw.length Bz)) (fun _ hk => trivial))⟩, ⟨zo (Kd.R_mono (Kd.R_far (p := ⟨Ay, 0, none⟩) (Kd.R_types Ac.out Ag.out (by decide)) (fun _ hk => hk.2) (.slice B1 Aw.length Bz)) (fun _ hk => ⟨hk.1.1, hk.1.2.1⟩))⟩, ⟨zo (Kd.R_mono (Kd.R_far (p := ⟨Ay, 0, none⟩) (Kd.R_types Ad.out Ag.out (by decide)) (fun _ hk => hk.2) (.slice B1 Aw.length Bz)) (fun _ hk => ⟨hk.1.1, ⟨hk.1.2.1, hk.1.2.2.2⟩⟩))⟩, ⟨zo (Kd.R_mono (Kd.R_far (p := ⟨Ay, 0, none⟩) (Kd.R_types Ae.out Ag.out (by decide)) (fun _ hk => hk.2) (.slice B1 Aw.length Bz)) (fun _ hk => ⟨hk.1.1, ⟨hk.1.2.1, hk.1.2.2.2⟩⟩))⟩, ⟨zo (Kd.R_mono (Kd.R_far (p := ⟨Ay, 0, none⟩) (Kd.R_types Au.out Ag.out (by decide)) (fun _ hk => hk.2) (.slice B1 Aw.length Bz)) (fun _ hk => ⟨hk.1.2.1, hk.1.2.2.1⟩))⟩, ⟨zkf Ah⟩, ⟨zkf Aj⟩, ⟨zkf Ak⟩, ⟨zj Ag⟩, ⟨zw HB⟩⟩
        replace H6 := Bool.eq_false_iff.mpr H6
        subst H6
        rw [if_neg (show ¬ (false = true) by decide)] at H
        obtain rfl := Option.some.inj H
        exact absurd HR_.out (by decide)
       rw [if_neg H7] at H
       exact absurd H (by simp)
      rw [if_neg H8] at H
      exact absurd H (by simp)
     rw [if_neg G0] at H
     have Hp := decide_eq_false G0
     clear G0
     replace H := Option.bind_eq_some_iff.mp H
     obtain ⟨⟨Bq, Ef⟩, Gh, H⟩ := H
     replace H : ((spec_CutActs.f k2 Aq Ai Cm Bw).bind fun Ga => (if (Ef == Ga.2) = true then ((laws_sameDisk.f k2 Bq Ga.1).bind fun Fe => (if Fe = true then (if Cf = 0 then (some true) else ((laws_sameDisk.f k2 Af As).bind fun Fd => (some Fd))) else (some false))) else (some false))) = some r := H
     have H4 := Aside0.mk Gh
     clear Gh
     replace H := Option.bind_eq_some_iff.mp H
     obtain ⟨⟨Ce, Eh⟩, Gg, H⟩ := H
     replace H : (if (Ef == Eh) = true then ((laws_sameDisk.f k2 Bq Ce).bind fun Fe => (if Fe = true then (if Cf = 0 then (some true) else ((laws_sameDisk.f k2 Af As).bind fun Fd => (some Fd))) else (some false))) else (some false)) = some r := H
     have H2 := Aside0.mk Gg
     clear Gg
     by_cases Er : (Ef == Eh) = true
     ·rw [if_pos Er] at H
      have Gx : (Ef == Eh) = true := Er
      (try (have Gw : decide (Ef = Eh) = true := by simpa using Er))
      (try (have Gv : (Ef == Eh) = true := by simpa using Er))
      clear Er
      replace H := Option.bind_eq_some_iff.mp H
      obtain ⟨Fe, Gf, H⟩ := H
      have H1 := Aside0.mk Gf
      clear Gf
      by_cases Fu : Fe = true
      ·subst Fu
       rw [if_pos rfl] at H
       by_cases E6 : Cf = 0
       ·rw [if_pos E6] at H
        have Gu : (Cf == 0) = true := beq_iff_eq.mpr E6
        have Gt : (Cf != 0) = false := bne_eq_false_iff_eq.mpr E6
        clear E6
        obtain rfl := Option.some.inj H
        have hnb180 := Do.out
        have hnc180 := Dm.out
        have hnb181 := Dn.out
        have hnc181 := Dk.out
        have hnb182 := Cq.out
        have hnc182 := Cp.out
        obtain ⟨_, _⟩ := zc1 Ah
        obtain ⟨Gd, Fl, Hf⟩ := Kd.R_slice Ar.out
        subst Hf
        go_wp2_with (first | ((with_reducible refine gate_callee (f := 45) rfl ?_); refine zG (some 128) Try.func45 #[.agg #[.slice Bg Aq.length Bb], .slice E2 Ai.length Da, .int .i64 Cm, .slice Gd Bw.length Fl] ?_; (with_reducible refine (impl_CutActs.calls k2 _ _ Aq _ _ Ai Cm _ _ Bw Bq Ef _ ?side1 ?side2 ?side3 ?side4 ?side5 ?side6 H4.out).mono ?_); (case side1 => exact zI (Kd.R_reads' Ac.out).2.2); (case side2 => exact (Kd.R_reads' Ac.out).2.1); (case side3 => exact zI (Kd.R_reads' Ao.out).2.2); (case side4 => exact (Kd.R_reads' Ao.out).2.1); (case side5 => exact zI (Kd.R_reads' Ar.out).2.2); (case side6 => exact (Kd.R_reads' Ar.out).2.1); rintro e w185 ⟨Ih, rfl, Bt, hb⟩; refine ⟨_, rfl, ?_⟩; replace Ao := zy Ao hb; replace Ar := zy Ar hb; have Bv := Aside0.mk (Kd.R_lower (Kd.R_new' (Kd.R_new' (Kd.R_new' (Kd.R_new' Bt (Kd.R_lt (zo Ac.out))) (Kd.R_lt (zo Ad.out))) (Kd.R_lt (zo Ae.out))) (Kd.R_lt (zo Ab.out))) (below_size (zw HB))); replace Ac := Aside0.mk (Kd.R_elder' (zo Ac.out) (Kd.R_base Bt) hb); replace Ad := Aside0.mk (Kd.R_elder' (zo Ad.out) (Kd.R_base Bt) hb); replace Ae := Aside0.mk (Kd.R_elder' (zo Ae.out) (Kd.R_base Bt) hb); replace Ab := Aside0.mk (Kd.R_elder' (zo Ab.out) (Kd.R_base Bt) hb); replace Ah := zb Ah hb; replace Aj := zb Aj hb; replace Ak := zb Ak hb; replace Ag := zb Ag hb; replace HB := zs HB hb; clear Bt hb) | ((with_reducible refine gate_dst (N := 19) rfl ?_); refine zx (N := 19) (cs := #[.slice none 0 0]) (t := 29) ?_; intro Bo hg w186 hbox hb; replace Ao := zy Ao hb; replace Ar := zy Ar hb; replace Ac := zy Ac hb; replace Ad := zy Ad hb; replace Ae := zy Ae hb; replace Ab := zy Ab hb; replace Bv := zy Bv hb; have Bc := Aside0.mk (hbox); have Hu := zg HB hg; have Hw := zg HB hg; replace HB := zs HB hb; have Ed := zl Ah hg; have D3 := zr Ah hg; replace Ah := zb Ah hb; have Ea := zl Aj hg; have D2 := zr Aj hg; replace Aj := zb Aj hb; have D7 := zl Ak hg; have D1 := zr Ak hg; replace Ak := zb Ak hb; have D5 := zl Ag hg; have D0 := zr Ag hg; replace Ag := zb Ag hb; clear hb hbox hg; obtain ⟨Cl, Ci, He⟩ := Kd.R_slice Bv.out; subst He; have hnb188 := D3.out; have hnc188 := Ed.out; have hnb189 := D2.out; have hnc189 := Ea.out; have hnb190 := D1.out; have hnc190 := D7.out; have hnb191 := D0.out; have hnc191 := D5.out; obtain ⟨_, _⟩ := zc1 Bc; obtain ⟨_, _⟩ := zc1 Ah) | ((with_reducible refine gate_callee (f := 46) rfl ?_); refine zG (some 136) Try.func46 #[.agg #[.slice Bg Aq.length Bb], .slice E2 Ai.length Da, .int .i64 Cm, .slice Gd Bw.length Fl] ?_; (with_reducible refine (spec_CutActs.calls k2 _ _ Aq _ _ Ai Cm _ _ Bw Ce Eh _ ?side1 ?side2 ?side3 ?side4 ?side5 ?side6 H2.out).mono ?_); (case side1 => refine (Kd.R_reads' (e := 45) (base := w.heap.size) (ok := fun k_ => ((some k_ ≠ (.slice Bf As.length Be : Value).ownBlock ∧ some k_ ≠ (.slice Bd Ax.length Ba : Value).ownBlock) ∧ some k_ ≠ (.slice Cl Bq.length Ci : Value).ownBlock)) (n := Aq.length) (c := Bb) ?_).2.2; exact (zo ((Kd.R_mono (Kd.R_far (p := ⟨Bo, 0, none⟩) (Kd.R_types Ac.out Bc.out (by decide)) (fun _ hk => hk.2) (.slice Cl Bq.length Ci)) (fun _ h_ => h_.1))))); (case side2 => exact (Kd.R_reads' Ac.out).2.1); (case side3 => refine (Kd.R_reads' (e := 55) (base := w.heap.size) (ok := fun k_ => True) (n := Ai.length) (c := Da) ?_).2.2; exact (zo ((Kd.R_mono (Kd.R_far (p := ⟨Bo, 0, none⟩) (Kd.R_types Ao.out Bc.out (by decide)) (fun _ hk => hk.2) (.slice Cl Bq.length Ci)) (fun _ h_ => h_.1))))); (case side4 => exact (Kd.R_reads' Ao.out).2.1); (case side5 => refine (Kd.R_reads' (e := 3) (base := w.heap.size) (ok := fun k_ => True) (n := Bw.length) (c := Fl) ?_).2.2; exact (zo ((Kd.R_mono (Kd.R_far (p := ⟨Bo, 0, none⟩) (Kd.R_types Ar.out Bc.out (by decide)) (fun _ hk => hk.2) (.slice Cl Bq.length Ci)) (fun _ h_ => h_.1))))); (case side6 => exact (Kd.R_reads' Ar.out).2.1); rintro e w194 ⟨Ig, rfl, Bt, hb⟩; refine ⟨_, rfl, ?_⟩; replace Ao := Aside0.mk (Kd.R_below (zo ((Kd.R_mono (Kd.R_far (p := ⟨Bo, 0, none⟩) (Kd.R_types Ao.out Bc.out (by decide)) (fun _ hk => hk.2) (.slice Cl Bq.length Ci)) (fun _ h_ => h_.1)))) hb); replace Ar := Aside0.mk (Kd.R_below (zo ((Kd.R_mono (Kd.R_far (p := ⟨Bo, 0, none⟩) (Kd.R_types Ar.out Bc.out (by decide)) (fun _ hk => hk.2) (.slice Cl Bq.length Ci)) (fun _ h_ => h_.1)))) hb); have Cn := Aside0.mk (Kd.R_lower (Kd.R_new' (Kd.R_new' (Kd.R_new' (Kd.R_new' (Kd.R_new' Bt (Kd.R_lt (zo ((Kd.R_mono (Kd.R_far (p := ⟨Bo, 0, none⟩) (Kd.R_types Ac.out Bc.out (by decide)) (fun _ hk => hk.2) (.slice Cl Bq.length Ci)) (fun _ h_ => h_.1)))))) (Kd.R_lt (zo ((Kd.R_mono (Kd.R_far (p := ⟨Bo, 0, none⟩) (Kd.R_types Ad.out Bc.out (by decide)) (fun _ hk => hk.2) (.slice Cl Bq.length Ci)) (fun _ h_ => h_.1)))))) (Kd.R_lt (zo ((Kd.R_mono (Kd.R_far (p := ⟨Bo, 0, none⟩) (Kd.R_types Ae.out Bc.out (by decide)) (fun _ hk => hk.2) (.slice Cl Bq.length Ci)) (fun _ h_ => h_.1)))))) (Kd.R_lt (zo ((Kd.R_mono (Kd.R_far (p := ⟨Bo, 0, none⟩) (Kd.R_types Ab.out Bc.out (by decide)) (fun _ hk => hk.2) (.slice Cl Bq.length Ci)) (fun _ h_ => h_.1)))))) (Kd.R_lt (zo ((Kd.R_mono (Kd.R_far (p := ⟨Bo, 0, none⟩) (Kd.R_types Bv.out Bc.out (by decide)) (fun _ hk => hk.2) (.slice Cl Bq.length Ci)) (fun _ h_ => h_.1)))))) (below_size (zw HB))); replace Ac := Aside0.mk (Kd.R_elder' (zo ((Kd.R_mono (Kd.R_far (p := ⟨Bo, 0, none⟩) (Kd.R_types Ac.out Bc.out (by decide)) (fun _ hk => hk.2) (.slice Cl Bq.length Ci)) (fun _ h_ => h_.1)))) (Kd.R_base Bt) hb); replace Ad := Aside0.mk (Kd.R_elder' (zo ((Kd.R_mono (Kd.R_far (p := ⟨Bo, 0, none⟩) (Kd.R_types Ad.out Bc.out (by decide)) (fun _ hk => hk.2) (.slice Cl Bq.length Ci)) (fun _ h_ => h_.1)))) (Kd.R_base Bt) hb); replace Ae := Aside0.mk (Kd.R_elder' (zo ((Kd.R_mono (Kd.R_far (p := ⟨Bo, 0, none⟩) (Kd.R_types Ae.out Bc.out (by decide)) (fun _ hk => hk.2) (.slice Cl Bq.length Ci)) (fun _ h_ => h_.1)))) (Kd.R_base Bt) hb); replace Ab := Aside0.mk (Kd.R_elder' (zo ((Kd.R_mono (Kd.R_far (p := ⟨Bo, 0, none⟩) (Kd.R_types Ab.out Bc.out (by decide)) (fun _ hk => hk.2) (.slice Cl Bq.length Ci)) (fun _ h_ => h_.1)))) (Kd.R_base Bt) hb); replace Bv := Aside0.mk (Kd.R_elder' (zo ((Kd.R_mono (Kd.R_far (p := ⟨Bo, 0, none⟩) (Kd.R_types Bv.out Bc.out (by decide)) (fun _ hk => hk.2) (.slice Cl Bq.length Ci)) (fun _ h_ => h_.1)))) (Kd.R_base Bt) hb); replace Ah := zbf Ah hb; replace Aj := zbf Aj hb; replace Ak := zbf Ak hb; replace Ag := zbf Ag hb; replace Bc := Aside0.mk (blk_below (g := Bo) (o := .cells #[.slice Cl Bq.length Ci] 29 (0, 0)) (zj Bc) hb); replace HB := zs HB hb; clear Bt hb) | ((with_reducible refine gate_dst (N := 21) rfl ?_); refine zx (N := 21) (cs := #[.slice none 0 0]) (t := 29) ?_; intro Bx hg w195 hbox hb; replace Ao := zy Ao hb; replace Ar := zy Ar hb; replace Ac := zy Ac hb; replace Ad := zy Ad hb; replace Ae := zy Ae hb; replace Ab := zy Ab hb; replace Bv := zy Bv hb; replace Cn := zy Cn hb; have Bs := Aside0.mk (hbox); have Ht := zg HB hg; have Hv := zg HB hg; replace HB := zs HB hb; have Ec := zl Ah hg; have Dy := zr Ah hg; replace Ah := zb Ah hb; have D9 := zl Aj hg; have Dx := zr Aj hg; replace Aj := zb Aj hb; have D6 := zl Ak hg; have Dw := zr Ak hg; replace Ak := zb Ak hb; have D4 := zl Ag hg; have Dv := zr Ag hg; replace Ag := zb Ag hb; have Dz := zl Bc hg; have Du := zr Bc hg; replace Bc := zb Bc hb; clear hb hbox hg; obtain ⟨Dr, Df, Hd⟩ := Kd.R_slice Cn.out; subst Hd; have hnb197 := Dy.out; have hnc197 := Ec.out; have hnb198 := Dx.out; have hnc198 := D9.out; have hnb199 := Dw.out; have hnc199 := D6.out; have hnb200 := Dv.out; have hnc200 := D4.out; have hnb201 := Du.out; have hnc201 := Dz.out; obtain ⟨_, _⟩ := zc1 Bs; obtain ⟨_, _⟩ := zc1 Bc) | (go_at_call 26; (with_reducible refine (laws_sameDisk.calls k2 _ _ Bq _ _ Ce true _ ?side1 ?side2 ?side3 ?side4 H1.out).mono ?_); (case side1 => refine (Kd.R_reads' (e := 45) (base := w.heap.size) (ok := fun k_ => (((((True ∧ some k_ ≠ (.slice Bg Aq.length Bb : Value).ownBlock) ∧ some k_ ≠ (.slice Bf As.length Be : Value).ownBlock) ∧ some k_ ≠ (.slice Bd Ax.length Ba : Value).ownBlock) ∧ some k_ ≠ (Co : Value).ownBlock) ∧ some k_ ≠ (.slice Dr Ce.length Df : Value).ownBlock)) (n := Bq.length) (c := Ci) ?_).2.2; exact (zo ((Kd.R_mono (Kd.R_far (p := ⟨Bx, 0, none⟩) (Kd.R_types Bv.out Bs.out (by decide)) (fun _ hk => hk.2) (.slice Dr Ce.length Df)) (fun _ h_ => h_.1))))); (case side2 => exact (Kd.R_reads' Bv.out).2.1); (case side3 => refine (Kd.R_reads' (e := 45) (base := w.heap.size) (ok := fun k_ => (((((True ∧ some k_ ≠ (.slice Bg Aq.length Bb : Value).ownBlock) ∧ some k_ ≠ (.slice Bf As.length Be : Value).ownBlock) ∧ some k_ ≠ (.slice Bd Ax.length Ba : Value).ownBlock) ∧ some k_ ≠ (Co : Value).ownBlock) ∧ some k_ ≠ (.slice Cl Bq.length Ci : Value).ownBlock)) (n := Ce.length) (c := Df) ?_).2.2; exact (zo ((Kd.R_mono (Kd.R_far (p := ⟨Bx, 0, none⟩) (Kd.R_types Cn.out Bs.out (by decide)) (fun _ hk => hk.2) (.slice Dr Ce.length Df)) (fun _ h_ => h_.1))))); (case side4 => exact (Kd.R_reads' Cn.out).2.1); rintro e w204 ⟨rfl, hb⟩; replace Ao := Aside0.mk (Kd.R_below (zo ((Kd.R_mono (Kd.R_far (p := ⟨Bx, 0, none⟩) (Kd.R_types Ao.out Bs.out (by decide)) (fun _ hk => hk.2) (.slice Dr Ce.length Df)) (fun _ h_ => h_.1)))) hb); replace Ar := Aside0.mk (Kd.R_below (zo ((Kd.R_mono (Kd.R_far (p := ⟨Bx, 0, none⟩) (Kd.R_types Ar.out Bs.out (by decide)) (fun _ hk => hk.2) (.slice Dr Ce.length Df)) (fun _ h_ => h_.1)))) hb); replace Ac := Aside0.mk (Kd.R_below (zo ((Kd.R_mono (Kd.R_far (p := ⟨Bx, 0, none⟩) (Kd.R_types Ac.out Bs.out (by decide)) (fun _ hk => hk.2) (.slice Dr Ce.length Df)) (fun _ h_ => h_.1)))) hb); replace Ad := Aside0.mk (Kd.R_below (zo ((Kd.R_mono (Kd.R_far (p := ⟨Bx, 0, none⟩) (Kd.R_types Ad.out Bs.out (by decide)) (fun _ hk => hk.2) (.slice Dr Ce.length Df)) (fun _ h_ => h_.1)))) hb); replace Ae := Aside0.mk (Kd.R_below (zo ((Kd.R_mono (Kd.R_far (p := ⟨Bx, 0, none⟩) (Kd.R_types Ae.out Bs.out (by decide)) (fun _ hk => hk.2) (.slice Dr Ce.length Df)) (fun _ h_ => h_.1)))) hb); replace Ab := Aside0.mk (Kd.R_below (zo ((Kd.R_mono (Kd.R_far (p := ⟨Bx, 0, none⟩) (Kd.R_types Ab.out Bs.out (by decide)) (fun _ hk => hk.2) (.slice Dr Ce.length Df)) (fun _ h_ => h_.1)))) hb); replace Bv := Aside0.mk (Kd.R_below (zo ((Kd.R_mono (Kd.R_far (p := ⟨Bx, 0, none⟩) (Kd.R_types Bv.out Bs.out (by decide)) (fun _ hk => hk.2) (.slice Dr Ce.length Df)) (fun _ h_ => h_.1)))) hb); replace Cn := Aside0.mk (Kd.R_below (zo ((Kd.R_mono (Kd.R_far (p := ⟨Bx, 0, none⟩) (Kd.R_types Cn.out Bs.out (by decide)) (fun _ hk => hk.2) (.slice Dr Ce.length Df)) (fun _ h_ => h_.1)))) hb); replace Ah := zbf Ah hb; replace Aj := zbf Aj hb; replace Ak := zbf Ak hb; replace Ag := zbf Ag hb; replace Bc := zbf Bc hb; replace Bs := Aside0.mk (blk_below (g := Bx) (o := .cells #[.slice Dr Ce.length Df] 29 (0, 0)) (zj Bs) hb); replace HB := zs HB hb; clear hb))
        go_ret
        exact ⟨ze, zw HB⟩
       rw [if_neg E6] at H
       have Gu : (Cf == 0) = false := beq_eq_false_iff_ne.mpr E6
       have Gt : (Cf != 0) = true := bne_iff_ne.mpr E6
       replace H := Option.bind_eq_some_iff.mp H
       obtain ⟨Fd, Ge, H⟩ := H
       have Iu := Aside0.mk Ge
       clear Ge
       obtain rfl := Option.some.inj H
       have hnb206 := Do.out
       have hnc206 := Dm.out
       have hnb207 := Dn.out
       have hnc207 := Dk.out
       have hnb208 := Cq.out
       have hnc208 := Cp.out
       obtain ⟨_, _⟩ := zc1 Ah
       obtain ⟨Gc, Fk, Hc⟩ := Kd.R_slice Ar.out
       subst Hc
       go_wp2_with (first | ((with_reducible refine gate_callee (f := 45) rfl ?_); refine zG (some 128) Try.func45 #[.agg #[.slice Bg Aq.length Bb], .slice E2 Ai.length Da, .int .i64 Cm, .slice Gc Bw.length Fk] ?_; (with_reducible refine (impl_CutActs.calls k2 _ _ Aq _ _ Ai Cm _ _ Bw Bq Ef _ ?side1 ?side2 ?side3 ?side4 ?side5 ?side6 H4.out).mono ?_); (case side1 => exact zI (Kd.R_reads' Ac.out).2.2); (case side2 => exact (Kd.R_reads' Ac.out).2.1); (case side3 => exact zI (Kd.R_reads' Ao.out).2.2); (case side4 => exact (Kd.R_reads' Ao.out).2.1); (case side5 => exact zI (Kd.R_reads' Ar.out).2.2); (case side6 => exact (Kd.R_reads' Ar.out).2.1); rintro e w211 ⟨Ih, rfl, Bt, hb⟩; refine ⟨_, rfl, ?_⟩; replace Ao := zy Ao hb; replace Ar := zy Ar hb; have Bv := Aside0.mk (Kd.R_lower (Kd.R_new' (Kd.R_new' (Kd.R_new' (Kd.R_new' Bt (Kd.R_lt (zo Ac.out))) (Kd.R_lt (zo Ad.out))) (Kd.R_lt (zo Ae.out))) (Kd.R_lt (zo Ab.out))) (below_size (zw HB))); replace Ac := Aside0.mk (Kd.R_elder' (zo Ac.out) (Kd.R_base Bt) hb); replace Ad := Aside0.mk (Kd.R_elder' (zo Ad.out) (Kd.R_base Bt) hb); replace Ae := Aside0.mk (Kd.R_elder' (zo Ae.out) (Kd.R_base Bt) hb); replace Ab := Aside0.mk (Kd.R_elder' (zo Ab.out) (Kd.R_base Bt) hb); replace Ah := zb Ah hb; replace Aj := zb Aj hb; replace Ak := zb Ak hb; replace Ag := zb Ag hb; replace HB := zs HB hb; clear Bt hb) | ((with_reducible refine gate_dst (N := 19) rfl ?_); refine zx (N := 19) (cs := #[.slice none 0 0]) (t := 29) ?_; intro Bo hg w212 hbox hb; replace Ao := zy Ao hb; replace Ar := zy Ar hb; replace Ac := zy Ac hb; replace Ad := zy Ad hb; replace Ae := zy Ae hb; replace Ab := zy Ab hb; replace Bv := zy Bv hb; have Bc := Aside0.mk (hbox); have Hu := zg HB hg; have Hw := zg HB hg; replace HB := zs HB hb; have Ed := zl Ah hg; have D3 := zr Ah hg; replace Ah := zb Ah hb; have Ea := zl Aj hg; have D2 := zr Aj hg; replace Aj := zb Aj hb; have D7 := zl Ak hg; have D1 := zr Ak hg; replace Ak := zb Ak hb; have D5 := zl Ag hg; have D0 := zr Ag hg; replace Ag := zb Ag hb; clear hb hbox hg; obtain ⟨Ck, Ch, Hb⟩ := Kd.R_slice Bv.out; subst Hb; have hnb214 := D3.out; have hnc214 := Ed.out; have hnb215 := D2.out; have hnc215 := Ea.out; have hnb216 := D1.out; have hnc216 := D7.out; have hnb217 := D0.out; have hnc217 := D5.out; obtain ⟨_, _⟩ := zc1 Bc; obtain ⟨_, _⟩ := zc1 Ah) | ((with_reducible refine gate_callee (f := 46) rfl ?_); refine zG (some 136) Try.func46 #[.agg #[.slice Bg Aq.length Bb], .slice E2 Ai.length Da, .int .i64 Cm, .slice Gc Bw.length Fk] ?_; (with_reducible refine (spec_CutActs.calls k2 _ _ Aq _ _ Ai Cm _ _ Bw Ce Eh _ ?side1 ?side2 ?side3 ?side4 ?side5 ?side6 H2.out).mono ?_); (case side1 => refine (Kd.R_reads' (e := 45) (base := w.heap.size) (ok := fun k_ => ((some k_ ≠ (.slice Bf As.length Be : Value).ownBlock ∧ some k_ ≠ (.slice Bd Ax.length Ba : Value).ownBlock) ∧ some k_ ≠ (.slice Ck Bq.length Ch : Value).ownBlock)) (n := Aq.length) (c := Bb) ?_).2.2; exact (zo ((Kd.R_mono (Kd.R_far (p := ⟨Bo, 0, none⟩) (Kd.R_types Ac.out Bc.out (by decide)) (fun _ hk => hk.2) (.slice Ck Bq.length Ch)) (fun _ h_ => h_.1))))); (case side2 => exact (Kd.R_reads' Ac.out).2.1); (case side3 => refine (Kd.R_reads' (e := 55) (base := w.heap.size) (ok := fun k_ => True) (n := Ai.length) (c := Da) ?_).2.2; exact (zo ((Kd.R_mono (Kd.R_far (p := ⟨Bo, 0, none⟩) (Kd.R_types Ao.out Bc.out (by decide)) (fun _ hk => hk.2) (.slice Ck Bq.length Ch)) (fun _ h_ => h_.1))))); (case side4 => exact (Kd.R_reads' Ao.out).2.1); (case side5 => refine (Kd.R_reads' (e := 3) (base := w.heap.size) (ok := fun k_ => True) (n := Bw.length) (c := Fk) ?_).2.2; exact (zo ((Kd.R_mono (Kd.R_far (p := ⟨Bo, 0, none⟩) (Kd.R_types Ar.out Bc.out (by decide)) (fun _ hk => hk.2) (.slice Ck Bq.length Ch)) (fun _ h_ => h_.1))))); (case side6 => exact (Kd.R_reads' Ar.out).2.1); rintro e w220 ⟨Ig, rfl, Bt, hb⟩; refine ⟨_, rfl, ?_⟩; replace Ao := Aside0.mk (Kd.R_below (zo ((Kd.R_mono (Kd.R_far (p := ⟨Bo, 0, none⟩) (Kd.R_types Ao.out Bc.out (by decide)) (fun _ hk => hk.2) (.slice Ck Bq.length Ch)) (fun _ h_ => h_.1)))) hb); replace Ar := Aside0.mk (Kd.R_below (zo ((Kd.R_mono (Kd.R_far (p := ⟨Bo, 0, none⟩) (Kd.R_types Ar.out Bc.out (by decide)) (fun _ hk => hk.2) (.slice Ck Bq.length Ch)) (fun _ h_ => h_.1)))) hb); have Cn := Aside0.mk (Kd.R_lower (Kd.R_new' (Kd.R_new' (Kd.R_new' (Kd.R_new' (Kd.R_new' Bt (Kd.R_lt (zo ((Kd.R_mono (Kd.R_far (p := ⟨Bo, 0, none⟩) (Kd.R_types Ac.out Bc.out (by decide)) (fun _ hk => hk.2) (.slice Ck Bq.length Ch)) (fun _ h_ => h_.1)))))) (Kd.R_lt (zo ((Kd.R_mono (Kd.R_far (p := ⟨Bo, 0, none⟩) (Kd.R_types Ad.out Bc.out (by decide)) (fun _ hk => hk.2) (.slice Ck Bq.length Ch)) (fun _ h_ => h_.1)))))) (Kd.R_lt (zo ((Kd.R_mono (Kd.R_far (p := ⟨Bo, 0, none⟩) (Kd.R_types Ae.out Bc.out (by decide)) (fun _ hk => hk.2) (.slice Ck Bq.length Ch)) (fun _ h_ => h_.1)))))) (Kd.R_lt (zo ((Kd.R_mono (Kd.R_far (p := ⟨Bo, 0, none⟩) (Kd.R_types Ab.out Bc.out (by decide)) (fun _ hk => hk.2) (.slice Ck Bq.length Ch)) (fun _ h_ => h_.1)))))) (Kd.R_lt (zo ((Kd.R_mono (Kd.R_far (p := ⟨Bo, 0, none⟩) (Kd.R_types Bv.out Bc.out (by decide)) (fun _ hk => hk.2) (.slice Ck Bq.length Ch)) (fun _ h_ => h_.1)))))) (below_size (zw HB))); replace Ac := Aside0.mk (Kd.R_elder' (zo ((Kd.R_mono (Kd.R_far (p := ⟨Bo, 0, none⟩) (Kd.R_types Ac.out Bc.out (by decide)) (fun _ hk => hk.2) (.slice Ck Bq.length Ch)) (fun _ h_ => h_.1)))) (Kd.R_base Bt) hb); replace Ad := Aside0.mk (Kd.R_elder' (zo ((Kd.R_mono (Kd.R_far (p := ⟨Bo, 0, none⟩) (Kd.R_types Ad.out Bc.out (by decide)) (fun _ hk => hk.2) (.slice Ck Bq.length Ch)) (fun _ h_ => h_.1)))) (Kd.R_base Bt) hb); replace Ae := Aside0.mk (Kd.R_elder' (zo ((Kd.R_mono (Kd.R_far (p := ⟨Bo, 0, none⟩) (Kd.R_types Ae.out Bc.out (by decide)) (fun _ hk => hk.2) (.slice Ck Bq.length Ch)) (fun _ h_ => h_.1)))) (Kd.R_base Bt) hb); replace Ab := Aside0.mk (Kd.R_elder' (zo ((Kd.R_mono (Kd.R_far (p := ⟨Bo, 0, none⟩) (Kd.R_types Ab.out Bc.out (by decide)) (fun _ hk => hk.2) (.slice Ck Bq.length Ch)) (fun _ h_ => h_.1)))) (Kd.R_base Bt) hb); replace Bv := Aside0.mk (Kd.R_elder' (zo ((Kd.R_mono (Kd.R_far (p := ⟨Bo, 0, none⟩) (Kd.R_types Bv.out Bc.out (by decide)) (fun _ hk => hk.2) (.slice Ck Bq.length Ch)) (fun _ h_ => h_.1)))) (Kd.R_base Bt) hb); replace Ah := zbf Ah hb; replace Aj := zbf Aj hb; replace Ak := zbf Ak hb; replace Ag := zbf Ag hb; replace Bc := Aside0.mk (blk_below (g := Bo) (o := .cells #[.slice Ck Bq.length Ch] 29 (0, 0)) (zj Bc) hb); replace HB := zs HB hb; clear Bt hb) | ((with_reducible refine gate_dst (N := 21) rfl ?_); refine zx (N := 21) (cs := #[.slice none 0 0]) (t := 29) ?_; intro Bx hg w221 hbox hb; replace Ao := zy Ao hb; replace Ar := zy Ar hb; replace Ac := zy Ac hb; replace Ad := zy Ad hb; replace Ae := zy Ae hb; replace Ab := zy Ab hb; replace Bv := zy Bv hb; replace Cn := zy Cn hb; have Bs := Aside0.mk (hbox); have Ht := zg HB hg; have Hv := zg HB hg; replace HB := zs HB hb; have Ec := zl Ah hg; have Dy := zr Ah hg; replace Ah := zb Ah hb; have D9 := zl Aj hg; have Dx := zr Aj hg; replace Aj := zb Aj hb; have D6 := zl Ak hg; have Dw := zr Ak hg; replace Ak := zb Ak hb; have D4 := zl Ag hg; have Dv := zr Ag hg; replace Ag := zb Ag hb; have Dz := zl Bc hg; have Du := zr Bc hg; replace Bc := zb Bc hb; clear hb hbox hg; obtain ⟨Dq, De, Ha⟩ := Kd.R_slice Cn.out; subst Ha; have hnb223 := Dy.out; have hnc223 := Ec.out; have hnb224 := Dx.out; have hnc224 := D9.out; have hnb225 := Dw.out; have hnc225 := D6.out; have hnb226 := Dv.out; have hnc226 := D4.out; have hnb227 := Du.out; have hnc227 := Dz.out; obtain ⟨_, _⟩ := zc1 Bs; obtain ⟨_, _⟩ := zc1 Bc) | (go_at_call 26; (with_reducible refine (laws_sameDisk.calls k2 _ _ Bq _ _ Ce true _ ?side1 ?side2 ?side3 ?side4 H1.out).mono ?_); (case side1 => refine (Kd.R_reads' (e := 45) (base := w.heap.size) (ok := fun k_ => (((((True ∧ some k_ ≠ (.slice Bg Aq.length Bb : Value).ownBlock) ∧ some k_ ≠ (.slice Bf As.length Be : Value).ownBlock) ∧ some k_ ≠ (.slice Bd Ax.length Ba : Value).ownBlock) ∧ some k_ ≠ (Co : Value).ownBlock) ∧ some k_ ≠ (.slice Dq Ce.length De : Value).ownBlock)) (n := Bq.length) (c := Ch) ?_).2.2; exact (zo ((Kd.R_mono (Kd.R_far (p := ⟨Bx, 0, none⟩) (Kd.R_types Bv.out Bs.out (by decide)) (fun _ hk => hk.2) (.slice Dq Ce.length De)) (fun _ h_ => h_.1))))); (case side2 => exact (Kd.R_reads' Bv.out).2.1); (case side3 => refine (Kd.R_reads' (e := 45) (base := w.heap.size) (ok := fun k_ => (((((True ∧ some k_ ≠ (.slice Bg Aq.length Bb : Value).ownBlock) ∧ some k_ ≠ (.slice Bf As.length Be : Value).ownBlock) ∧ some k_ ≠ (.slice Bd Ax.length Ba : Value).ownBlock) ∧ some k_ ≠ (Co : Value).ownBlock) ∧ some k_ ≠ (.slice Ck Bq.length Ch : Value).ownBlock)) (n := Ce.length) (c := De) ?_).2.2; exact (zo ((Kd.R_mono (Kd.R_far (p := ⟨Bx, 0, none⟩) (Kd.R_types Cn.out Bs.out (by decide)) (fun _ hk => hk.2) (.slice Dq Ce.length De)) (fun _ h_ => h_.1))))); (case side4 => exact (Kd.R_reads' Cn.out).2.1); rintro e w230 ⟨rfl, hb⟩; replace Ao := Aside0.mk (Kd.R_below (zo ((Kd.R_mono (Kd.R_far (p := ⟨Bx, 0, none⟩) (Kd.R_types Ao.out Bs.out (by decide)) (fun _ hk => hk.2) (.slice Dq Ce.length De)) (fun _ h_ => h_.1)))) hb); replace Ar := Aside0.mk (Kd.R_below (zo ((Kd.R_mono (Kd.R_far (p := ⟨Bx, 0, none⟩) (Kd.R_types Ar.out Bs.out (by decide)) (fun _ hk => hk.2) (.slice Dq Ce.length De)) (fun _ h_ => h_.1)))) hb); replace Ac := Aside0.mk (Kd.R_below (zo ((Kd.R_mono (Kd.R_far (p := ⟨Bx, 0, none⟩) (Kd.R_types Ac.out Bs.out (by decide)) (fun _ hk => hk.2) (.slice Dq Ce.length De)) (fun _ h_ => h_.1)))) hb); replace Ad := Aside0.mk (Kd.R_below (zo ((Kd.R_mono (Kd.R_far (p := ⟨Bx, 0, none⟩) (Kd.R_types Ad.out Bs.out (by decide)) (fun _ hk => hk.2) (.slice Dq Ce.length De)) (fun _ h_ => h_.1)))) hb); replace Ae := Aside0.mk (Kd.R_below (zo ((Kd.R_mono (Kd.R_far (p := ⟨Bx, 0, none⟩) (Kd.R_types Ae.out Bs.out (by decide)) (fun _ hk => hk.2) (.slice Dq Ce.length De)) (fun _ h_ => h_.1)))) hb); replace Ab := Aside0.mk (Kd.R_below (zo ((Kd.R_mono (Kd.R_far (p := ⟨Bx, 0, none⟩) (Kd.R_types Ab.out Bs.out (by decide)) (fun _ hk => hk.2) (.slice Dq Ce.length De)) (fun _ h_ => h_.1)))) hb); replace Bv := Aside0.mk (Kd.R_below (zo ((Kd.R_mono (Kd.R_far (p := ⟨Bx, 0, none⟩) (Kd.R_types Bv.out Bs.out (by decide)) (fun _ hk => hk.2) (.slice Dq Ce.length De)) (fun _ h_ => h_.1)))) hb); replace Cn := Aside0.mk (Kd.R_below (zo ((Kd.R_mono (Kd.R_far (p := ⟨Bx, 0, none⟩) (Kd.R_types Cn.out Bs.out (by decide)) (fun _ hk => hk.2) (.slice Dq Ce.length De)) (fun _ h_ => h_.1)))) hb); replace Ah := zbf Ah hb; replace Aj := zbf Aj hb; replace Ak := zbf Ak hb; replace Ag := zbf Ag hb; replace Bc := zbf Bc hb; replace Bs := Aside0.mk (blk_below (g := Bx) (o := .cells #[.slice Dq Ce.length De] 29 (0, 0)) (zj Bs) hb); replace HB := zs HB hb; clear hb; have hnb231 := Di.out; have hnc231 := Dl.out; have hnb232 := Dh.out; have hnc232 := Dj.out; obtain ⟨_, _⟩ := zc1 Ag; have hnb234 := Eb.out; have hnc234 := D8.out; obtain ⟨_, _⟩ := zc1 Aj; obtain ⟨Ao236, co236, G9⟩ := Kd.R_slice Ab.out; subst G9) | (go_at_call 26; (with_reducible refine (laws_sameDisk.calls k2 _ _ Af _ _ As Fd _ ?side1 ?side2 ?side3 ?side4 Iu.out).mono ?_); (case side1 => exact zI (Kd.R_reads' Ab.out).2.2); (case side2 => exact (Kd.R_reads' Ab.out).2.1); (case side3 => exact zI (Kd.R_reads' Ad.out).2.2); (case side4 => exact (Kd.R_reads' Ad.out).2.1); rintro e w237 ⟨rfl, hb⟩; replace Ao := zy Ao hb; replace Ar := zy Ar hb; replace Ac := zy Ac hb; replace Ad := zy Ad hb; replace Ae := zy Ae hb; replace Ab := zy Ab hb; replace Bv := zy Bv hb; replace Cn := zy Cn hb; replace Ah := zb Ah hb; replace Aj := zb Aj hb; replace Ak := zb Ak hb; replace Ag := zb Ag hb; replace Bc := zb Bc hb; replace Bs := zb Bs hb; replace HB := zs HB hb; clear hb))
       go_ret
       exact ⟨ze, zw HB⟩
      replace Fu := Bool.eq_false_iff.mpr Fu
      subst Fu
      rw [if_neg (show ¬ (false = true) by decide)] at H
      obtain rfl := Option.some.inj H
      exact absurd HR_.out (by decide)
     rw [if_neg Er] at H
     have Gx : (Ef == Eh) = false := by simpa using Er
     (try (have Gw : decide (Ef = Eh) = false := by simpa using Er))
     (try (have Gv : (Ef == Eh) = false := by simpa using Er))
     (try (have c176b3 : ¬ (Ef = Eh) := by simpa using Er))
     clear Er
     obtain rfl := Option.some.inj H
     exact absurd HR_.out (by decide)

/-- THE ONE PURE STATEMENT of laws_FnActs: yours. -/
def laws_FnActs.Pure : Prop := ∀ (l0 : List Int), l0.length ≤ maxLen → l0.length * 1 ≤ 140737488351232 → (∀ x ∈ l0, (Lit.int .u8 x).wf = true) → ∃ k, laws_FnActs.f k l0 = some true
theorem laws_FnActs.walk (P : laws_FnActs.Pure) (a0 : Option Addr) (len0 cap0 : Nat) (z0 : List Int) (w : World) (w0 : (a0 = none ∧ len0 = 0 ∧ cap0 = 0 ∧ z0 = []) ∨ ∃ x, a0 = some x ∧ len0 ≤ cap0 ∧ cap0 ≤ maxLen ∧ z0.length = cap0 ∧ (∀ i, i < z0.length → w.cell? (x.add i) = some (.int .u8 (z0.getD i 0))) ∧ ∀ n ∈ z0, (Lit.int .u8 n).wf = true) (y0 : len0 * 1 ≤ 140737488351232) :
  Calls Try.prog 10 #[.slice a0 len0 cap0] w fun e w' => e = .returned (.bool true) ∧ Below w.heap.size w w' := by
 obtain ⟨l0, rfl, hr0, hm0, hw0, hc0⟩ := ReadsInt.ofRowC w0
 obtain ⟨k, h⟩ := P l0 hm0 y0 hw0
 refine (laws_FnActs.calls k _ _ l0 true w (Kd.C_of_reads (d := (0 : Int)) (h1 := fun _ => rfl) hr0) hc0 rfl h).mono ?_
 rintro e w' ⟨rfl, hd⟩
 exact ⟨rfl, hd⟩

end Go.Proofs.Ytdiecogmaiglaaa.PFnActs
