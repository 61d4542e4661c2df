import Derived.Test.YthngecooaddddaaQFnSetsx0
import Derived.Test.YthngecooaddddaaQFnSetsx1
import Derived.Test.YthngecooaddddaaQFnSetsx2
import Derived.Test.YthngecooaddddaaQFnSetsx5
namespace Go.Proofs.Ythngecooaddddaa.PFnSets
open Go.RowKit Go.Proofs.YthngecooaddddaaW.PrintWords Go.Proofs.YthngecooaddddaaW.PrintLast Go.Proofs.YthngecooaddddaaW.PrintMore
attribute [local go_sem] max2_int min2_int max_two min_two max_three min_three max_four min_four   -- for this text's walks alone
set_option linter.unusedVariables false
set_option linter.unusedSimpArgs false

/-! ### laws_FnSets: function 11 -/
mutual
def laws_FnSets.l0 : Nat → List (S45) → Int → Int → List (S45) → Bool → List (S45) → Bool → Int → Option (Bool)
  | 0, _, _, _, _, _, _, _, _ => none
  | k + 1, x3, x6, x7, x8, x9, x10, x11, x12 => if x12 < 40 then ((spec_SetHas.f k x3 x12).bind fun t274 => (if x12 ≥ x6 then (laws_FnSets.j1 k x3 x6 x7 x8 x9 x10 x11 x12 t274 (decide (x12 ≤ x7))) else (laws_FnSets.j1 k x3 x6 x7 x8 x9 x10 x11 x12 t274 false))) else (if x9 = true then (if x11 = true then ((impl_SetOk.f k x8).bind fun t278 => (if t278 = true then ((impl_SetOk.f k x10).bind fun t279 => (if t279 = true then ((impl_SetSize.f k x8).bind fun t280 => ((impl_SetSize.f k x10).bind fun t281 => (some ((wrap64 (t280 - t281)) == (wrap64 ((wrap64 (x7 - x6)) + 1)))))) else (some false))) else (some false))) else (some false)) else (some false))
def laws_FnSets.j1 : Nat → List (S45) → Int → Int → List (S45) → Bool → List (S45) → Bool → Int → Bool → Bool → Option (Bool)
  | 0, _, _, _, _, _, _, _, _, _, _ => none
  | k + 1, x3, x6, x7, x8, x9, x10, x11, x12, x13, x14 => (impl_SetHas.f k x8 x12).bind fun t275 => (if x13 = true then (if (t275 != true) = true then (some false) else ((impl_SetHas.f k x10 x12).bind fun t276 => (if (t276 != (!x14)) = true then (some false) else (laws_FnSets.l0 k x3 x6 x7 x8 x9 x10 x11 (wrap64 (x12 + 1)))))) else (if (t275 != x14) = true then (some false) else ((impl_SetHas.f k x10 x12).bind fun t277 => (if (t277 != false) = true then (some false) else (laws_FnSets.l0 k x3 x6 x7 x8 x9 x10 x11 (wrap64 (x12 + 1)))))))
end
def laws_FnSets.f (k : Nat) (l0 : List Int) : Option (Bool) := (laws_big.f l0).bind fun t254 => (if t254 = true then (some true) else ((spec_DrawSets.f k l0).bind fun bt255 => ((spec_DrawPlaces.f k l0).bind fun t261 => (if 0 < (t261.length : Int) then (if 1 < (t261.length : Int) then ((impl_SetAdd.f k bt255.1 (wrap64 (1 + (Int.tmod (rd t261 0) 20))) (wrap64 ((wrap64 (1 + (Int.tmod (rd t261 0) 20))) + (Int.tmod (rd t261 1) 5)))).bind fun bt266 => ((impl_SetDrop.f k bt255.1 (wrap64 (1 + (Int.tmod (rd t261 0) 20))) (wrap64 ((wrap64 (1 + (Int.tmod (rd t261 0) 20))) + (Int.tmod (rd t261 1) 5)))).bind fun bt270 => (laws_FnSets.l0 k bt255.1 (wrap64 (1 + (Int.tmod (rd t261 0) 20))) (wrap64 ((wrap64 (1 + (Int.tmod (rd t261 0) 20))) + (Int.tmod (rd t261 1) 5))) bt266.1 bt266.2 bt270.1 bt270.2 0))) else (none)) else (none)))))
theorem laws_FnSets.mono_l : ∀ k, (∀ y0 y1 y2 y3 y4 y5 y6 y7, LeO (laws_FnSets.l0 k y0 y1 y2 y3 y4 y5 y6 y7) (laws_FnSets.l0 (k + 1) y0 y1 y2 y3 y4 y5 y6 y7)) ∧ (∀ y0 y1 y2 y3 y4 y5 y6 y7 y8 y9, LeO (laws_FnSets.j1 k y0 y1 y2 y3 y4 y5 y6 y7 y8 y9) (laws_FnSets.j1 (k + 1) y0 y1 y2 y3 y4 y5 y6 y7 y8 y9))
  | 0 => ⟨fun _ _ _ _ _ _ _ _ r h => by simp [laws_FnSets.l0] at h, fun _ _ _ _ _ _ _ _ _ _ r h => by simp [laws_FnSets.j1] at h⟩
  | k + 1 => by
    obtain ⟨ih0, ih1⟩ := laws_FnSets.mono_l k
    refine ⟨?_, ?_⟩
    · intro y0 y1 y2 y3 y4 y5 y6 y7
      unfold laws_FnSets.l0
      repeat' first
      | (with_reducible exact ih0 _ _ _ _ _ _ _ _)
      | (with_reducible exact ih1 _ _ _ _ _ _ _ _ _ _)
      | (with_reducible exact impl_SetAdd.mono _ _ _ _)
      | (with_reducible exact impl_SetDrop.mono _ _ _ _)
      | (with_reducible exact impl_SetHas.mono _ _ _)
      | (with_reducible exact impl_SetOk.mono _ _)
      | (with_reducible exact impl_SetSize.mono _ _)
      | (with_reducible exact spec_DrawPlaces.mono _ _)
      | (with_reducible exact spec_DrawSets.mono _ _)
      | (with_reducible exact spec_SetHas.mono _ _ _)
      | (with_reducible exact LeO.refl _)
      | (with_reducible exact LeO.none _)
      | (with_reducible refine LeO.ite ?_ ?_)
      | (with_reducible refine LeO.bind ?_ (fun _ => ?_))
      | exact ih0 _ _ _ _ _ _ _ _
      | exact ih1 _ _ _ _ _ _ _ _ _ _
      | exact impl_SetAdd.mono _ _ _ _
      | exact impl_SetDrop.mono _ _ _ _
      | exact impl_SetHas.mono _ _ _
      | exact impl_SetOk.mono _ _
      | exact impl_SetSize.mono _ _
      | exact spec_DrawPlaces.mono _ _
      | exact spec_DrawSets.mono _ _
      | exact spec_SetHas.mono _ _ _
      | exact LeO.none _
      | refine LeO.ite ?_ ?_
      | refine LeO.bind ?_ (fun _ => ?_)
    · intro y0 y1 y2 y3 y4 y5 y6 y7 y8 y9
      unfold laws_FnSets.j1
      repeat' first
      | (with_reducible exact ih0 _ _ _ _ _ _ _ _)
      | (with_reducible exact ih1 _ _ _ _ _ _ _ _ _ _)
      | (with_reducible exact impl_SetAdd.mono _ _ _ _)
      | (with_reducible exact impl_SetDrop.mono _ _ _ _)
      | (with_reducible exact impl_SetHas.mono _ _ _)
      | (with_reducible exact impl_SetOk.mono _ _)
      | (with_reducible exact impl_SetSize.mono _ _)
      | (with_reducible exact spec_DrawPlaces.mono _ _)
      | (with_reducible exact spec_DrawSets.mono _ _)
      | (with_reducible exact spec_SetHas.mono _ _ _)
      | (with_reducible exact LeO.refl _)
      | (with_reducible exact LeO.none _)
      | (with_reducible refine LeO.ite ?_ ?_)
      | (with_reducible refine LeO.bind ?_ (fun _ => ?_))
      | exact ih0 _ _ _ _ _ _ _ _
      | exact ih1 _ _ _ _ _ _ _ _ _ _
      | exact impl_SetAdd.mono _ _ _ _
      | exact impl_SetDrop.mono _ _ _ _
      | exact impl_SetHas.mono _ _ _
      | exact impl_SetOk.mono _ _
      | exact impl_SetSize.mono _ _
      | exact spec_DrawPlaces.mono _ _
      | exact spec_DrawSets.mono _ _
      | exact spec_SetHas.mono _ _ _
      | exact LeO.none _
      | refine LeO.ite ?_ ?_
      | refine LeO.bind ?_ (fun _ => ?_)
theorem laws_FnSets.mono : ∀ a0 k, LeO (laws_FnSets.f k a0) (laws_FnSets.f (k + 1) a0) := by
  intro a0 k
  obtain ⟨ih0, ih1⟩ := laws_FnSets.mono_l k
  unfold laws_FnSets.f
  repeat' first
      | (with_reducible exact ih0 _ _ _ _ _ _ _ _)
      | (with_reducible exact ih1 _ _ _ _ _ _ _ _ _ _)
      | (with_reducible exact impl_SetAdd.mono _ _ _ _)
      | (with_reducible exact impl_SetDrop.mono _ _ _ _)
      | (with_reducible exact impl_SetHas.mono _ _ _)
      | (with_reducible exact impl_SetOk.mono _ _)
      | (with_reducible exact impl_SetSize.mono _ _)
      | (with_reducible exact spec_DrawPlaces.mono _ _)
      | (with_reducible exact spec_DrawSets.mono _ _)
      | (with_reducible exact spec_SetHas.mono _ _ _)
      | (with_reducible exact LeO.refl _)
      | (with_reducible exact LeO.none _)
      | (with_reducible refine LeO.ite ?_ ?_)
      | (with_reducible refine LeO.bind ?_ (fun _ => ?_))
      | exact ih0 _ _ _ _ _ _ _ _
      | exact ih1 _ _ _ _ _ _ _ _ _ _
      | exact impl_SetAdd.mono _ _ _ _
      | exact impl_SetDrop.mono _ _ _ _
      | exact impl_SetHas.mono _ _ _
      | exact impl_SetOk.mono _ _
      | exact impl_SetSize.mono _ _
      | exact spec_DrawPlaces.mono _ _
      | exact spec_DrawSets.mono _ _
      | exact spec_SetHas.mono _ _ _
      | exact LeO.none _
      | refine LeO.ite ?_ ?_
      | refine LeO.bind ?_ (fun _ => ?_)
set_option maxHeartbeats 8000000 in
set_option maxRecDepth 100000 in
theorem laws_FnSets.calls (k : Nat) (A0 : Option Addr) (c0 : Nat) (l0 : List Int) (r : Bool) (w : World) (hr0 : Kd.C (Kd.int .u8) w A0 l0.length l0) (hc0 : l0.length ≤ c0) (hr_ : r = true) (h : laws_FnSets.f k l0 = some r) :
    Calls Try.prog 11 #[.slice A0 l0.length c0] w fun e w' => e = .returned (.bool r) ∧ Below w.heap.size w w' := by
  have HR0 := Aside0.mk hr0
  have HC0 := Aside0.mk hc0
  clear hr0 hc0
  have HB := Aside0.mk (Below.refl w.heap.size w)
  have HR_ := Aside0.mk hr_
  clear hr_
  have H : ((laws_big.f l0).bind fun t254 => (if t254 = true then (some true) else ((spec_DrawSets.f k l0).bind fun bt255 => ((spec_DrawPlaces.f k l0).bind fun t261 => (if 0 < (t261.length : Int) then (if 1 < (t261.length : Int) then ((impl_SetAdd.f k bt255.1 (wrap64 (1 + (Int.tmod (rd t261 0) 20))) (wrap64 ((wrap64 (1 + (Int.tmod (rd t261 0) 20))) + (Int.tmod (rd t261 1) 5)))).bind fun bt266 => ((impl_SetDrop.f k bt255.1 (wrap64 (1 + (Int.tmod (rd t261 0) 20))) (wrap64 ((wrap64 (1 + (Int.tmod (rd t261 0) 20))) + (Int.tmod (rd t261 1) 5)))).bind fun bt270 => (laws_FnSets.l0 k bt255.1 (wrap64 (1 + (Int.tmod (rd t261 0) 20))) (wrap64 ((wrap64 (1 + (Int.tmod (rd t261 0) 20))) + (Int.tmod (rd t261 1) 5))) bt266.1 bt266.2 bt270.1 bt270.2 0))) else (none)) else (none)))))) = some r := h
  clear h
  replace H := Option.bind_eq_some_iff.mp H
  obtain ⟨t254, A20, H⟩ := H
  replace H : (if t254 = true then (some true) else ((spec_DrawSets.f k l0).bind fun bt255 => ((spec_DrawPlaces.f k l0).bind fun t261 => (if 0 < (t261.length : Int) then (if 1 < (t261.length : Int) then ((impl_SetAdd.f k bt255.1 (wrap64 (1 + (Int.tmod (rd t261 0) 20))) (wrap64 ((wrap64 (1 + (Int.tmod (rd t261 0) 20))) + (Int.tmod (rd t261 1) 5)))).bind fun bt266 => ((impl_SetDrop.f k bt255.1 (wrap64 (1 + (Int.tmod (rd t261 0) 20))) (wrap64 ((wrap64 (1 + (Int.tmod (rd t261 0) 20))) + (Int.tmod (rd t261 1) 5)))).bind fun bt270 => (laws_FnSets.l0 k bt255.1 (wrap64 (1 + (Int.tmod (rd t261 0) 20))) (wrap64 ((wrap64 (1 + (Int.tmod (rd t261 0) 20))) + (Int.tmod (rd t261 1) 5))) bt266.1 bt266.2 bt270.1 bt270.2 0))) else (none)) else (none))))) = some r := H
  have A2 := Aside0.mk A20
  clear A20
  by_cases c3 : t254 = true
  · subst c3
    have H1 : (some true) = some r := by rw [if_pos rfl] at H; exact H
    clear H
    have H := H1
    clear H1
    obtain rfl := Option.some.inj H
    go_enter Try.func11, Try.ntmps11
    go_wp2_with (first | ((with_reducible refine gate_callee (f := 31) rfl ?_); refine goesL_ (some 16) rfl rfl Try.func31 (by kernel_rfl) rfl #[.slice A0 l0.length c0] rfl (by (try simp only [List.map_toArray, List.map_cons, List.map_nil]); first | done | rfl | (simp only [List.length_drop, List.length_take]; rfl)) ?_; (with_reducible refine (laws_big.calls _ _ l0 true _ ?side1 ?side2 A2.out).mono ?_); (case side1 => repeat (first | exact HR0.out | (with_reducible refine Kd.C_alloc ?_ _) | (with_reducible refine Kd.C_drewN ?_ _) | (with_reducible refine Kd.C_drew ?_))); (case side2 => exact HC0.out); rintro e w' ⟨rfl, ⟨nd, rfl⟩⟩; refine ⟨_, rfl, ?_⟩))
    go_ret
    exact ⟨by first | rfl | (simp [errW_none, errW_some] <;> rfl) | (simp [*, errW_none, errW_some] <;> rfl), by repeat (first | (with_reducible first | exact HB.out | apply below_alloc | apply pw_below_drewN | apply below_drew1) | exact HB.out)⟩
  · replace c3 := Bool.eq_false_iff.mpr c3
    subst c3
    have H1 : ((spec_DrawSets.f k l0).bind fun bt255 => ((spec_DrawPlaces.f k l0).bind fun t261 => (if 0 < (t261.length : Int) then (if 1 < (t261.length : Int) then ((impl_SetAdd.f k bt255.1 (wrap64 (1 + (Int.tmod (rd t261 0) 20))) (wrap64 ((wrap64 (1 + (Int.tmod (rd t261 0) 20))) + (Int.tmod (rd t261 1) 5)))).bind fun bt266 => ((impl_SetDrop.f k bt255.1 (wrap64 (1 + (Int.tmod (rd t261 0) 20))) (wrap64 ((wrap64 (1 + (Int.tmod (rd t261 0) 20))) + (Int.tmod (rd t261 1) 5)))).bind fun bt270 => (laws_FnSets.l0 k bt255.1 (wrap64 (1 + (Int.tmod (rd t261 0) 20))) (wrap64 ((wrap64 (1 + (Int.tmod (rd t261 0) 20))) + (Int.tmod (rd t261 1) 5))) bt266.1 bt266.2 bt270.1 bt270.2 0))) else (none)) else (none)))) = some r := by rw [if_neg (show ¬ (false = true) by decide)] at H; exact H
    clear H
    have H := H1
    clear H1
    replace H := Option.bind_eq_some_iff.mp H
    obtain ⟨⟨t255, t256⟩, A40, H⟩ := H
    replace H : ((spec_DrawPlaces.f k l0).bind fun t261 => (if 0 < (t261.length : Int) then (if 1 < (t261.length : Int) then ((impl_SetAdd.f k t255 (wrap64 (1 + (Int.tmod (rd t261 0) 20))) (wrap64 ((wrap64 (1 + (Int.tmod (rd t261 0) 20))) + (Int.tmod (rd t261 1) 5)))).bind fun bt266 => ((impl_SetDrop.f k t255 (wrap64 (1 + (Int.tmod (rd t261 0) 20))) (wrap64 ((wrap64 (1 + (Int.tmod (rd t261 0) 20))) + (Int.tmod (rd t261 1) 5)))).bind fun bt270 => (laws_FnSets.l0 k t255 (wrap64 (1 + (Int.tmod (rd t261 0) 20))) (wrap64 ((wrap64 (1 + (Int.tmod (rd t261 0) 20))) + (Int.tmod (rd t261 1) 5))) bt266.1 bt266.2 bt270.1 bt270.2 0))) else (none)) else (none))) = some r := H
    have A4 := Aside0.mk A40
    clear A40
    replace H := Option.bind_eq_some_iff.mp H
    obtain ⟨t261, A50, H⟩ := H
    replace H : (if 0 < (t261.length : Int) then (if 1 < (t261.length : Int) then ((impl_SetAdd.f k t255 (wrap64 (1 + (Int.tmod (rd t261 0) 20))) (wrap64 ((wrap64 (1 + (Int.tmod (rd t261 0) 20))) + (Int.tmod (rd t261 1) 5)))).bind fun bt266 => ((impl_SetDrop.f k t255 (wrap64 (1 + (Int.tmod (rd t261 0) 20))) (wrap64 ((wrap64 (1 + (Int.tmod (rd t261 0) 20))) + (Int.tmod (rd t261 1) 5)))).bind fun bt270 => (laws_FnSets.l0 k t255 (wrap64 (1 + (Int.tmod (rd t261 0) 20))) (wrap64 ((wrap64 (1 + (Int.tmod (rd t261 0) 20))) + (Int.tmod (rd t261 1) 5))) bt266.1 bt266.2 bt270.1 bt270.2 0))) else (none)) else (none)) = some r := H
    have A5 := Aside0.mk A50
    clear A50
    by_cases c6 : 0 < (t261.length : Int)
    · rw [if_pos c6] at H
      have c6b0 : decide (0 < (t261.length : Int)) = true := decide_eq_true c6
      have c6b1 : decide (0 < t261.length) = true := decide_eq_true (by omega)
      clear c6
      by_cases c7 : 1 < (t261.length : Int)
      · rw [if_pos c7] at H
        have c7b0 : decide (1 < (t261.length : Int)) = true := decide_eq_true c7
        have c7b1 : decide (1 < t261.length) = true := decide_eq_true (by omega)
        clear c7
        replace H := Option.bind_eq_some_iff.mp H
        obtain ⟨⟨t266, t267⟩, A80, H⟩ := H
        replace H : ((impl_SetDrop.f k t255 (wrap64 (1 + (Int.tmod (rd t261 0) 20))) (wrap64 ((wrap64 (1 + (Int.tmod (rd t261 0) 20))) + (Int.tmod (rd t261 1) 5)))).bind fun bt270 => (laws_FnSets.l0 k t255 (wrap64 (1 + (Int.tmod (rd t261 0) 20))) (wrap64 ((wrap64 (1 + (Int.tmod (rd t261 0) 20))) + (Int.tmod (rd t261 1) 5))) t266 t267 bt270.1 bt270.2 0)) = some r := H
        have A8 := Aside0.mk A80
        clear A80
        replace H := Option.bind_eq_some_iff.mp H
        obtain ⟨⟨t270, t271⟩, A90, H⟩ := H
        replace H : (laws_FnSets.l0 k t255 (wrap64 (1 + (Int.tmod (rd t261 0) 20))) (wrap64 ((wrap64 (1 + (Int.tmod (rd t261 0) 20))) + (Int.tmod (rd t261 1) 5))) t266 t267 t270 t271 0) = some r := H
        have A9 := Aside0.mk A90
        clear A90
        have H' := Aside0.mk H
        clear H
        go_enter Try.func11, Try.ntmps11
        go_wp2_with (first | ((with_reducible refine gate_callee (f := 31) rfl ?_); refine goesL_ (some 16) rfl rfl Try.func31 (by kernel_rfl) rfl #[.slice A0 l0.length c0] rfl (by (try simp only [List.map_toArray, List.map_cons, List.map_nil]); first | done | rfl | (simp only [List.length_drop, List.length_take]; rfl)) ?_; (with_reducible refine (laws_big.calls _ _ l0 false _ ?side1 ?side2 A2.out).mono ?_); (case side1 => repeat (first | exact HR0.out | (with_reducible refine Kd.C_alloc ?_ _) | (with_reducible refine Kd.C_drewN ?_ _) | (with_reducible refine Kd.C_drew ?_))); (case side2 => exact HC0.out); rintro e w' ⟨rfl, ⟨nd, rfl⟩⟩; refine ⟨_, rfl, ?_⟩) | ((with_reducible refine gate_callee (f := 32) rfl ?_); refine goesL_ (some 19) rfl rfl Try.func32 (by kernel_rfl) rfl #[.slice A0 l0.length c0] rfl (by (try simp only [List.map_toArray, List.map_cons, List.map_nil]); first | done | rfl | (simp only [List.length_drop, List.length_take]; rfl)) ?_; (with_reducible refine (spec_DrawSets.calls k _ _ l0 t255 t256 _ ?side1 ?side2 A4.out).mono ?_); (case side1 => repeat (first | exact HR0.out | (with_reducible refine Kd.C_alloc ?_ _) | (with_reducible refine Kd.C_drewN ?_ _) | (with_reducible refine Kd.C_drew ?_))); (case side2 => exact HC0.out); rintro e w10 ⟨v257, v259, rfl, ho0, ho1, hb⟩; refine ⟨_, rfl, ?_⟩; have n0_ := Aside0.mk (Kd.R_lower ho0 (below_size (by repeat (first | (with_reducible first | exact HB.out | apply below_alloc | apply pw_below_drewN | apply below_drew1) | exact HB.out)))); have n1_ := Aside0.mk (Kd.R_lower ho1 (below_size (by repeat (first | (with_reducible first | exact HB.out | apply below_alloc | apply pw_below_drewN | apply below_drew1) | exact HB.out)))); have n2_ := Aside0.mk (below_step (by repeat (first | (with_reducible first | exact HB.out | apply below_alloc | apply pw_below_drewN | apply below_drew1) | exact HB.out)) hb); clear HB; have HO258 := n0_; have HO260 := n1_; have HB := n2_; clear n0_ n1_ n2_; (try clear hb); (try clear hb2); (try clear hk); (try clear hi); (try clear ho0); (try clear ho1)) | ((with_reducible refine gate_callee (f := 34) rfl ?_); refine goesL_ (some 23) rfl rfl Try.func34 (by kernel_rfl) rfl #[.slice A0 l0.length c0] rfl (by (try simp only [List.map_toArray, List.map_cons, List.map_nil]); first | done | rfl | (simp only [List.length_drop, List.length_take]; rfl)) ?_; (with_reducible refine (spec_DrawPlaces.calls k _ _ l0 t261 _ ?side1 ?side2 A5.out).mono ?_); (case side1 => repeat (first | exact (Kd.C_below HR0.out HB.out) | (with_reducible refine Kd.C_alloc ?_ _) | (with_reducible refine Kd.C_drewN ?_ _) | (with_reducible refine Kd.C_drew ?_))); (case side2 => exact HC0.out); rintro e w11 ⟨v262, rfl, ho0, hb⟩; refine ⟨_, rfl, ?_⟩; have n0_ := Aside0.mk (Kd.R_below (by (with_reducible repeat (first | apply Kd.R_alloc | apply Kd.R_drewN | apply Kd.R_drew)); exact HO258.out) hb); have n1_ := Aside0.mk (Kd.R_below (by (with_reducible repeat (first | apply Kd.R_alloc | apply Kd.R_drewN | apply Kd.R_drew)); exact HO260.out) hb); have n2_ := Aside0.mk (Kd.R_lower ho0 (below_size (by repeat (first | (with_reducible first | exact HB.out | apply below_alloc | apply pw_below_drewN | apply below_drew1) | exact HB.out)))); have n3_ := Aside0.mk (below_step (by repeat (first | (with_reducible first | exact HB.out | apply below_alloc | apply pw_below_drewN | apply below_drew1) | exact HB.out)) hb); clear HO258; clear HO260; clear HB; have HO258 := n0_; have HO260 := n1_; have HO263 := n2_; have HB := n3_; clear n0_ n1_ n2_ n3_; (try clear hb); (try clear hb2); (try clear hk); (try clear hi); (try clear ho0); obtain ⟨Ao12, co12, eo12⟩ := Kd.R_slice HO263.out; subst eo12; have p264 : 0 ≤ (0 : Int) := (by omega); have q264 : 0 < (t261.length : Int) := of_decide_eq_true (by first | (with_reducible assumption) | assumption); obtain ⟨ad264, e264, hx264_0⟩ := Kd.at_int (Kd.R_reads' HO263.out).2.2 0 p264 q264; cases e264; have qi264 : (0 < t261.length) = True := eq_true (by omega); (try rw [show ((0 : Int)).toNat = 0 from rfl] at hx264_0); (try rw [Addr.add_zero'] at hx264_0); replace p264 := eq_true p264; replace q264 := eq_true q264; have p265 : 0 ≤ (1 : Int) := (by omega); have q265 : 1 < (t261.length : Int) := of_decide_eq_true (by first | (with_reducible assumption) | assumption); obtain ⟨ad265, e265, hx265_0⟩ := Kd.at_int (Kd.R_reads' HO263.out).2.2 1 p265 q265; obtain rfl : ad264 = ad265 := (by injection e265); (try simp only [show (1 : Int).toNat = 1 from rfl, Nat.reduceMul, Nat.reduceEqDiff, Go.Addr.add, ↓reduceIte] at hx265_0); have qi265 : (1 < t261.length) = True := eq_true (by omega); (try rw [show ((1 : Int)).toNat = 1 from rfl] at hx265_0); replace p265 := eq_true p265; replace q265 := eq_true q265; obtain ⟨Ao13, co13, eo13⟩ := Kd.R_slice HO258.out; subst eo13) | ((with_reducible refine gate_callee (f := 28) rfl ?_); refine goesL_ (some 39) rfl rfl Try.func28 (by kernel_rfl) rfl #[.slice Ao13 t255.length co13, .int .i64 (wrap64 (1 + (Int.tmod (rd t261 0) 20))), .int .i64 (wrap64 ((wrap64 (1 + (Int.tmod (rd t261 0) 20))) + (Int.tmod (rd t261 1) 5)))] rfl (by (try simp only [List.map_toArray, List.map_cons, List.map_nil]); first | done | rfl | (simp only [List.length_drop, List.length_take]; rfl)) ?_; (with_reducible refine (impl_SetAdd.calls k _ _ t255 (wrap64 (1 + (Int.tmod (rd t261 0) 20))) (wrap64 ((wrap64 (1 + (Int.tmod (rd t261 0) 20))) + (Int.tmod (rd t261 1) 5))) t266 t267 _ ?side1 ?side2 A8.out).mono ?_); (case side1 => repeat (first | exact (Kd.R_reads' HO258.out).2.2 | (with_reducible refine Kd.C_alloc ?_ _) | (with_reducible refine Kd.C_drewN ?_ _) | (with_reducible refine Kd.C_drew ?_))); (case side2 => exact (Kd.R_reads' HO258.out).2.1); rintro e w14 ⟨v268, rfl, ho0, hb⟩; refine ⟨_, rfl, ?_⟩; have n0_ := Aside0.mk (Kd.R_elder' (by (with_reducible repeat (first | apply Kd.R_alloc | apply Kd.R_drewN | apply Kd.R_drew)); exact HO258.out) (Kd.R_base ho0) hb); have n1_ := Aside0.mk (Kd.R_elder' (by (with_reducible repeat (first | apply Kd.R_alloc | apply Kd.R_drewN | apply Kd.R_drew)); exact HO260.out) (Kd.R_base ho0) hb); have n2_ := Aside0.mk (Kd.R_below (by (with_reducible repeat (first | apply Kd.R_alloc | apply Kd.R_drewN | apply Kd.R_drew)); exact HO263.out) hb); have n3_ := Aside0.mk (Kd.R_lower (Kd.R_new' (Kd.R_new' ho0 (Kd.R_lt (by (with_reducible repeat (first | apply Kd.R_alloc | apply Kd.R_drewN | apply Kd.R_drew)); exact HO258.out))) (Kd.R_lt (by (with_reducible repeat (first | apply Kd.R_alloc | apply Kd.R_drewN | apply Kd.R_drew)); exact HO260.out))) (below_size (by repeat (first | (with_reducible first | exact HB.out | apply below_alloc | apply pw_below_drewN | apply below_drew1) | exact HB.out)))); have n4_ := Aside0.mk (below_step (by repeat (first | (with_reducible first | exact HB.out | apply below_alloc | apply pw_below_drewN | apply below_drew1) | exact HB.out)) hb); clear HO258; clear HO260; clear HO263; clear HB; have HO258 := n0_; have HO260 := n1_; have HO263 := n2_; have HO269 := n3_; have HB := n4_; clear n0_ n1_ n2_ n3_ n4_; (try clear hb); (try clear hb2); (try clear hk); (try clear hi); (try clear ho0)) | ((with_reducible refine gate_callee (f := 30) rfl ?_); refine goesL_ (some 46) rfl rfl Try.func30 (by kernel_rfl) rfl #[.slice Ao13 t255.length co13, .int .i64 (wrap64 (1 + (Int.tmod (rd t261 0) 20))), .int .i64 (wrap64 ((wrap64 (1 + (Int.tmod (rd t261 0) 20))) + (Int.tmod (rd t261 1) 5)))] rfl (by (try simp only [List.map_toArray, List.map_cons, List.map_nil]); first | done | rfl | (simp only [List.length_drop, List.length_take]; rfl)) ?_; (with_reducible refine (impl_SetDrop.calls k _ _ t255 (wrap64 (1 + (Int.tmod (rd t261 0) 20))) (wrap64 ((wrap64 (1 + (Int.tmod (rd t261 0) 20))) + (Int.tmod (rd t261 1) 5))) t270 t271 _ ?side1 ?side2 A9.out).mono ?_); (case side1 => repeat (first | exact (Kd.R_reads' HO258.out).2.2 | (with_reducible refine Kd.C_alloc ?_ _) | (with_reducible refine Kd.C_drewN ?_ _) | (with_reducible refine Kd.C_drew ?_))); (case side2 => exact (Kd.R_reads' HO258.out).2.1); rintro e w15 ⟨v272, rfl, ho0, hb⟩; refine ⟨_, rfl, ?_⟩; have n0_ := Aside0.mk (Kd.R_elder' (by (with_reducible repeat (first | apply Kd.R_alloc | apply Kd.R_drewN | apply Kd.R_drew)); exact HO258.out) (Kd.R_base ho0) hb); have n1_ := Aside0.mk (Kd.R_elder' (by (with_reducible repeat (first | apply Kd.R_alloc | apply Kd.R_drewN | apply Kd.R_drew)); exact HO260.out) (Kd.R_base ho0) hb); have n2_ := Aside0.mk (Kd.R_below (by (with_reducible repeat (first | apply Kd.R_alloc | apply Kd.R_drewN | apply Kd.R_drew)); exact HO263.out) hb); have n3_ := Aside0.mk (Kd.R_elder' (by (with_reducible repeat (first | apply Kd.R_alloc | apply Kd.R_drewN | apply Kd.R_drew)); exact HO269.out) (Kd.R_base ho0) hb); have n4_ := Aside0.mk (Kd.R_lower (Kd.R_new' (Kd.R_new' (Kd.R_new' ho0 (Kd.R_lt (by (with_reducible repeat (first | apply Kd.R_alloc | apply Kd.R_drewN | apply Kd.R_drew)); exact HO258.out))) (Kd.R_lt (by (with_reducible repeat (first | apply Kd.R_alloc | apply Kd.R_drewN | apply Kd.R_drew)); exact HO260.out))) (Kd.R_lt (by (with_reducible repeat (first | apply Kd.R_alloc | apply Kd.R_drewN | apply Kd.R_drew)); exact HO269.out))) (below_size (by repeat (first | (with_reducible first | exact HB.out | apply below_alloc | apply pw_below_drewN | apply below_drew1) | exact HB.out)))); have n5_ := Aside0.mk (below_step (by repeat (first | (with_reducible first | exact HB.out | apply below_alloc | apply pw_below_drewN | apply below_drew1) | exact HB.out)) hb); clear HO258; clear HO260; clear HO263; clear HO269; clear HB; have HO258 := n0_; have HO260 := n1_; have HO263 := n2_; have HO269 := n3_; have HO273 := n4_; have HB := n5_; clear n0_ n1_ n2_ n3_ n4_ n5_; (try clear hb); (try clear hb2); (try clear hk); (try clear hi); (try clear ho0)))
        go_loopg [12] k (fun kq v12 w' => ∃ (x12_1 : Int), v12 = .int .i64 x12_1 ∧ Aside0 (laws_FnSets.l0 kq t255 (wrap64 (1 + (Int.tmod (rd t261 0) 20))) (wrap64 ((wrap64 (1 + (Int.tmod (rd t261 0) 20))) + (Int.tmod (rd t261 1) 5))) t266 t267 t270 t271 x12_1 = some r) ∧ Aside0 (kq ≤ k) ∧ Aside0 (Kd.R k45 45 w' w.heap.size (fun k_ => some k_ ≠ (v268 : Value).ownBlock ∧ some k_ ≠ (v272 : Value).ownBlock) (.slice Ao13 t255.length co13) t255) ∧ Aside0 (Kd.R k45 45 w' w.heap.size (fun k_ => some k_ ≠ ((.slice Ao13 t255.length co13) : Value).ownBlock ∧ some k_ ≠ (v272 : Value).ownBlock) v268 t266) ∧ Aside0 (Kd.R k45 45 w' w.heap.size (fun k_ => some k_ ≠ ((.slice Ao13 t255.length co13) : Value).ownBlock ∧ some k_ ≠ (v268 : Value).ownBlock) v272 t270) ∧ Aside0 (Below w.heap.size w w'))
        case atStart => exact ⟨(0), (by first | rfl | (simp; done) | (simp [*]; done)), H', ⟨Nat.le_refl _⟩, ⟨by (with_reducible repeat (first | apply Kd.R_alloc | apply Kd.R_drewN | apply Kd.R_drew)); exact Kd.R_mono HO258.out (fun _ hk => ⟨hk.1.2, hk.2⟩)⟩, ⟨by (with_reducible repeat (first | apply Kd.R_alloc | apply Kd.R_drewN | apply Kd.R_drew)); exact Kd.R_mono HO269.out (fun _ hk => ⟨hk.1.1.2, hk.2⟩)⟩, ⟨by (with_reducible repeat (first | apply Kd.R_alloc | apply Kd.R_drewN | apply Kd.R_drew)); exact Kd.R_mono HO273.out (fun _ hk => ⟨hk.1.1.2, hk.2⟩)⟩, ⟨by repeat (first | (with_reducible first | exact HB.out | apply below_alloc | apply pw_below_drewN | apply below_drew1) | exact HB.out)⟩⟩
        case round =>
          clear H'
          try clear c1
          try clear c2
          try clear p2
          try clear q2
          try clear hx2
          try clear qi2
          try clear c3
          try clear c6
          try clear c6b0
          try clear c6b1
          try clear p6
          try clear c7
          try clear c7b0
          try clear c7b1
          try clear c11
          try clear hx264_0
          try clear hx265_0
          try clear p264
          try clear p265
          try clear q264
          try clear q265
          obtain ⟨x12_1, rfl, HA, HK1, HO_3, HO_8, HO_10, HB⟩ := hrel
          cases gk with
          | zero => exact absurd HA.out (by simp [laws_FnSets.l0])
          | succ k1 =>
            have H := HA.out
            clear HA
            simp only [laws_FnSets.l0] at H
            by_cases c16 : x12_1 < 40
            · rw [if_pos c16] at H
              have c16b0 : decide (x12_1 < 40) = true := decide_eq_true c16
              clear c16
              replace H := Option.bind_eq_some_iff.mp H
              obtain ⟨t274, A170, H⟩ := H
              replace H : (if x12_1 ≥ (wrap64 (1 + (Int.tmod (rd t261 0) 20))) then (laws_FnSets.j1 k1 t255 (wrap64 (1 + (Int.tmod (rd t261 0) 20))) (wrap64 ((wrap64 (1 + (Int.tmod (rd t261 0) 20))) + (Int.tmod (rd t261 1) 5))) t266 t267 t270 t271 x12_1 t274 (decide (x12_1 ≤ (wrap64 ((wrap64 (1 + (Int.tmod (rd t261 0) 20))) + (Int.tmod (rd t261 1) 5)))))) else (laws_FnSets.j1 k1 t255 (wrap64 (1 + (Int.tmod (rd t261 0) 20))) (wrap64 ((wrap64 (1 + (Int.tmod (rd t261 0) 20))) + (Int.tmod (rd t261 1) 5))) t266 t267 t270 t271 x12_1 t274 false)) = some r := H
              have A17 := Aside0.mk A170
              clear A170
              have HC18 := Aside0.mk H
              clear H
              go_upto_region 13 with (first | ((with_reducible refine gate_callee (f := 13) rfl ?_); refine goesL_ (some 55) rfl rfl Try.func13 (by kernel_rfl) rfl #[.slice Ao13 t255.length co13, .int .i64 x12_1] rfl (by (try simp only [List.map_toArray, List.map_cons, List.map_nil]); first | done | rfl | (simp only [List.length_drop, List.length_take]; rfl)) ?_; (with_reducible refine (spec_SetHas.calls k1 _ _ t255 x12_1 t274 _ ?side1 ?side2 A17.out).mono ?_); (case side1 => repeat (first | exact (Kd.R_reads' HO_3.out).2.2 | (with_reducible refine Kd.C_alloc ?_ _) | (with_reducible refine Kd.C_drewN ?_ _) | (with_reducible refine Kd.C_drew ?_))); (case side2 => exact (Kd.R_reads' HO_3.out).2.1); rintro e w' ⟨rfl, ⟨nd, rfl⟩⟩; refine ⟨_, rfl, ?_⟩))
              (try simp only [Act.put, List.setIfInBounds_toArray, List.set_cons_zero, List.set_cons_succ])
              go_cut [14] (fun v14 wc => ∃ (kq : Nat) (x14_17 : Bool), v14 = .bool x14_17 ∧ Aside0 (laws_FnSets.j1 kq t255 (wrap64 (1 + (Int.tmod (rd t261 0) 20))) (wrap64 ((wrap64 (1 + (Int.tmod (rd t261 0) 20))) + (Int.tmod (rd t261 1) 5))) t266 t267 t270 t271 x12_1 t274 x14_17 = some r) ∧ Aside0 (kq ≤ k1) ∧ Aside0 (Kd.R k45 45 wc w.heap.size (fun k_ => some k_ ≠ (v268 : Value).ownBlock ∧ some k_ ≠ (v272 : Value).ownBlock) (.slice Ao13 t255.length co13) t255) ∧ Aside0 (Kd.R k45 45 wc w.heap.size (fun k_ => some k_ ≠ ((.slice Ao13 t255.length co13) : Value).ownBlock ∧ some k_ ≠ (v272 : Value).ownBlock) v268 t266) ∧ Aside0 (Kd.R k45 45 wc w.heap.size (fun k_ => some k_ ≠ ((.slice Ao13 t255.length co13) : Value).ownBlock ∧ some k_ ≠ (v268 : Value).ownBlock) v272 t270) ∧ Aside0 (Below w.heap.size w wc))
              case first =>
                have H := HC18.out
                clear HC18
                by_cases c19 : x12_1 ≥ (wrap64 (1 + (Int.tmod (rd t261 0) 20)))
                · rw [if_pos c19] at H
                  have c19b0 : decide ((wrap64 (1 + (Int.tmod (rd t261 0) 20))) ≤ x12_1) = true := decide_eq_true c19
                  clear c19
                  (first | rw [c19b0] | (simp only [i64_w, i32_w]; rw [c19b0]) | skip)
                  have H' := Aside0.mk H
                  clear H
                  go_wp2
                  go_meet
                  case rel => exact ⟨_, (decide (x12_1 ≤ (wrap64 ((wrap64 (1 + (Int.tmod (rd t261 0) 20))) + (Int.tmod (rd t261 1) 5))))), (by first | rfl | (simp; done) | (simp [*]; done)), H', ⟨by have := HK1.out; first | omega | exact Nat.le_refl _⟩, ⟨by (with_reducible repeat (first | apply Kd.R_alloc | apply Kd.R_drewN | apply Kd.R_drew)); exact HO_3.out⟩, ⟨by (with_reducible repeat (first | apply Kd.R_alloc | apply Kd.R_drewN | apply Kd.R_drew)); exact HO_8.out⟩, ⟨by (with_reducible repeat (first | apply Kd.R_alloc | apply Kd.R_drewN | apply Kd.R_drew)); exact HO_10.out⟩, ⟨by repeat (first | (with_reducible first | exact HB.out | apply below_alloc | apply pw_below_drewN | apply below_drew1) | exact HB.out)⟩⟩
                · rw [if_neg c19] at H
                  have c19b0 : decide ((wrap64 (1 + (Int.tmod (rd t261 0) 20))) ≤ x12_1) = false := decide_eq_false c19
                  clear c19
                  (first | rw [c19b0] | (simp only [i64_w, i32_w]; rw [c19b0]) | skip)
                  have H' := Aside0.mk H
                  clear H
                  go_wp2
                  go_meet
                  case rel => exact ⟨_, (false), (by first | rfl | (simp; done) | (simp [*]; done)), H', ⟨by have := HK1.out; first | omega | exact Nat.le_refl _⟩, ⟨by (with_reducible repeat (first | apply Kd.R_alloc | apply Kd.R_drewN | apply Kd.R_drew)); exact HO_3.out⟩, ⟨by (with_reducible repeat (first | apply Kd.R_alloc | apply Kd.R_drewN | apply Kd.R_drew)); exact HO_8.out⟩, ⟨by (with_reducible repeat (first | apply Kd.R_alloc | apply Kd.R_drewN | apply Kd.R_drew)); exact HO_10.out⟩, ⟨by repeat (first | (with_reducible first | exact HB.out | apply below_alloc | apply pw_below_drewN | apply below_drew1) | exact HB.out)⟩⟩
              case rest =>
                clear HC18
                try clear c1
                try clear c2
                try clear p2
                try clear q2
                try clear hx2
                try clear qi2
                try clear c3
                try clear c6
                try clear c6b0
                try clear c6b1
                try clear p6
                try clear c7
                try clear c7b0
                try clear c7b1
                try clear c11
                try clear c13
                try clear c16
                try clear c16b0
                try clear c19
                try clear c19b0
                try clear hx264_0
                try clear hx265_0
                try clear p2
                try clear p264
                try clear p265
                try clear p6
                try clear q2
                try clear q264
                try clear q265
                obtain ⟨kq, x14_17, rfl, HA, HJ17, HO_3, HO_8, HO_10, HB⟩ := hcut
                cases kq with
                | zero => exact absurd HA.out (by simp [laws_FnSets.j1])
                | succ kj17 =>
                  have H := HA.out
                  clear HA
                  simp only [laws_FnSets.j1] at H
                  replace H := Option.bind_eq_some_iff.mp H
                  obtain ⟨t275, A200, H⟩ := H
                  replace H : (if t274 = true then (if (t275 != true) = true then (some false) else ((impl_SetHas.f kj17 t270 x12_1).bind fun t276 => (if (t276 != (!x14_17)) = true then (some false) else (laws_FnSets.l0 kj17 t255 (wrap64 (1 + (Int.tmod (rd t261 0) 20))) (wrap64 ((wrap64 (1 + (Int.tmod (rd t261 0) 20))) + (Int.tmod (rd t261 1) 5))) t266 t267 t270 t271 (wrap64 (x12_1 + 1)))))) else (if (t275 != x14_17) = true then (some false) else ((impl_SetHas.f kj17 t270 x12_1).bind fun t277 => (if (t277 != false) = true then (some false) else (laws_FnSets.l0 kj17 t255 (wrap64 (1 + (Int.tmod (rd t261 0) 20))) (wrap64 ((wrap64 (1 + (Int.tmod (rd t261 0) 20))) + (Int.tmod (rd t261 1) 5))) t266 t267 t270 t271 (wrap64 (x12_1 + 1))))))) = some r := H
                  have A20 := Aside0.mk A200
                  clear A200
                  by_cases c21 : t274 = true
                  · subst c21
                    have H1 : (if (t275 != true) = true then (some false) else ((impl_SetHas.f kj17 t270 x12_1).bind fun t276 => (if (t276 != (!x14_17)) = true then (some false) else (laws_FnSets.l0 kj17 t255 (wrap64 (1 + (Int.tmod (rd t261 0) 20))) (wrap64 ((wrap64 (1 + (Int.tmod (rd t261 0) 20))) + (Int.tmod (rd t261 1) 5))) t266 t267 t270 t271 (wrap64 (x12_1 + 1)))))) = some r := by rw [if_pos rfl] at H; exact H
                    clear H
                    have H := H1
                    clear H1
                    by_cases c22 : (t275 != true) = true
                    · rw [if_pos c22] at H
                      have c22b0 : (t275 != true) = true := c22
                      (try (have c22b1 : decide (t275 = true) = false := by simpa using c22))
                      (try (have c22b2 : (t275 == true) = false := by simpa using c22))
                      (try (have c22b3 : ¬ (t275 = true) := by simpa using c22))
                      clear c22
                      obtain rfl := Option.some.inj H
                      exact absurd HR_.out (by decide)
                    · rw [if_neg c22] at H
                      have c22b0 : (t275 != true) = false := by simpa using c22
                      (try (have c22b1 : decide (t275 = true) = true := by simpa using c22))
                      (try (have c22b2 : (t275 == true) = true := by simpa using c22))
                      clear c22
                      replace H := Option.bind_eq_some_iff.mp H
                      obtain ⟨t276, A250, H⟩ := H
                      replace H : (if (t276 != (!x14_17)) = true then (some false) else (laws_FnSets.l0 kj17 t255 (wrap64 (1 + (Int.tmod (rd t261 0) 20))) (wrap64 ((wrap64 (1 + (Int.tmod (rd t261 0) 20))) + (Int.tmod (rd t261 1) 5))) t266 t267 t270 t271 (wrap64 (x12_1 + 1)))) = some r := H
                      have A25 := Aside0.mk A250
                      clear A250
                      by_cases c26 : (t276 != (!x14_17)) = true
                      · rw [if_pos c26] at H
                        have c26b0 : (t276 != (!x14_17)) = true := c26
                        have c26n0 : (t276 == x14_17) = true := by cases t276 <;> cases x14_17 <;> simp at c26b0 ⊢
                        have c26n1 : (t276 != x14_17) = false := by cases t276 <;> cases x14_17 <;> simp at c26b0 ⊢
                        have c26n2 : decide (t276 = x14_17) = true := by cases t276 <;> cases x14_17 <;> simp at c26b0 ⊢
                        have c26n3 : (t276 = x14_17) = True := by cases t276 <;> cases x14_17 <;> simp at c26b0 ⊢
                        have c26n4 : (x14_17 == t276) = true := by cases t276 <;> cases x14_17 <;> simp at c26b0 ⊢
                        have c26n5 : (t276 == (!x14_17)) = false := by cases t276 <;> cases x14_17 <;> simp at c26b0 ⊢
                        have c26n6 : (!(t276 == (!x14_17))) = true := by cases t276 <;> cases x14_17 <;> simp at c26b0 ⊢
                        (try (have c26b1 : decide (t276 = (!x14_17)) = false := by simpa using c26))
                        (try (have c26b2 : (t276 == (!x14_17)) = false := by simpa using c26))
                        (try (have c26b3 : ¬ (t276 = (!x14_17)) := by simpa using c26))
                        clear c26
                        obtain rfl := Option.some.inj H
                        exact absurd HR_.out (by decide)
                      · rw [if_neg c26] at H
                        have c26b0 : (t276 != (!x14_17)) = false := by simpa using c26
                        have c26n0 : (t276 == x14_17) = false := by cases t276 <;> cases x14_17 <;> simp at c26b0 ⊢
                        have c26n1 : (t276 != x14_17) = true := by cases t276 <;> cases x14_17 <;> simp at c26b0 ⊢
                        have c26n2 : decide (t276 = x14_17) = false := by cases t276 <;> cases x14_17 <;> simp at c26b0 ⊢
                        have c26n3 : (t276 = x14_17) = False := by cases t276 <;> cases x14_17 <;> simp at c26b0 ⊢
                        have c26n4 : (x14_17 == t276) = false := by cases t276 <;> cases x14_17 <;> simp at c26b0 ⊢
                        have c26n5 : (t276 == (!x14_17)) = true := by cases t276 <;> cases x14_17 <;> simp at c26b0 ⊢
                        have c26n6 : (!(t276 == (!x14_17))) = false := by cases t276 <;> cases x14_17 <;> simp at c26b0 ⊢
                        (try (have c26b1 : decide (t276 = (!x14_17)) = true := by simpa using c26))
                        (try (have c26b2 : (t276 == (!x14_17)) = true := by simpa using c26))
                        clear c26
                        have H' := Aside0.mk H
                        clear H
                        obtain ⟨Ao31, co31, eo31⟩ := Kd.R_slice HO_8.out
                        subst eo31
                        go_wp2_with (first | ((with_reducible refine gate_callee (f := 15) rfl ?_); refine goesL_ (some 66) rfl rfl Try.func15 (by kernel_rfl) rfl #[.slice Ao31 t266.length co31, .int .i64 x12_1] rfl (by (try simp only [List.map_toArray, List.map_cons, List.map_nil]); first | done | rfl | (simp only [List.length_drop, List.length_take]; rfl)) ?_; (with_reducible refine (impl_SetHas.calls kj17 _ _ t266 x12_1 t275 _ ?side1 ?side2 A20.out).mono ?_); (case side1 => repeat (first | exact (Kd.R_reads' HO_8.out).2.2 | (with_reducible refine Kd.C_alloc ?_ _) | (with_reducible refine Kd.C_drewN ?_ _) | (with_reducible refine Kd.C_drew ?_))); (case side2 => exact (Kd.R_reads' HO_8.out).2.1); rintro e w32 ⟨rfl, hb⟩; refine ⟨_, rfl, ?_⟩; have n0_ := Aside0.mk (Kd.R_below (by (with_reducible repeat (first | apply Kd.R_alloc | apply Kd.R_drewN | apply Kd.R_drew)); exact HO_3.out) hb); have n1_ := Aside0.mk (Kd.R_below (by (with_reducible repeat (first | apply Kd.R_alloc | apply Kd.R_drewN | apply Kd.R_drew)); exact HO_8.out) hb); have n2_ := Aside0.mk (Kd.R_below (by (with_reducible repeat (first | apply Kd.R_alloc | apply Kd.R_drewN | apply Kd.R_drew)); exact HO_10.out) hb); have n3_ := Aside0.mk (below_step (by repeat (first | (with_reducible first | exact HB.out | apply below_alloc | apply pw_below_drewN | apply below_drew1) | exact HB.out)) hb); clear HO_3; clear HO_8; clear HO_10; clear HB; have HO_3 := n0_; have HO_8 := n1_; have HO_10 := n2_; have HB := n3_; clear n0_ n1_ n2_ n3_; (try clear hb); (try clear hb2); (try clear hk); (try clear hi); obtain ⟨Ao33, co33, eo33⟩ := Kd.R_slice HO_10.out; subst eo33) | (go_at_call 15; (with_reducible refine (impl_SetHas.calls kj17 _ _ t270 x12_1 t276 _ ?side1 ?side2 A25.out).mono ?_); (case side1 => repeat (first | exact (Kd.R_reads' HO_10.out).2.2 | (with_reducible refine Kd.C_alloc ?_ _) | (with_reducible refine Kd.C_drewN ?_ _) | (with_reducible refine Kd.C_drew ?_))); (case side2 => exact (Kd.R_reads' HO_10.out).2.1); rintro e w34 ⟨rfl, hb⟩; have n0_ := Aside0.mk (Kd.R_below (by (with_reducible repeat (first | apply Kd.R_alloc | apply Kd.R_drewN | apply Kd.R_drew)); exact HO_3.out) hb); have n1_ := Aside0.mk (Kd.R_below (by (with_reducible repeat (first | apply Kd.R_alloc | apply Kd.R_drewN | apply Kd.R_drew)); exact HO_8.out) hb); have n2_ := Aside0.mk (Kd.R_below (by (with_reducible repeat (first | apply Kd.R_alloc | apply Kd.R_drewN | apply Kd.R_drew)); exact HO_10.out) hb); have n3_ := Aside0.mk (below_step (by repeat (first | (with_reducible first | exact HB.out | apply below_alloc | apply pw_below_drewN | apply below_drew1) | exact HB.out)) hb); clear HO_3; clear HO_8; clear HO_10; clear HB; have HO_3 := n0_; have HO_8 := n1_; have HO_10 := n2_; have HB := n3_; clear n0_ n1_ n2_ n3_; (try clear hb); (try clear hb2); (try clear hk); (try clear hi)))
                        go_roundg kj17
                        case measure => have := HK1.out; have := HJ17.out; omega
                        case rel => exact ⟨(wrap64 (x12_1 + 1)), (by first | rfl | (simp; done) | (simp [*]; done)), H', ⟨by have := HK1.out; have := HJ17.out; omega⟩, ⟨by (with_reducible repeat (first | apply Kd.R_alloc | apply Kd.R_drewN | apply Kd.R_drew)); exact HO_3.out⟩, ⟨by (with_reducible repeat (first | apply Kd.R_alloc | apply Kd.R_drewN | apply Kd.R_drew)); exact HO_8.out⟩, ⟨by (with_reducible repeat (first | apply Kd.R_alloc | apply Kd.R_drewN | apply Kd.R_drew)); exact HO_10.out⟩, ⟨by repeat (first | (with_reducible first | exact HB.out | apply below_alloc | apply pw_below_drewN | apply below_drew1) | exact HB.out)⟩⟩
                  · replace c21 := Bool.eq_false_iff.mpr c21
                    subst c21
                    have H1 : (if (t275 != x14_17) = true then (some false) else ((impl_SetHas.f kj17 t270 x12_1).bind fun t277 => (if (t277 != false) = true then (some false) else (laws_FnSets.l0 kj17 t255 (wrap64 (1 + (Int.tmod (rd t261 0) 20))) (wrap64 ((wrap64 (1 + (Int.tmod (rd t261 0) 20))) + (Int.tmod (rd t261 1) 5))) t266 t267 t270 t271 (wrap64 (x12_1 + 1)))))) = some r := by rw [if_neg (show ¬ (false = true) by decide)] at H; exact H
                    clear H
                    have H := H1
                    clear H1
                    by_cases c35 : (t275 != x14_17) = true
                    · rw [if_pos c35] at H
                      have c35b0 : (t275 != x14_17) = true := c35
                      (try (have c35b1 : decide (t275 = x14_17) = false := by simpa using c35))
                      (try (have c35b2 : (t275 == x14_17) = false := by simpa using c35))
                      (try (have c35b3 : ¬ (t275 = x14_17) := by simpa using c35))
                      clear c35
                      obtain rfl := Option.some.inj H
                      exact absurd HR_.out (by decide)
                    · rw [if_neg c35] at H
                      have c35b0 : (t275 != x14_17) = false := by simpa using c35
                      (try (have c35b1 : decide (t275 = x14_17) = true := by simpa using c35))
                      (try (have c35b2 : (t275 == x14_17) = true := by simpa using c35))
                      clear c35
                      replace H := Option.bind_eq_some_iff.mp H
                      obtain ⟨t277, A380, H⟩ := H
                      replace H : (if (t277 != false) = true then (some false) else (laws_FnSets.l0 kj17 t255 (wrap64 (1 + (Int.tmod (rd t261 0) 20))) (wrap64 ((wrap64 (1 + (Int.tmod (rd t261 0) 20))) + (Int.tmod (rd t261 1) 5))) t266 t267 t270 t271 (wrap64 (x12_1 + 1)))) = some r := H
                      have A38 := Aside0.mk A380
                      clear A380
                      by_cases c39 : (t277 != false) = true
                      · rw [if_pos c39] at H
                        have c39b0 : (t277 != false) = true := c39
                        (try (have c39b1 : decide (t277 = false) = false := by simpa using c39))
                        (try (have c39b2 : (t277 == false) = false := by simpa using c39))
                        (try (have c39b3 : ¬ (t277 = false) := by simpa using c39))
                        clear c39
                        obtain rfl := Option.some.inj H
                        exact absurd HR_.out (by decide)
                      · rw [if_neg c39] at H
                        have c39b0 : (t277 != false) = false := by simpa using c39
                        (try (have c39b1 : decide (t277 = false) = true := by simpa using c39))
                        (try (have c39b2 : (t277 == false) = true := by simpa using c39))
                        clear c39
                        have H' := Aside0.mk H
                        clear H
                        obtain ⟨Ao44, co44, eo44⟩ := Kd.R_slice HO_8.out
                        subst eo44
                        go_wp2_with (first | ((with_reducible refine gate_callee (f := 15) rfl ?_); refine goesL_ (some 66) rfl rfl Try.func15 (by kernel_rfl) rfl #[.slice Ao44 t266.length co44, .int .i64 x12_1] rfl (by (try simp only [List.map_toArray, List.map_cons, List.map_nil]); first | done | rfl | (simp only [List.length_drop, List.length_take]; rfl)) ?_; (with_reducible refine (impl_SetHas.calls kj17 _ _ t266 x12_1 t275 _ ?side1 ?side2 A20.out).mono ?_); (case side1 => repeat (first | exact (Kd.R_reads' HO_8.out).2.2 | (with_reducible refine Kd.C_alloc ?_ _) | (with_reducible refine Kd.C_drewN ?_ _) | (with_reducible refine Kd.C_drew ?_))); (case side2 => exact (Kd.R_reads' HO_8.out).2.1); rintro e w45 ⟨rfl, hb⟩; refine ⟨_, rfl, ?_⟩; have n0_ := Aside0.mk (Kd.R_below (by (with_reducible repeat (first | apply Kd.R_alloc | apply Kd.R_drewN | apply Kd.R_drew)); exact HO_3.out) hb); have n1_ := Aside0.mk (Kd.R_below (by (with_reducible repeat (first | apply Kd.R_alloc | apply Kd.R_drewN | apply Kd.R_drew)); exact HO_8.out) hb); have n2_ := Aside0.mk (Kd.R_below (by (with_reducible repeat (first | apply Kd.R_alloc | apply Kd.R_drewN | apply Kd.R_drew)); exact HO_10.out) hb); have n3_ := Aside0.mk (below_step (by repeat (first | (with_reducible first | exact HB.out | apply below_alloc | apply pw_below_drewN | apply below_drew1) | exact HB.out)) hb); clear HO_3; clear HO_8; clear HO_10; clear HB; have HO_3 := n0_; have HO_8 := n1_; have HO_10 := n2_; have HB := n3_; clear n0_ n1_ n2_ n3_; (try clear hb); (try clear hb2); (try clear hk); (try clear hi); obtain ⟨Ao46, co46, eo46⟩ := Kd.R_slice HO_10.out; subst eo46) | (go_at_call 15; (with_reducible refine (impl_SetHas.calls kj17 _ _ t270 x12_1 t277 _ ?side1 ?side2 A38.out).mono ?_); (case side1 => repeat (first | exact (Kd.R_reads' HO_10.out).2.2 | (with_reducible refine Kd.C_alloc ?_ _) | (with_reducible refine Kd.C_drewN ?_ _) | (with_reducible refine Kd.C_drew ?_))); (case side2 => exact (Kd.R_reads' HO_10.out).2.1); rintro e w47 ⟨rfl, hb⟩; have n0_ := Aside0.mk (Kd.R_below (by (with_reducible repeat (first | apply Kd.R_alloc | apply Kd.R_drewN | apply Kd.R_drew)); exact HO_3.out) hb); have n1_ := Aside0.mk (Kd.R_below (by (with_reducible repeat (first | apply Kd.R_alloc | apply Kd.R_drewN | apply Kd.R_drew)); exact HO_8.out) hb); have n2_ := Aside0.mk (Kd.R_below (by (with_reducible repeat (first | apply Kd.R_alloc | apply Kd.R_drewN | apply Kd.R_drew)); exact HO_10.out) hb); have n3_ := Aside0.mk (below_step (by repeat (first | (with_reducible first | exact HB.out | apply below_alloc | apply pw_below_drewN | apply below_drew1) | exact HB.out)) hb); clear HO_3; clear HO_8; clear HO_10; clear HB; have HO_3 := n0_; have HO_8 := n1_; have HO_10 := n2_; have HB := n3_; clear n0_ n1_ n2_ n3_; (try clear hb); (try clear hb2); (try clear hk); (try clear hi)))
                        go_roundg kj17
                        case measure => have := HK1.out; have := HJ17.out; omega
                        case rel => exact ⟨(wrap64 (x12_1 + 1)), (by first | rfl | (simp; done) | (simp [*]; done)), H', ⟨by have := HK1.out; have := HJ17.out; omega⟩, ⟨by (with_reducible repeat (first | apply Kd.R_alloc | apply Kd.R_drewN | apply Kd.R_drew)); exact HO_3.out⟩, ⟨by (with_reducible repeat (first | apply Kd.R_alloc | apply Kd.R_drewN | apply Kd.R_drew)); exact HO_8.out⟩, ⟨by (with_reducible repeat (first | apply Kd.R_alloc | apply Kd.R_drewN | apply Kd.R_drew)); exact HO_10.out⟩, ⟨by repeat (first | (with_reducible first | exact HB.out | apply below_alloc | apply pw_below_drewN | apply below_drew1) | exact HB.out)⟩⟩
            · rw [if_neg c16] at H
              have c16b0 : decide (x12_1 < 40) = false := decide_eq_false c16
              clear c16
              by_cases c48 : t267 = true
              · subst c48
                have H1 : (if t271 = true then ((impl_SetOk.f k1 t266).bind fun t278 => (if t278 = true then ((impl_SetOk.f k1 t270).bind fun t279 => (if t279 = true then ((impl_SetSize.f k1 t266).bind fun t280 => ((impl_SetSize.f k1 t270).bind fun t281 => (some ((wrap64 (t280 - t281)) == (wrap64 ((wrap64 ((wrap64 ((wrap64 (1 + (Int.tmod (rd t261 0) 20))) + (Int.tmod (rd t261 1) 5))) - (wrap64 (1 + (Int.tmod (rd t261 0) 20))))) + 1)))))) else (some false))) else (some false))) else (some false)) = some r := by rw [if_pos rfl] at H; exact H
                clear H
                have H := H1
                clear H1
                by_cases c49 : t271 = true
                · subst c49
                  have H1 : ((impl_SetOk.f k1 t266).bind fun t278 => (if t278 = true then ((impl_SetOk.f k1 t270).bind fun t279 => (if t279 = true then ((impl_SetSize.f k1 t266).bind fun t280 => ((impl_SetSize.f k1 t270).bind fun t281 => (some ((wrap64 (t280 - t281)) == (wrap64 ((wrap64 ((wrap64 ((wrap64 (1 + (Int.tmod (rd t261 0) 20))) + (Int.tmod (rd t261 1) 5))) - (wrap64 (1 + (Int.tmod (rd t261 0) 20))))) + 1)))))) else (some false))) else (some false))) = some r := by rw [if_pos rfl] at H; exact H
                  clear H
                  have H := H1
                  clear H1
                  replace H := Option.bind_eq_some_iff.mp H
                  obtain ⟨t278, A500, H⟩ := H
                  replace H : (if t278 = true then ((impl_SetOk.f k1 t270).bind fun t279 => (if t279 = true then ((impl_SetSize.f k1 t266).bind fun t280 => ((impl_SetSize.f k1 t270).bind fun t281 => (some ((wrap64 (t280 - t281)) == (wrap64 ((wrap64 ((wrap64 ((wrap64 (1 + (Int.tmod (rd t261 0) 20))) + (Int.tmod (rd t261 1) 5))) - (wrap64 (1 + (Int.tmod (rd t261 0) 20))))) + 1)))))) else (some false))) else (some false)) = some r := H
                  have A50 := Aside0.mk A500
                  clear A500
                  by_cases c51 : t278 = true
                  · subst c51
                    have H1 : ((impl_SetOk.f k1 t270).bind fun t279 => (if t279 = true then ((impl_SetSize.f k1 t266).bind fun t280 => ((impl_SetSize.f k1 t270).bind fun t281 => (some ((wrap64 (t280 - t281)) == (wrap64 ((wrap64 ((wrap64 ((wrap64 (1 + (Int.tmod (rd t261 0) 20))) + (Int.tmod (rd t261 1) 5))) - (wrap64 (1 + (Int.tmod (rd t261 0) 20))))) + 1)))))) else (some false))) = some r := by rw [if_pos rfl] at H; exact H
                    clear H
                    have H := H1
                    clear H1
                    replace H := Option.bind_eq_some_iff.mp H
                    obtain ⟨t279, A520, H⟩ := H
                    replace H : (if t279 = true then ((impl_SetSize.f k1 t266).bind fun t280 => ((impl_SetSize.f k1 t270).bind fun t281 => (some ((wrap64 (t280 - t281)) == (wrap64 ((wrap64 ((wrap64 ((wrap64 (1 + (Int.tmod (rd t261 0) 20))) + (Int.tmod (rd t261 1) 5))) - (wrap64 (1 + (Int.tmod (rd t261 0) 20))))) + 1)))))) else (some false)) = some r := H
                    have A52 := Aside0.mk A520
                    clear A520
                    by_cases c53 : t279 = true
                    · subst c53
                      have H1 : ((impl_SetSize.f k1 t266).bind fun t280 => ((impl_SetSize.f k1 t270).bind fun t281 => (some ((wrap64 (t280 - t281)) == (wrap64 ((wrap64 ((wrap64 ((wrap64 (1 + (Int.tmod (rd t261 0) 20))) + (Int.tmod (rd t261 1) 5))) - (wrap64 (1 + (Int.tmod (rd t261 0) 20))))) + 1)))))) = some r := by rw [if_pos rfl] at H; exact H
                      clear H
                      have H := H1
                      clear H1
                      replace H := Option.bind_eq_some_iff.mp H
                      obtain ⟨t280, A540, H⟩ := H
                      replace H : ((impl_SetSize.f k1 t270).bind fun t281 => (some ((wrap64 (t280 - t281)) == (wrap64 ((wrap64 ((wrap64 ((wrap64 (1 + (Int.tmod (rd t261 0) 20))) + (Int.tmod (rd t261 1) 5))) - (wrap64 (1 + (Int.tmod (rd t261 0) 20))))) + 1))))) = some r := H
                      have A54 := Aside0.mk A540
                      clear A540
                      replace H := Option.bind_eq_some_iff.mp H
                      obtain ⟨t281, A550, H⟩ := H
                      replace H : (some ((wrap64 (t280 - t281)) == (wrap64 ((wrap64 ((wrap64 ((wrap64 (1 + (Int.tmod (rd t261 0) 20))) + (Int.tmod (rd t261 1) 5))) - (wrap64 (1 + (Int.tmod (rd t261 0) 20))))) + 1)))) = some r := H
                      have A55 := Aside0.mk A550
                      clear A550
                      obtain rfl := Option.some.inj H
                      obtain ⟨Ao56, co56, eo56⟩ := Kd.R_slice HO_8.out
                      subst eo56
                      go_wp2_with (first | (go_at_call 18; (with_reducible refine (impl_SetOk.calls k1 _ _ t266 true _ ?side1 ?side2 A50.out).mono ?_); (case side1 => repeat (first | exact (Kd.R_reads' HO_8.out).2.2 | (with_reducible refine Kd.C_alloc ?_ _) | (with_reducible refine Kd.C_drewN ?_ _) | (with_reducible refine Kd.C_drew ?_))); (case side2 => exact (Kd.R_reads' HO_8.out).2.1); rintro e w57 ⟨rfl, hb⟩; have n0_ := Aside0.mk (Kd.R_below (by (with_reducible repeat (first | apply Kd.R_alloc | apply Kd.R_drewN | apply Kd.R_drew)); exact HO_3.out) hb); have n1_ := Aside0.mk (Kd.R_below (by (with_reducible repeat (first | apply Kd.R_alloc | apply Kd.R_drewN | apply Kd.R_drew)); exact HO_8.out) hb); have n2_ := Aside0.mk (Kd.R_below (by (with_reducible repeat (first | apply Kd.R_alloc | apply Kd.R_drewN | apply Kd.R_drew)); exact HO_10.out) hb); have n3_ := Aside0.mk (below_step (by repeat (first | (with_reducible first | exact HB.out | apply below_alloc | apply pw_below_drewN | apply below_drew1) | exact HB.out)) hb); clear HO_3; clear HO_8; clear HO_10; clear HB; have HO_3 := n0_; have HO_8 := n1_; have HO_10 := n2_; have HB := n3_; clear n0_ n1_ n2_ n3_; (try clear hb); (try clear hb2); (try clear hk); (try clear hi); obtain ⟨Ao58, co58, eo58⟩ := Kd.R_slice HO_10.out; subst eo58) | (go_at_call 18; (with_reducible refine (impl_SetOk.calls k1 _ _ t270 true _ ?side1 ?side2 A52.out).mono ?_); (case side1 => repeat (first | exact (Kd.R_reads' HO_10.out).2.2 | (with_reducible refine Kd.C_alloc ?_ _) | (with_reducible refine Kd.C_drewN ?_ _) | (with_reducible refine Kd.C_drew ?_))); (case side2 => exact (Kd.R_reads' HO_10.out).2.1); rintro e w59 ⟨rfl, hb⟩; have n0_ := Aside0.mk (Kd.R_below (by (with_reducible repeat (first | apply Kd.R_alloc | apply Kd.R_drewN | apply Kd.R_drew)); exact HO_3.out) hb); have n1_ := Aside0.mk (Kd.R_below (by (with_reducible repeat (first | apply Kd.R_alloc | apply Kd.R_drewN | apply Kd.R_drew)); exact HO_8.out) hb); have n2_ := Aside0.mk (Kd.R_below (by (with_reducible repeat (first | apply Kd.R_alloc | apply Kd.R_drewN | apply Kd.R_drew)); exact HO_10.out) hb); have n3_ := Aside0.mk (below_step (by repeat (first | (with_reducible first | exact HB.out | apply below_alloc | apply pw_below_drewN | apply below_drew1) | exact HB.out)) hb); clear HO_3; clear HO_8; clear HO_10; clear HB; have HO_3 := n0_; have HO_8 := n1_; have HO_10 := n2_; have HB := n3_; clear n0_ n1_ n2_ n3_; (try clear hb); (try clear hb2); (try clear hk); (try clear hi)) | (go_at_call 20; (with_reducible refine (impl_SetSize.calls k1 _ _ t266 t280 _ ?side1 ?side2 A54.out).mono ?_); (case side1 => repeat (first | exact (Kd.R_reads' HO_8.out).2.2 | (with_reducible refine Kd.C_alloc ?_ _) | (with_reducible refine Kd.C_drewN ?_ _) | (with_reducible refine Kd.C_drew ?_))); (case side2 => exact (Kd.R_reads' HO_8.out).2.1); rintro e w60 ⟨rfl, hb⟩; have n0_ := Aside0.mk (Kd.R_below (by (with_reducible repeat (first | apply Kd.R_alloc | apply Kd.R_drewN | apply Kd.R_drew)); exact HO_3.out) hb); have n1_ := Aside0.mk (Kd.R_below (by (with_reducible repeat (first | apply Kd.R_alloc | apply Kd.R_drewN | apply Kd.R_drew)); exact HO_8.out) hb); have n2_ := Aside0.mk (Kd.R_below (by (with_reducible repeat (first | apply Kd.R_alloc | apply Kd.R_drewN | apply Kd.R_drew)); exact HO_10.out) hb); have n3_ := Aside0.mk (below_step (by repeat (first | (with_reducible first | exact HB.out | apply below_alloc | apply pw_below_drewN | apply below_drew1) | exact HB.out)) hb); clear HO_3; clear HO_8; clear HO_10; clear HB; have HO_3 := n0_; have HO_8 := n1_; have HO_10 := n2_; have HB := n3_; clear n0_ n1_ n2_ n3_; (try clear hb); (try clear hb2); (try clear hk); (try clear hi)) | (go_at_call 20; (with_reducible refine (impl_SetSize.calls k1 _ _ t270 t281 _ ?side1 ?side2 A55.out).mono ?_); (case side1 => repeat (first | exact (Kd.R_reads' HO_10.out).2.2 | (with_reducible refine Kd.C_alloc ?_ _) | (with_reducible refine Kd.C_drewN ?_ _) | (with_reducible refine Kd.C_drew ?_))); (case side2 => exact (Kd.R_reads' HO_10.out).2.1); rintro e w61 ⟨rfl, hb⟩; have n0_ := Aside0.mk (Kd.R_below (by (with_reducible repeat (first | apply Kd.R_alloc | apply Kd.R_drewN | apply Kd.R_drew)); exact HO_3.out) hb); have n1_ := Aside0.mk (Kd.R_below (by (with_reducible repeat (first | apply Kd.R_alloc | apply Kd.R_drewN | apply Kd.R_drew)); exact HO_8.out) hb); have n2_ := Aside0.mk (Kd.R_below (by (with_reducible repeat (first | apply Kd.R_alloc | apply Kd.R_drewN | apply Kd.R_drew)); exact HO_10.out) hb); have n3_ := Aside0.mk (below_step (by repeat (first | (with_reducible first | exact HB.out | apply below_alloc | apply pw_below_drewN | apply below_drew1) | exact HB.out)) hb); clear HO_3; clear HO_8; clear HO_10; clear HB; have HO_3 := n0_; have HO_8 := n1_; have HO_10 := n2_; have HB := n3_; clear n0_ n1_ n2_ n3_; (try clear hb); (try clear hb2); (try clear hk); (try clear hi)))
                      go_ret
                      exact ⟨by first | rfl | (simp [errW_none, errW_some] <;> rfl) | (simp [*, errW_none, errW_some] <;> rfl), by repeat (first | (with_reducible first | exact HB.out | apply below_alloc | apply pw_below_drewN | apply below_drew1) | exact HB.out)⟩
                    · replace c53 := Bool.eq_false_iff.mpr c53
                      subst c53
                      have H1 : (some false) = some r := by rw [if_neg (show ¬ (false = true) by decide)] at H; exact H
                      clear H
                      have H := H1
                      clear H1
                      obtain rfl := Option.some.inj H
                      exact absurd HR_.out (by decide)
                  · replace c51 := Bool.eq_false_iff.mpr c51
                    subst c51
                    have H1 : (some false) = some r := by rw [if_neg (show ¬ (false = true) by decide)] at H; exact H
                    clear H
                    have H := H1
                    clear H1
                    obtain rfl := Option.some.inj H
                    exact absurd HR_.out (by decide)
                · replace c49 := Bool.eq_false_iff.mpr c49
                  subst c49
                  have H1 : (some false) = some r := by rw [if_neg (show ¬ (false = true) by decide)] at H; exact H
                  clear H
                  have H := H1
                  clear H1
                  obtain rfl := Option.some.inj H
                  exact absurd HR_.out (by decide)
              · replace c48 := Bool.eq_false_iff.mpr c48
                subst c48
                have H1 : (some false) = some r := by rw [if_neg (show ¬ (false = true) by decide)] at H; exact H
                clear H
                have H := H1
                clear H1
                obtain rfl := Option.some.inj H
                exact absurd HR_.out (by decide)
      · rw [if_neg c7] at H
        exact absurd H (by simp)
    · rw [if_neg c6] at H
      exact absurd H (by simp)

/-- THE ONE PURE STATEMENT of laws_FnSets: yours. -/
def laws_FnSets.Pure : Prop := ∀ (l0 : List Int), l0.length ≤ maxLen → l0.length * 1 ≤ 140737488351232 → (∀ x ∈ l0, (Lit.int .u8 x).wf = true) → ∃ k, laws_FnSets.f k l0 = some true
theorem laws_FnSets.walk (P : laws_FnSets.Pure) (a0 : Option Addr) (len0 cap0 : Nat) (z0 : List Int) (w : World) (w0 : (a0 = none ∧ len0 = 0 ∧ cap0 = 0 ∧ z0 = []) ∨ ∃ x, a0 = some x ∧ len0 ≤ cap0 ∧ cap0 ≤ maxLen ∧ z0.length = cap0 ∧ (∀ i, i < z0.length → w.cell? (x.add i) = some (.int .u8 (z0.getD i 0))) ∧ ∀ n ∈ z0, (Lit.int .u8 n).wf = true) (y0 : len0 * 1 ≤ 140737488351232) :
    Calls Try.prog 11 #[.slice a0 len0 cap0] w fun e w' => e = .returned (.bool true) ∧ Below w.heap.size w w' := by
  obtain ⟨l0, rfl, hr0, hm0, hw0, hc0⟩ := ReadsInt.ofRowC w0
  obtain ⟨k, h⟩ := P l0 hm0 y0 hw0
  refine (laws_FnSets.calls k _ _ l0 true w (Kd.C_of_reads (d := (0 : Int)) (h1 := fun _ => rfl) hr0) hc0 rfl h).mono ?_
  rintro e w' ⟨rfl, hd⟩
  exact ⟨rfl, hd⟩

end Go.Proofs.Ythngecooaddddaa.PFnSets
