import Derived.Test.YthngecooaddddaaDoorQFnSetsToldx0
import Derived.Test.YthngecooaddddaaDoorQFnSetsToldx2
import Derived.Test.YthngecooaddddaaDoorQFnSetsToldx3
import Derived.Test.YthngecooaddddaaDoorQFnSetsToldx4
import Derived.Test.YthngecooaddddaaDoorQFnSetsToldx5
import Derived.Test.YthngecooaddddaaDoorQFnSetsToldx6
import Derived.Test.YthngecooaddddaaDoorQFnSetsToldx7
import Derived.Test.YthngecooaddddaaDoorQFnSetsToldx8
import Derived.Test.YthngecooaddddaaDoorQFnSetsToldx9
import Derived.Test.YthngecooaddddaaDoorQFnSetsToldx10
namespace Go.Proofs.YthngecooaddddaaDoor.PFnSetsTold
open Go.RowKit Go.Proofs.YthngecooaddddaaDoorW.PrintWords Go.Proofs.YthngecooaddddaaDoorW.PrintLast Go.Proofs.YthngecooaddddaaDoorW.PrintMore
attribute [local go_sem] max2_int min2_int max_two min_two max_three min_three max_four min_four   -- for this text's walks alone
set_option linter.unusedVariables false
set_option linter.unusedSimpArgs false

/-! ### laws_FnSetsTold: function 3 -/
def laws_FnSetsTold.f (k : Nat) (l0 : List Int) : Option (Bool) := (laws_big.f l0).bind fun t446 => (if t446 = true then (some true) else ((spec_DrawSetAdd.f k l0).bind fun bt447 => ((impl_SetAdd.f k bt447.1 bt447.2.1 bt447.2.2).bind fun bt452 => ((spec_SetAdd.f k bt447.1 bt447.2.1 bt447.2.2).bind fun bt456 => ((impl_SetDrop.f k bt447.1 bt447.2.1 bt447.2.2).bind fun bt460 => ((spec_SetDrop.f k bt447.1 bt447.2.1 bt447.2.2).bind fun bt464 => ((spec_DrawSetJoin.f k l0).bind fun bt468 => ((impl_SetJoin.f k bt468.1 bt468.2).bind fun bt474 => ((spec_SetJoin.f k bt468.1 bt468.2).bind fun bt478 => ((spec_DrawReadSet.f k l0).bind fun bt482 => ((impl_ReadSet.f k bt482.1 bt482.2).bind fun bt484 => ((spec_ReadSet.f k bt482.1 bt482.2).bind fun bt488 => (if (bt452.2 == bt456.2) = true then ((laws_sameSet.f k bt452.1 bt456.1).bind fun t492 => (if t492 = true then (if (bt460.2 == bt464.2) = true then ((laws_sameSet.f k bt460.1 bt464.1).bind fun t493 => (if t493 = true then (if (bt474.2 == bt478.2) = true then ((laws_sameSet.f k bt474.1 bt478.1).bind fun t494 => (if t494 = true then (if (bt484.2 == bt488.2) = true then ((laws_sameSet.f k bt484.1 bt488.1).bind fun t495 => (if t495 = true then ((impl_SetOk.f k bt447.1).bind fun t496 => ((spec_SetOk.f k bt447.1).bind fun t497 => (if (t496 == t497) = true then ((impl_SetSize.f k bt447.1).bind fun t498 => ((spec_SetSize.f k bt447.1).bind fun t499 => (some (t498 == t499)))) else (some false)))) else (some false))) else (some false)) else (some false))) else (some false)) else (some false))) else (some false)) else (some false))) else (some false))))))))))))))
theorem laws_FnSetsTold.mono : ∀ a0 k, LeO (laws_FnSetsTold.f k a0) (laws_FnSetsTold.f (k + 1) a0) := by
 intro a0 k
 unfold laws_FnSetsTold.f
 repeat' first
   | (with_reducible exact impl_ReadSet.mono _ _ _)
   | (with_reducible exact impl_SetAdd.mono _ _ _ _)
   | (with_reducible exact impl_SetDrop.mono _ _ _ _)
   | (with_reducible exact impl_SetJoin.mono _ _ _)
   | (with_reducible exact impl_SetOk.mono _ _)
   | (with_reducible exact impl_SetSize.mono _ _)
   | (with_reducible exact laws_sameSet.mono _ _ _)
   | (with_reducible exact spec_DrawReadSet.mono _ _)
   | (with_reducible exact spec_DrawSetAdd.mono _ _)
   | (with_reducible exact spec_DrawSetJoin.mono _ _)
   | (with_reducible exact spec_ReadSet.mono _ _ _)
   | (with_reducible exact spec_SetAdd.mono _ _ _ _)
   | (with_reducible exact spec_SetDrop.mono _ _ _ _)
   | (with_reducible exact spec_SetJoin.mono _ _ _)
   | (with_reducible exact spec_SetOk.mono _ _)
   | (with_reducible exact spec_SetSize.mono _ _)
   | (with_reducible exact LeO.refl _)
   | (with_reducible exact LeO.none _)
   | (with_reducible refine LeO.ite ?_ ?_)
   | (with_reducible refine LeO.bind ?_ (fun _ => ?_))
   | exact impl_ReadSet.mono _ _ _
   | exact impl_SetAdd.mono _ _ _ _
   | exact impl_SetDrop.mono _ _ _ _
   | exact impl_SetJoin.mono _ _ _
   | exact impl_SetOk.mono _ _
   | exact impl_SetSize.mono _ _
   | exact laws_sameSet.mono _ _ _
   | exact spec_DrawReadSet.mono _ _
   | exact spec_DrawSetAdd.mono _ _
   | exact spec_DrawSetJoin.mono _ _
   | exact spec_ReadSet.mono _ _ _
   | exact spec_SetAdd.mono _ _ _ _
   | exact spec_SetDrop.mono _ _ _ _
   | exact spec_SetJoin.mono _ _ _
   | exact spec_SetOk.mono _ _
   | exact spec_SetSize.mono _ _
   | exact LeO.none _
   | refine LeO.ite ?_ ?_
   | refine LeO.bind ?_ (fun _ => ?_)
set_option maxHeartbeats 8000000 in
set_option maxRecDepth 100000 in
theorem laws_FnSetsTold.calls (k : Nat) (A0 : Option Addr) (c0 : Nat) (l0 : List Int) (r : Bool) (w : World) (hr0 : Kd.C (Kd.int .u8) w A0 l0.length l0) (hc0 : l0.length ≤ c0) (hr_ : r = true) (hgl : GlobOk w) (h : laws_FnSetsTold.f k l0 = some r) :
  Calls Tryd.prog 3 #[.slice A0 l0.length c0] w fun e w' => e = .returned (.bool r) ∧ Below w.heap.size w w' := by
 have HR0 := Aside0.mk hr0
 have HC0 := Aside0.mk hc0
 clear hr0 hc0
 have HB := Aside0.mk (Below.refl w.heap.size w)
 have HGL := Aside0.mk hgl
 clear hgl
 have HR_ := Aside0.mk hr_
 clear hr_
 have H : ((laws_big.f l0).bind fun t446 => (if t446 = true then (some true) else ((spec_DrawSetAdd.f k l0).bind fun bt447 => ((impl_SetAdd.f k bt447.1 bt447.2.1 bt447.2.2).bind fun bt452 => ((spec_SetAdd.f k bt447.1 bt447.2.1 bt447.2.2).bind fun bt456 => ((impl_SetDrop.f k bt447.1 bt447.2.1 bt447.2.2).bind fun bt460 => ((spec_SetDrop.f k bt447.1 bt447.2.1 bt447.2.2).bind fun bt464 => ((spec_DrawSetJoin.f k l0).bind fun bt468 => ((impl_SetJoin.f k bt468.1 bt468.2).bind fun bt474 => ((spec_SetJoin.f k bt468.1 bt468.2).bind fun bt478 => ((spec_DrawReadSet.f k l0).bind fun bt482 => ((impl_ReadSet.f k bt482.1 bt482.2).bind fun bt484 => ((spec_ReadSet.f k bt482.1 bt482.2).bind fun bt488 => (if (bt452.2 == bt456.2) = true then ((laws_sameSet.f k bt452.1 bt456.1).bind fun t492 => (if t492 = true then (if (bt460.2 == bt464.2) = true then ((laws_sameSet.f k bt460.1 bt464.1).bind fun t493 => (if t493 = true then (if (bt474.2 == bt478.2) = true then ((laws_sameSet.f k bt474.1 bt478.1).bind fun t494 => (if t494 = true then (if (bt484.2 == bt488.2) = true then ((laws_sameSet.f k bt484.1 bt488.1).bind fun t495 => (if t495 = true then ((impl_SetOk.f k bt447.1).bind fun t496 => ((spec_SetOk.f k bt447.1).bind fun t497 => (if (t496 == t497) = true then ((impl_SetSize.f k bt447.1).bind fun t498 => ((spec_SetSize.f k bt447.1).bind fun t499 => (some (t498 == t499)))) else (some false)))) else (some false))) else (some false)) else (some false))) else (some false)) else (some false))) else (some false)) else (some false))) else (some false))))))))))))))) = some r := h
 clear h
 replace H := Option.bind_eq_some_iff.mp H
 obtain ⟨t446, A20, H⟩ := H
 have A2 := Aside0.mk A20
 clear A20
 by_cases c3 : t446 = true
 ·subst c3
  rw [if_pos rfl] at H
  obtain rfl := Option.some.inj H
  go_enter Tryd.func3, Tryd.ntmps3
  go_wp2_with (first | ((with_reducible refine gate_callee (f := 7) rfl ?_); refine zG (some 27) Tryd.func7 #[.slice A0 l0.length c0] ?_; (with_reducible refine (laws_big.calls _ _ l0 true _ ?side1 ?side2 A2.out).mono ?_); (case side1 => exact zI HR0.out); (case side2 => exact HC0.out); rintro e w' ⟨rfl, ⟨nd, rfl⟩⟩; refine ⟨_, rfl, ?_⟩))
  go_ret
  exact ⟨ze, zw HB⟩
 ·replace c3 := Bool.eq_false_iff.mpr c3
  subst c3
  rw [if_neg (show ¬ (false = true) by decide)] at H
  replace H := Option.bind_eq_some_iff.mp H
  obtain ⟨⟨t447, t448, t449⟩, A40, H⟩ := H
  replace H : ((impl_SetAdd.f k t447 t448 t449).bind fun bt452 => ((spec_SetAdd.f k t447 t448 t449).bind fun bt456 => ((impl_SetDrop.f k t447 t448 t449).bind fun bt460 => ((spec_SetDrop.f k t447 t448 t449).bind fun bt464 => ((spec_DrawSetJoin.f k l0).bind fun bt468 => ((impl_SetJoin.f k bt468.1 bt468.2).bind fun bt474 => ((spec_SetJoin.f k bt468.1 bt468.2).bind fun bt478 => ((spec_DrawReadSet.f k l0).bind fun bt482 => ((impl_ReadSet.f k bt482.1 bt482.2).bind fun bt484 => ((spec_ReadSet.f k bt482.1 bt482.2).bind fun bt488 => (if (bt452.2 == bt456.2) = true then ((laws_sameSet.f k bt452.1 bt456.1).bind fun t492 => (if t492 = true then (if (bt460.2 == bt464.2) = true then ((laws_sameSet.f k bt460.1 bt464.1).bind fun t493 => (if t493 = true then (if (bt474.2 == bt478.2) = true then ((laws_sameSet.f k bt474.1 bt478.1).bind fun t494 => (if t494 = true then (if (bt484.2 == bt488.2) = true then ((laws_sameSet.f k bt484.1 bt488.1).bind fun t495 => (if t495 = true then ((impl_SetOk.f k t447).bind fun t496 => ((spec_SetOk.f k t447).bind fun t497 => (if (t496 == t497) = true then ((impl_SetSize.f k t447).bind fun t498 => ((spec_SetSize.f k t447).bind fun t499 => (some (t498 == t499)))) else (some false)))) else (some false))) else (some false)) else (some false))) else (some false)) else (some false))) else (some false)) else (some false))) else (some false)))))))))))) = some r := H
  have A4 := Aside0.mk A40
  clear A40
  replace H := Option.bind_eq_some_iff.mp H
  obtain ⟨⟨t452, t453⟩, A50, H⟩ := H
  replace H : ((spec_SetAdd.f k t447 t448 t449).bind fun bt456 => ((impl_SetDrop.f k t447 t448 t449).bind fun bt460 => ((spec_SetDrop.f k t447 t448 t449).bind fun bt464 => ((spec_DrawSetJoin.f k l0).bind fun bt468 => ((impl_SetJoin.f k bt468.1 bt468.2).bind fun bt474 => ((spec_SetJoin.f k bt468.1 bt468.2).bind fun bt478 => ((spec_DrawReadSet.f k l0).bind fun bt482 => ((impl_ReadSet.f k bt482.1 bt482.2).bind fun bt484 => ((spec_ReadSet.f k bt482.1 bt482.2).bind fun bt488 => (if (t453 == bt456.2) = true then ((laws_sameSet.f k t452 bt456.1).bind fun t492 => (if t492 = true then (if (bt460.2 == bt464.2) = true then ((laws_sameSet.f k bt460.1 bt464.1).bind fun t493 => (if t493 = true then (if (bt474.2 == bt478.2) = true then ((laws_sameSet.f k bt474.1 bt478.1).bind fun t494 => (if t494 = true then (if (bt484.2 == bt488.2) = true then ((laws_sameSet.f k bt484.1 bt488.1).bind fun t495 => (if t495 = true then ((impl_SetOk.f k t447).bind fun t496 => ((spec_SetOk.f k t447).bind fun t497 => (if (t496 == t497) = true then ((impl_SetSize.f k t447).bind fun t498 => ((spec_SetSize.f k t447).bind fun t499 => (some (t498 == t499)))) else (some false)))) else (some false))) else (some false)) else (some false))) else (some false)) else (some false))) else (some false)) else (some false))) else (some false))))))))))) = some r := H
  have A5 := Aside0.mk A50
  clear A50
  replace H := Option.bind_eq_some_iff.mp H
  obtain ⟨⟨t456, t457⟩, A60, H⟩ := H
  replace H : ((impl_SetDrop.f k t447 t448 t449).bind fun bt460 => ((spec_SetDrop.f k t447 t448 t449).bind fun bt464 => ((spec_DrawSetJoin.f k l0).bind fun bt468 => ((impl_SetJoin.f k bt468.1 bt468.2).bind fun bt474 => ((spec_SetJoin.f k bt468.1 bt468.2).bind fun bt478 => ((spec_DrawReadSet.f k l0).bind fun bt482 => ((impl_ReadSet.f k bt482.1 bt482.2).bind fun bt484 => ((spec_ReadSet.f k bt482.1 bt482.2).bind fun bt488 => (if (t453 == t457) = true then ((laws_sameSet.f k t452 t456).bind fun t492 => (if t492 = true then (if (bt460.2 == bt464.2) = true then ((laws_sameSet.f k bt460.1 bt464.1).bind fun t493 => (if t493 = true then (if (bt474.2 == bt478.2) = true then ((laws_sameSet.f k bt474.1 bt478.1).bind fun t494 => (if t494 = true then (if (bt484.2 == bt488.2) = true then ((laws_sameSet.f k bt484.1 bt488.1).bind fun t495 => (if t495 = true then ((impl_SetOk.f k t447).bind fun t496 => ((spec_SetOk.f k t447).bind fun t497 => (if (t496 == t497) = true then ((impl_SetSize.f k t447).bind fun t498 => ((spec_SetSize.f k t447).bind fun t499 => (some (t498 == t499)))) else (some false)))) else (some false))) else (some false)) else (some false))) else (some false)) else (some false))) else (some false)) else (some false))) else (some false)))))))))) = some r := H
  have A6 := Aside0.mk A60
  clear A60
  replace H := Option.bind_eq_some_iff.mp H
  obtain ⟨⟨t460, t461⟩, A70, H⟩ := H
  replace H : ((spec_SetDrop.f k t447 t448 t449).bind fun bt464 => ((spec_DrawSetJoin.f k l0).bind fun bt468 => ((impl_SetJoin.f k bt468.1 bt468.2).bind fun bt474 => ((spec_SetJoin.f k bt468.1 bt468.2).bind fun bt478 => ((spec_DrawReadSet.f k l0).bind fun bt482 => ((impl_ReadSet.f k bt482.1 bt482.2).bind fun bt484 => ((spec_ReadSet.f k bt482.1 bt482.2).bind fun bt488 => (if (t453 == t457) = true then ((laws_sameSet.f k t452 t456).bind fun t492 => (if t492 = true then (if (t461 == bt464.2) = true then ((laws_sameSet.f k t460 bt464.1).bind fun t493 => (if t493 = true then (if (bt474.2 == bt478.2) = true then ((laws_sameSet.f k bt474.1 bt478.1).bind fun t494 => (if t494 = true then (if (bt484.2 == bt488.2) = true then ((laws_sameSet.f k bt484.1 bt488.1).bind fun t495 => (if t495 = true then ((impl_SetOk.f k t447).bind fun t496 => ((spec_SetOk.f k t447).bind fun t497 => (if (t496 == t497) = true then ((impl_SetSize.f k t447).bind fun t498 => ((spec_SetSize.f k t447).bind fun t499 => (some (t498 == t499)))) else (some false)))) else (some false))) else (some false)) else (some false))) else (some false)) else (some false))) else (some false)) else (some false))) else (some false))))))))) = some r := H
  have A7 := Aside0.mk A70
  clear A70
  replace H := Option.bind_eq_some_iff.mp H
  obtain ⟨⟨t464, t465⟩, A80, H⟩ := H
  replace H : ((spec_DrawSetJoin.f k l0).bind fun bt468 => ((impl_SetJoin.f k bt468.1 bt468.2).bind fun bt474 => ((spec_SetJoin.f k bt468.1 bt468.2).bind fun bt478 => ((spec_DrawReadSet.f k l0).bind fun bt482 => ((impl_ReadSet.f k bt482.1 bt482.2).bind fun bt484 => ((spec_ReadSet.f k bt482.1 bt482.2).bind fun bt488 => (if (t453 == t457) = true then ((laws_sameSet.f k t452 t456).bind fun t492 => (if t492 = true then (if (t461 == t465) = true then ((laws_sameSet.f k t460 t464).bind fun t493 => (if t493 = true then (if (bt474.2 == bt478.2) = true then ((laws_sameSet.f k bt474.1 bt478.1).bind fun t494 => (if t494 = true then (if (bt484.2 == bt488.2) = true then ((laws_sameSet.f k bt484.1 bt488.1).bind fun t495 => (if t495 = true then ((impl_SetOk.f k t447).bind fun t496 => ((spec_SetOk.f k t447).bind fun t497 => (if (t496 == t497) = true then ((impl_SetSize.f k t447).bind fun t498 => ((spec_SetSize.f k t447).bind fun t499 => (some (t498 == t499)))) else (some false)))) else (some false))) else (some false)) else (some false))) else (some false)) else (some false))) else (some false)) else (some false))) else (some false)))))))) = some r := H
  have A8 := Aside0.mk A80
  clear A80
  replace H := Option.bind_eq_some_iff.mp H
  obtain ⟨⟨t468, t469⟩, A90, H⟩ := H
  replace H : ((impl_SetJoin.f k t468 t469).bind fun bt474 => ((spec_SetJoin.f k t468 t469).bind fun bt478 => ((spec_DrawReadSet.f k l0).bind fun bt482 => ((impl_ReadSet.f k bt482.1 bt482.2).bind fun bt484 => ((spec_ReadSet.f k bt482.1 bt482.2).bind fun bt488 => (if (t453 == t457) = true then ((laws_sameSet.f k t452 t456).bind fun t492 => (if t492 = true then (if (t461 == t465) = true then ((laws_sameSet.f k t460 t464).bind fun t493 => (if t493 = true then (if (bt474.2 == bt478.2) = true then ((laws_sameSet.f k bt474.1 bt478.1).bind fun t494 => (if t494 = true then (if (bt484.2 == bt488.2) = true then ((laws_sameSet.f k bt484.1 bt488.1).bind fun t495 => (if t495 = true then ((impl_SetOk.f k t447).bind fun t496 => ((spec_SetOk.f k t447).bind fun t497 => (if (t496 == t497) = true then ((impl_SetSize.f k t447).bind fun t498 => ((spec_SetSize.f k t447).bind fun t499 => (some (t498 == t499)))) else (some false)))) else (some false))) else (some false)) else (some false))) else (some false)) else (some false))) else (some false)) else (some false))) else (some false))))))) = some r := H
  have A9 := Aside0.mk A90
  clear A90
  replace H := Option.bind_eq_some_iff.mp H
  obtain ⟨⟨t474, t475⟩, A100, H⟩ := H
  replace H : ((spec_SetJoin.f k t468 t469).bind fun bt478 => ((spec_DrawReadSet.f k l0).bind fun bt482 => ((impl_ReadSet.f k bt482.1 bt482.2).bind fun bt484 => ((spec_ReadSet.f k bt482.1 bt482.2).bind fun bt488 => (if (t453 == t457) = true then ((laws_sameSet.f k t452 t456).bind fun t492 => (if t492 = true then (if (t461 == t465) = true then ((laws_sameSet.f k t460 t464).bind fun t493 => (if t493 = true then (if (t475 == bt478.2) = true then ((laws_sameSet.f k t474 bt478.1).bind fun t494 => (if t494 = true then (if (bt484.2 == bt488.2) = true then ((laws_sameSet.f k bt484.1 bt488.1).bind fun t495 => (if t495 = true then ((impl_SetOk.f k t447).bind fun t496 => ((spec_SetOk.f k t447).bind fun t497 => (if (t496 == t497) = true then ((impl_SetSize.f k t447).bind fun t498 => ((spec_SetSize.f k t447).bind fun t499 => (some (t498 == t499)))) else (some false)))) else (some false))) else (some false)) else (some false))) else (some false)) else (some false))) else (some false)) else (some false))) else (some false)))))) = some r := H
  have A10 := Aside0.mk A100
  clear A100
  replace H := Option.bind_eq_some_iff.mp H
  obtain ⟨⟨t478, t479⟩, A110, H⟩ := H
  replace H : ((spec_DrawReadSet.f k l0).bind fun bt482 => ((impl_ReadSet.f k bt482.1 bt482.2).bind fun bt484 => ((spec_ReadSet.f k bt482.1 bt482.2).bind fun bt488 => (if (t453 == t457) = true then ((laws_sameSet.f k t452 t456).bind fun t492 => (if t492 = true then (if (t461 == t465) = true then ((laws_sameSet.f k t460 t464).bind fun t493 => (if t493 = true then (if (t475 == t479) = true then ((laws_sameSet.f k t474 t478).bind fun t494 => (if t494 = true then (if (bt484.2 == bt488.2) = true then ((laws_sameSet.f k bt484.1 bt488.1).bind fun t495 => (if t495 = true then ((impl_SetOk.f k t447).bind fun t496 => ((spec_SetOk.f k t447).bind fun t497 => (if (t496 == t497) = true then ((impl_SetSize.f k t447).bind fun t498 => ((spec_SetSize.f k t447).bind fun t499 => (some (t498 == t499)))) else (some false)))) else (some false))) else (some false)) else (some false))) else (some false)) else (some false))) else (some false)) else (some false))) else (some false))))) = some r := H
  have A11 := Aside0.mk A110
  clear A110
  replace H := Option.bind_eq_some_iff.mp H
  obtain ⟨⟨t482, t483⟩, A120, H⟩ := H
  replace H : ((impl_ReadSet.f k t482 t483).bind fun bt484 => ((spec_ReadSet.f k t482 t483).bind fun bt488 => (if (t453 == t457) = true then ((laws_sameSet.f k t452 t456).bind fun t492 => (if t492 = true then (if (t461 == t465) = true then ((laws_sameSet.f k t460 t464).bind fun t493 => (if t493 = true then (if (t475 == t479) = true then ((laws_sameSet.f k t474 t478).bind fun t494 => (if t494 = true then (if (bt484.2 == bt488.2) = true then ((laws_sameSet.f k bt484.1 bt488.1).bind fun t495 => (if t495 = true then ((impl_SetOk.f k t447).bind fun t496 => ((spec_SetOk.f k t447).bind fun t497 => (if (t496 == t497) = true then ((impl_SetSize.f k t447).bind fun t498 => ((spec_SetSize.f k t447).bind fun t499 => (some (t498 == t499)))) else (some false)))) else (some false))) else (some false)) else (some false))) else (some false)) else (some false))) else (some false)) else (some false))) else (some false)))) = some r := H
  have A12 := Aside0.mk A120
  clear A120
  replace H := Option.bind_eq_some_iff.mp H
  obtain ⟨⟨t484, t485⟩, A130, H⟩ := H
  replace H : ((spec_ReadSet.f k t482 t483).bind fun bt488 => (if (t453 == t457) = true then ((laws_sameSet.f k t452 t456).bind fun t492 => (if t492 = true then (if (t461 == t465) = true then ((laws_sameSet.f k t460 t464).bind fun t493 => (if t493 = true then (if (t475 == t479) = true then ((laws_sameSet.f k t474 t478).bind fun t494 => (if t494 = true then (if (t485 == bt488.2) = true then ((laws_sameSet.f k t484 bt488.1).bind fun t495 => (if t495 = true then ((impl_SetOk.f k t447).bind fun t496 => ((spec_SetOk.f k t447).bind fun t497 => (if (t496 == t497) = true then ((impl_SetSize.f k t447).bind fun t498 => ((spec_SetSize.f k t447).bind fun t499 => (some (t498 == t499)))) else (some false)))) else (some false))) else (some false)) else (some false))) else (some false)) else (some false))) else (some false)) else (some false))) else (some false))) = some r := H
  have A13 := Aside0.mk A130
  clear A130
  replace H := Option.bind_eq_some_iff.mp H
  obtain ⟨⟨t488, t489⟩, A140, H⟩ := H
  replace H : (if (t453 == t457) = true then ((laws_sameSet.f k t452 t456).bind fun t492 => (if t492 = true then (if (t461 == t465) = true then ((laws_sameSet.f k t460 t464).bind fun t493 => (if t493 = true then (if (t475 == t479) = true then ((laws_sameSet.f k t474 t478).bind fun t494 => (if t494 = true then (if (t485 == t489) = true then ((laws_sameSet.f k t484 t488).bind fun t495 => (if t495 = true then ((impl_SetOk.f k t447).bind fun t496 => ((spec_SetOk.f k t447).bind fun t497 => (if (t496 == t497) = true then ((impl_SetSize.f k t447).bind fun t498 => ((spec_SetSize.f k t447).bind fun t499 => (some (t498 == t499)))) else (some false)))) else (some false))) else (some false)) else (some false))) else (some false)) else (some false))) else (some false)) else (some false))) else (some false)) = some r := H
  have A14 := Aside0.mk A140
  clear A140
  by_cases c15 : (t453 == t457) = true
  ·rw [if_pos c15] at H
   have c15b0 : (t453 == t457) = true := c15
   (try (have c15b1 : decide (t453 = t457) = true := by simpa using c15))
   (try (have c15b2 : (t453 == t457) = true := by simpa using c15))
   clear c15
   replace H := Option.bind_eq_some_iff.mp H
   obtain ⟨t492, A160, H⟩ := H
   have A16 := Aside0.mk A160
   clear A160
   by_cases c17 : t492 = true
   ·subst c17
    rw [if_pos rfl] at H
    by_cases c18 : (t461 == t465) = true
    ·rw [if_pos c18] at H
     have c18b0 : (t461 == t465) = true := c18
     (try (have c18b1 : decide (t461 = t465) = true := by simpa using c18))
     (try (have c18b2 : (t461 == t465) = true := by simpa using c18))
     clear c18
     replace H := Option.bind_eq_some_iff.mp H
     obtain ⟨t493, A190, H⟩ := H
     have A19 := Aside0.mk A190
     clear A190
     by_cases c20 : t493 = true
     ·subst c20
      rw [if_pos rfl] at H
      by_cases c21 : (t475 == t479) = true
      ·rw [if_pos c21] at H
       have c21b0 : (t475 == t479) = true := c21
       (try (have c21b1 : decide (t475 = t479) = true := by simpa using c21))
       (try (have c21b2 : (t475 == t479) = true := by simpa using c21))
       clear c21
       replace H := Option.bind_eq_some_iff.mp H
       obtain ⟨t494, A220, H⟩ := H
       have A22 := Aside0.mk A220
       clear A220
       by_cases c23 : t494 = true
       ·subst c23
        rw [if_pos rfl] at H
        by_cases c24 : (t485 == t489) = true
        ·rw [if_pos c24] at H
         have c24b0 : (t485 == t489) = true := c24
         (try (have c24b1 : decide (t485 = t489) = true := by simpa using c24))
         (try (have c24b2 : (t485 == t489) = true := by simpa using c24))
         clear c24
         replace H := Option.bind_eq_some_iff.mp H
         obtain ⟨t495, A250, H⟩ := H
         have A25 := Aside0.mk A250
         clear A250
         by_cases c26 : t495 = true
         ·subst c26
          rw [if_pos rfl] at H
          replace H := Option.bind_eq_some_iff.mp H
          obtain ⟨t496, A270, H⟩ := H
          have A27 := Aside0.mk A270
          clear A270
          replace H := Option.bind_eq_some_iff.mp H
          obtain ⟨t497, A280, H⟩ := H
          have A28 := Aside0.mk A280
          clear A280
          by_cases c29 : (t496 == t497) = true
          ·rw [if_pos c29] at H
           have c29b0 : (t496 == t497) = true := c29
           (try (have c29b1 : decide (t496 = t497) = true := by simpa using c29))
           (try (have c29b2 : (t496 == t497) = true := by simpa using c29))
           clear c29
           replace H := Option.bind_eq_some_iff.mp H
           obtain ⟨t498, A300, H⟩ := H
           have A30 := Aside0.mk A300
           clear A300
           replace H := Option.bind_eq_some_iff.mp H
           obtain ⟨t499, A310, H⟩ := H
           have A31 := Aside0.mk A310
           clear A310
           obtain rfl := Option.some.inj H
           go_enter Tryd.func3, Tryd.ntmps3
           go_wp2_with (first | ((with_reducible refine gate_callee (f := 7) rfl ?_); refine zG (some 27) Tryd.func7 #[.slice A0 l0.length c0] ?_; (with_reducible refine (laws_big.calls _ _ l0 false _ ?side1 ?side2 A2.out).mono ?_); (case side1 => exact zI HR0.out); (case side2 => exact HC0.out); rintro e w' ⟨rfl, ⟨nd, rfl⟩⟩; refine ⟨_, rfl, ?_⟩) | ((with_reducible refine gate_callee (f := 8) rfl ?_); refine zG (some 30) Tryd.func8 #[.slice A0 l0.length c0] ?_; (with_reducible refine (spec_DrawSetAdd.calls k _ _ l0 t447 t448 t449 _ ?side1 ?side2 A4.out).mono ?_); (case side1 => exact zI HR0.out); (case side2 => exact HC0.out); rintro e w32 ⟨v450, rfl, ho0, hb⟩; refine ⟨_, rfl, ?_⟩; have HO451 := Aside0.mk (Kd.R_lower ho0 (below_size (zw HB))); replace HB := zs HB hb; clear ho0 hb; obtain ⟨Ao33, co33, eo33⟩ := Kd.R_slice HO451.out; subst eo33) | ((with_reducible refine gate_callee (f := 9) rfl ?_); refine zG (some 38) Tryd.func9 #[.slice Ao33 t447.length co33, .int .i64 t448, .int .i64 t449] ?_; (with_reducible refine (impl_SetAdd.calls k _ _ t447 t448 t449 t452 t453 _ ?side1 ?side2 A5.out).mono ?_); (case side1 => exact zI (Kd.R_reads' HO451.out).2.2); (case side2 => exact (Kd.R_reads' HO451.out).2.1); rintro e w34 ⟨v454, rfl, ho0, hb⟩; refine ⟨_, rfl, ?_⟩; have HO455 := Aside0.mk (Kd.R_lower (Kd.R_new' ho0 (Kd.R_lt (zo HO451.out))) (below_size (zw HB))); replace HO451 := Aside0.mk (Kd.R_elder' (zo HO451.out) (Kd.R_base ho0) hb); replace HB := zs HB hb; clear ho0 hb) | ((with_reducible refine gate_callee (f := 10) rfl ?_); refine zG (some 45) Tryd.func10 #[.slice Ao33 t447.length co33, .int .i64 t448, .int .i64 t449] ?_; (with_reducible refine (spec_SetAdd.calls k _ _ t447 t448 t449 t456 t457 _ ?side1 ?side2 A6.out).mono ?_); (case side1 => exact zI (Kd.R_reads' HO451.out).2.2); (case side2 => exact (Kd.R_reads' HO451.out).2.1); rintro e w35 ⟨v458, rfl, ho0, hb⟩; refine ⟨_, rfl, ?_⟩; have HO459 := Aside0.mk (Kd.R_lower (Kd.R_new' (Kd.R_new' ho0 (Kd.R_lt (zo HO451.out))) (Kd.R_lt (zo HO455.out))) (below_size (zw HB))); replace HO451 := Aside0.mk (Kd.R_elder' (zo HO451.out) (Kd.R_base ho0) hb); replace HO455 := Aside0.mk (Kd.R_elder' (zo HO455.out) (Kd.R_base ho0) hb); replace HB := zs HB hb; clear ho0 hb) | ((with_reducible refine gate_callee (f := 11) rfl ?_); refine zG (some 52) Tryd.func11 #[.slice Ao33 t447.length co33, .int .i64 t448, .int .i64 t449] ?_; (with_reducible refine (impl_SetDrop.calls k _ _ t447 t448 t449 t460 t461 _ ?side1 ?side2 A7.out).mono ?_); (case side1 => exact zI (Kd.R_reads' HO451.out).2.2); (case side2 => exact (Kd.R_reads' HO451.out).2.1); rintro e w36 ⟨v462, rfl, ho0, hb⟩; refine ⟨_, rfl, ?_⟩; have HO463 := Aside0.mk (Kd.R_lower (Kd.R_new' (Kd.R_new' (Kd.R_new' ho0 (Kd.R_lt (zo HO451.out))) (Kd.R_lt (zo HO455.out))) (Kd.R_lt (zo HO459.out))) (below_size (zw HB))); replace HO451 := Aside0.mk (Kd.R_elder' (zo HO451.out) (Kd.R_base ho0) hb); replace HO455 := Aside0.mk (Kd.R_elder' (zo HO455.out) (Kd.R_base ho0) hb); replace HO459 := Aside0.mk (Kd.R_elder' (zo HO459.out) (Kd.R_base ho0) hb); replace HB := zs HB hb; clear ho0 hb) | ((with_reducible refine gate_callee (f := 12) rfl ?_); refine zG (some 59) Tryd.func12 #[.slice Ao33 t447.length co33, .int .i64 t448, .int .i64 t449] ?_; (with_reducible refine (spec_SetDrop.calls k _ _ t447 t448 t449 t464 t465 _ ?side1 ?side2 A8.out).mono ?_); (case side1 => exact zI (Kd.R_reads' HO451.out).2.2); (case side2 => exact (Kd.R_reads' HO451.out).2.1); rintro e w37 ⟨v466, rfl, ho0, hb⟩; refine ⟨_, rfl, ?_⟩; have HO467 := Aside0.mk (Kd.R_lower (Kd.R_new' (Kd.R_new' (Kd.R_new' (Kd.R_new' ho0 (Kd.R_lt (zo HO451.out))) (Kd.R_lt (zo HO455.out))) (Kd.R_lt (zo HO459.out))) (Kd.R_lt (zo HO463.out))) (below_size (zw HB))); replace HO451 := Aside0.mk (Kd.R_elder' (zo HO451.out) (Kd.R_base ho0) hb); replace HO455 := Aside0.mk (Kd.R_elder' (zo HO455.out) (Kd.R_base ho0) hb); replace HO459 := Aside0.mk (Kd.R_elder' (zo HO459.out) (Kd.R_base ho0) hb); replace HO463 := Aside0.mk (Kd.R_elder' (zo HO463.out) (Kd.R_base ho0) hb); replace HB := zs HB hb; clear ho0 hb) | ((with_reducible refine gate_callee (f := 13) rfl ?_); refine zG (some 64) Tryd.func13 #[.slice A0 l0.length c0] ?_; (with_reducible refine (spec_DrawSetJoin.calls k _ _ l0 t468 t469 _ ?side1 ?side2 A9.out).mono ?_); (case side1 => exact zI (Kd.C_below HR0.out HB.out)); (case side2 => exact HC0.out); rintro e w38 ⟨v470, v472, rfl, ho0, ho1, hb⟩; refine ⟨_, rfl, ?_⟩; have HO471 := Aside0.mk (Kd.R_lower (Kd.R_new' (Kd.R_new' (Kd.R_new' (Kd.R_new' (Kd.R_new' ho0 (Kd.R_lt (zo HO451.out))) (Kd.R_lt (zo HO455.out))) (Kd.R_lt (zo HO459.out))) (Kd.R_lt (zo HO463.out))) (Kd.R_lt (zo HO467.out))) (below_size (zw HB))); have HO473 := Aside0.mk (Kd.R_lower (Kd.R_new' (Kd.R_new' (Kd.R_new' (Kd.R_new' (Kd.R_new' ho1 (Kd.R_lt (zo HO451.out))) (Kd.R_lt (zo HO455.out))) (Kd.R_lt (zo HO459.out))) (Kd.R_lt (zo HO463.out))) (Kd.R_lt (zo HO467.out))) (below_size (zw HB))); replace HO451 := Aside0.mk (Kd.R_mono (Kd.R_told (Kd.R_told (Kd.R_old (zo HO451.out) hb) (Kd.R_base ho0)) (Kd.R_base ho1)) (fun _ h_ => h_.1)); replace HO455 := Aside0.mk (Kd.R_mono (Kd.R_told (Kd.R_told (Kd.R_old (zo HO455.out) hb) (Kd.R_base ho0)) (Kd.R_base ho1)) (fun _ h_ => h_.1)); replace HO459 := Aside0.mk (Kd.R_mono (Kd.R_told (Kd.R_told (Kd.R_old (zo HO459.out) hb) (Kd.R_base ho0)) (Kd.R_base ho1)) (fun _ h_ => h_.1)); replace HO463 := Aside0.mk (Kd.R_mono (Kd.R_told (Kd.R_told (Kd.R_old (zo HO463.out) hb) (Kd.R_base ho0)) (Kd.R_base ho1)) (fun _ h_ => h_.1)); replace HO467 := Aside0.mk (Kd.R_mono (Kd.R_told (Kd.R_told (Kd.R_old (zo HO467.out) hb) (Kd.R_base ho0)) (Kd.R_base ho1)) (fun _ h_ => h_.1)); replace HB := zs HB hb; clear ho0 ho1 hb; obtain ⟨Ao39, co39, eo39⟩ := Kd.R_slice HO471.out; subst eo39; obtain ⟨Ao40, co40, eo40⟩ := Kd.R_slice HO473.out; subst eo40) | ((with_reducible refine gate_callee (f := 14) rfl ?_); refine zG (some 70) Tryd.func14 #[.slice Ao39 t468.length co39, .slice Ao40 t469.length co40] ?_; (with_reducible refine (impl_SetJoin.calls k _ _ t468 _ _ t469 t474 t475 _ ?side1 ?side2 ?side3 ?side4 A10.out).mono ?_); (case side1 => exact zI (Kd.R_reads' HO471.out).2.2); (case side2 => exact (Kd.R_reads' HO471.out).2.1); (case side3 => exact zI (Kd.R_reads' HO473.out).2.2); (case side4 => exact (Kd.R_reads' HO473.out).2.1); rintro e w41 ⟨v476, rfl, ho0, hb⟩; refine ⟨_, rfl, ?_⟩; have HO477 := Aside0.mk (Kd.R_lower (Kd.R_new' (Kd.R_new' (Kd.R_new' (Kd.R_new' (Kd.R_new' (Kd.R_new' (Kd.R_new' ho0 (Kd.R_lt (zo HO451.out))) (Kd.R_lt (zo HO455.out))) (Kd.R_lt (zo HO459.out))) (Kd.R_lt (zo HO463.out))) (Kd.R_lt (zo HO467.out))) (Kd.R_lt (zo HO471.out))) (Kd.R_lt (zo HO473.out))) (below_size (zw HB))); replace HO451 := Aside0.mk (Kd.R_elder' (zo HO451.out) (Kd.R_base ho0) hb); replace HO455 := Aside0.mk (Kd.R_elder' (zo HO455.out) (Kd.R_base ho0) hb); replace HO459 := Aside0.mk (Kd.R_elder' (zo HO459.out) (Kd.R_base ho0) hb); replace HO463 := Aside0.mk (Kd.R_elder' (zo HO463.out) (Kd.R_base ho0) hb); replace HO467 := Aside0.mk (Kd.R_elder' (zo HO467.out) (Kd.R_base ho0) hb); replace HO471 := Aside0.mk (Kd.R_elder' (zo HO471.out) (Kd.R_base ho0) hb); replace HO473 := Aside0.mk (Kd.R_elder' (zo HO473.out) (Kd.R_base ho0) hb); replace HB := zs HB hb; clear ho0 hb) | ((with_reducible refine gate_callee (f := 15) rfl ?_); refine zG (some 76) Tryd.func15 #[.slice Ao39 t468.length co39, .slice Ao40 t469.length co40] ?_; (with_reducible refine (spec_SetJoin.calls k _ _ t468 _ _ t469 t478 t479 _ ?side1 ?side2 ?side3 ?side4 A11.out).mono ?_); (case side1 => exact zI (Kd.R_reads' HO471.out).2.2); (case side2 => exact (Kd.R_reads' HO471.out).2.1); (case side3 => exact zI (Kd.R_reads' HO473.out).2.2); (case side4 => exact (Kd.R_reads' HO473.out).2.1); rintro e w42 ⟨v480, rfl, ho0, hb⟩; refine ⟨_, rfl, ?_⟩; have HO481 := Aside0.mk (Kd.R_lower (Kd.R_new' (Kd.R_new' (Kd.R_new' (Kd.R_new' (Kd.R_new' (Kd.R_new' (Kd.R_new' (Kd.R_new' ho0 (Kd.R_lt (zo HO451.out))) (Kd.R_lt (zo HO455.out))) (Kd.R_lt (zo HO459.out))) (Kd.R_lt (zo HO463.out))) (Kd.R_lt (zo HO467.out))) (Kd.R_lt (zo HO471.out))) (Kd.R_lt (zo HO473.out))) (Kd.R_lt (zo HO477.out))) (below_size (zw HB))); replace HO451 := Aside0.mk (Kd.R_elder' (zo HO451.out) (Kd.R_base ho0) hb); replace HO455 := Aside0.mk (Kd.R_elder' (zo HO455.out) (Kd.R_base ho0) hb); replace HO459 := Aside0.mk (Kd.R_elder' (zo HO459.out) (Kd.R_base ho0) hb); replace HO463 := Aside0.mk (Kd.R_elder' (zo HO463.out) (Kd.R_base ho0) hb); replace HO467 := Aside0.mk (Kd.R_elder' (zo HO467.out) (Kd.R_base ho0) hb); replace HO471 := Aside0.mk (Kd.R_elder' (zo HO471.out) (Kd.R_base ho0) hb); replace HO473 := Aside0.mk (Kd.R_elder' (zo HO473.out) (Kd.R_base ho0) hb); replace HO477 := Aside0.mk (Kd.R_elder' (zo HO477.out) (Kd.R_base ho0) hb); replace HB := zs HB hb; clear ho0 hb) | ((with_reducible refine gate_callee (f := 16) rfl ?_); refine zG (some 81) Tryd.func16 #[.slice A0 l0.length c0] ?_; (with_reducible refine (spec_DrawReadSet.calls k _ _ l0 t482 t483 _ ?side1 ?side2 A12.out).mono ?_); (case side1 => exact zI (Kd.C_below HR0.out HB.out)); (case side2 => exact HC0.out); rintro e w43 ⟨rfl, hb⟩; refine ⟨_, rfl, ?_⟩; replace HO451 := Aside0.mk (Kd.R_below (zo HO451.out) hb); replace HO455 := Aside0.mk (Kd.R_below (zo HO455.out) hb); replace HO459 := Aside0.mk (Kd.R_below (zo HO459.out) hb); replace HO463 := Aside0.mk (Kd.R_below (zo HO463.out) hb); replace HO467 := Aside0.mk (Kd.R_below (zo HO467.out) hb); replace HO471 := Aside0.mk (Kd.R_below (zo HO471.out) hb); replace HO473 := Aside0.mk (Kd.R_below (zo HO473.out) hb); replace HO477 := Aside0.mk (Kd.R_below (zo HO477.out) hb); replace HO481 := Aside0.mk (Kd.R_below (zo HO481.out) hb); replace HB := zs HB hb; clear hb) | ((with_reducible refine gate_callee (f := 17) rfl ?_); refine zG (some 87) Tryd.func17 #[.string t482, .int .i64 t483] ?_; (with_reducible refine (impl_ReadSet.calls k t482 t483 t484 t485 _ ?sidegl A13.out).mono ?_); (case sidegl => exact HGL.out.of (zw HB)); rintro e w44 ⟨v486, rfl, ho0, hb⟩; refine ⟨_, rfl, ?_⟩; have HO487 := Aside0.mk (Kd.R_lower (Kd.R_new' (Kd.R_new' (Kd.R_new' (Kd.R_new' (Kd.R_new' (Kd.R_new' (Kd.R_new' (Kd.R_new' (Kd.R_new' ho0 (Kd.R_lt (zo HO451.out))) (Kd.R_lt (zo HO455.out))) (Kd.R_lt (zo HO459.out))) (Kd.R_lt (zo HO463.out))) (Kd.R_lt (zo HO467.out))) (Kd.R_lt (zo HO471.out))) (Kd.R_lt (zo HO473.out))) (Kd.R_lt (zo HO477.out))) (Kd.R_lt (zo HO481.out))) (below_size (zw HB))); replace HO451 := Aside0.mk (Kd.R_elder' (zo HO451.out) (Kd.R_base ho0) hb); replace HO455 := Aside0.mk (Kd.R_elder' (zo HO455.out) (Kd.R_base ho0) hb); replace HO459 := Aside0.mk (Kd.R_elder' (zo HO459.out) (Kd.R_base ho0) hb); replace HO463 := Aside0.mk (Kd.R_elder' (zo HO463.out) (Kd.R_base ho0) hb); replace HO467 := Aside0.mk (Kd.R_elder' (zo HO467.out) (Kd.R_base ho0) hb); replace HO471 := Aside0.mk (Kd.R_elder' (zo HO471.out) (Kd.R_base ho0) hb); replace HO473 := Aside0.mk (Kd.R_elder' (zo HO473.out) (Kd.R_base ho0) hb); replace HO477 := Aside0.mk (Kd.R_elder' (zo HO477.out) (Kd.R_base ho0) hb); replace HO481 := Aside0.mk (Kd.R_elder' (zo HO481.out) (Kd.R_base ho0) hb); replace HB := zs HB hb; clear ho0 hb) | ((with_reducible refine gate_callee (f := 18) rfl ?_); refine zG (some 93) Tryd.func18 #[.string t482, .int .i64 t483] ?_; (with_reducible refine (spec_ReadSet.calls k t482 t483 t488 t489 _ A14.out).mono ?_); rintro e w45 ⟨v490, rfl, ho0, hb⟩; refine ⟨_, rfl, ?_⟩; have HO491 := Aside0.mk (Kd.R_lower (Kd.R_new' (Kd.R_new' (Kd.R_new' (Kd.R_new' (Kd.R_new' (Kd.R_new' (Kd.R_new' (Kd.R_new' (Kd.R_new' (Kd.R_new' ho0 (Kd.R_lt (zo HO451.out))) (Kd.R_lt (zo HO455.out))) (Kd.R_lt (zo HO459.out))) (Kd.R_lt (zo HO463.out))) (Kd.R_lt (zo HO467.out))) (Kd.R_lt (zo HO471.out))) (Kd.R_lt (zo HO473.out))) (Kd.R_lt (zo HO477.out))) (Kd.R_lt (zo HO481.out))) (Kd.R_lt (zo HO487.out))) (below_size (zw HB))); replace HO451 := Aside0.mk (Kd.R_elder' (zo HO451.out) (Kd.R_base ho0) hb); replace HO455 := Aside0.mk (Kd.R_elder' (zo HO455.out) (Kd.R_base ho0) hb); replace HO459 := Aside0.mk (Kd.R_elder' (zo HO459.out) (Kd.R_base ho0) hb); replace HO463 := Aside0.mk (Kd.R_elder' (zo HO463.out) (Kd.R_base ho0) hb); replace HO467 := Aside0.mk (Kd.R_elder' (zo HO467.out) (Kd.R_base ho0) hb); replace HO471 := Aside0.mk (Kd.R_elder' (zo HO471.out) (Kd.R_base ho0) hb); replace HO473 := Aside0.mk (Kd.R_elder' (zo HO473.out) (Kd.R_base ho0) hb); replace HO477 := Aside0.mk (Kd.R_elder' (zo HO477.out) (Kd.R_base ho0) hb); replace HO481 := Aside0.mk (Kd.R_elder' (zo HO481.out) (Kd.R_base ho0) hb); replace HO487 := Aside0.mk (Kd.R_elder' (zo HO487.out) (Kd.R_base ho0) hb); replace HB := zs HB hb; clear ho0 hb; obtain ⟨Ao46, co46, eo46⟩ := Kd.R_slice HO455.out; subst eo46; obtain ⟨Ao47, co47, eo47⟩ := Kd.R_slice HO459.out; subst eo47) | (go_at_call 19; (with_reducible refine (laws_sameSet.calls k _ _ t452 _ _ t456 true _ ?side1 ?side2 ?side3 ?side4 A16.out).mono ?_); (case side1 => exact zI (Kd.R_reads' HO455.out).2.2); (case side2 => exact (Kd.R_reads' HO455.out).2.1); (case side3 => exact zI (Kd.R_reads' HO459.out).2.2); (case side4 => exact (Kd.R_reads' HO459.out).2.1); rintro e w' ⟨rfl, ⟨nd, rfl⟩⟩; obtain ⟨Ao48, co48, eo48⟩ := Kd.R_slice HO463.out; subst eo48; obtain ⟨Ao49, co49, eo49⟩ := Kd.R_slice HO467.out; subst eo49) | (go_at_call 19; (with_reducible refine (laws_sameSet.calls k _ _ t460 _ _ t464 true _ ?side1 ?side2 ?side3 ?side4 A19.out).mono ?_); (case side1 => exact zI (Kd.R_reads' HO463.out).2.2); (case side2 => exact (Kd.R_reads' HO463.out).2.1); (case side3 => exact zI (Kd.R_reads' HO467.out).2.2); (case side4 => exact (Kd.R_reads' HO467.out).2.1); rintro e w' ⟨rfl, ⟨nd, rfl⟩⟩; obtain ⟨Ao50, co50, eo50⟩ := Kd.R_slice HO477.out; subst eo50; obtain ⟨Ao51, co51, eo51⟩ := Kd.R_slice HO481.out; subst eo51) | (go_at_call 19; (with_reducible refine (laws_sameSet.calls k _ _ t474 _ _ t478 true _ ?side1 ?side2 ?side3 ?side4 A22.out).mono ?_); (case side1 => exact zI (Kd.R_reads' HO477.out).2.2); (case side2 => exact (Kd.R_reads' HO477.out).2.1); (case side3 => exact zI (Kd.R_reads' HO481.out).2.2); (case side4 => exact (Kd.R_reads' HO481.out).2.1); rintro e w' ⟨rfl, ⟨nd, rfl⟩⟩; obtain ⟨Ao52, co52, eo52⟩ := Kd.R_slice HO487.out; subst eo52; obtain ⟨Ao53, co53, eo53⟩ := Kd.R_slice HO491.out; subst eo53) | (go_at_call 19; (with_reducible refine (laws_sameSet.calls k _ _ t484 _ _ t488 true _ ?side1 ?side2 ?side3 ?side4 A25.out).mono ?_); (case side1 => exact zI (Kd.R_reads' HO487.out).2.2); (case side2 => exact (Kd.R_reads' HO487.out).2.1); (case side3 => exact zI (Kd.R_reads' HO491.out).2.2); (case side4 => exact (Kd.R_reads' HO491.out).2.1); rintro e w' ⟨rfl, ⟨nd, rfl⟩⟩) | (go_at_call 20; (with_reducible refine (impl_SetOk.calls k _ _ t447 t496 _ ?side1 ?side2 A27.out).mono ?_); (case side1 => exact zI (Kd.R_reads' HO451.out).2.2); (case side2 => exact (Kd.R_reads' HO451.out).2.1); rintro e w54 ⟨rfl, hb⟩; replace HO451 := Aside0.mk (Kd.R_below (zo HO451.out) hb); replace HO455 := Aside0.mk (Kd.R_below (zo HO455.out) hb); replace HO459 := Aside0.mk (Kd.R_below (zo HO459.out) hb); replace HO463 := Aside0.mk (Kd.R_below (zo HO463.out) hb); replace HO467 := Aside0.mk (Kd.R_below (zo HO467.out) hb); replace HO471 := Aside0.mk (Kd.R_below (zo HO471.out) hb); replace HO473 := Aside0.mk (Kd.R_below (zo HO473.out) hb); replace HO477 := Aside0.mk (Kd.R_below (zo HO477.out) hb); replace HO481 := Aside0.mk (Kd.R_below (zo HO481.out) hb); replace HO487 := Aside0.mk (Kd.R_below (zo HO487.out) hb); replace HO491 := Aside0.mk (Kd.R_below (zo HO491.out) hb); replace HB := zs HB hb; clear hb) | (go_at_call 21; (with_reducible refine (spec_SetOk.calls k _ _ t447 t497 _ ?side1 ?side2 A28.out).mono ?_); (case side1 => exact zI (Kd.R_reads' HO451.out).2.2); (case side2 => exact (Kd.R_reads' HO451.out).2.1); rintro e w55 ⟨rfl, hb⟩; replace HO451 := Aside0.mk (Kd.R_below (zo HO451.out) hb); replace HO455 := Aside0.mk (Kd.R_below (zo HO455.out) hb); replace HO459 := Aside0.mk (Kd.R_below (zo HO459.out) hb); replace HO463 := Aside0.mk (Kd.R_below (zo HO463.out) hb); replace HO467 := Aside0.mk (Kd.R_below (zo HO467.out) hb); replace HO471 := Aside0.mk (Kd.R_below (zo HO471.out) hb); replace HO473 := Aside0.mk (Kd.R_below (zo HO473.out) hb); replace HO477 := Aside0.mk (Kd.R_below (zo HO477.out) hb); replace HO481 := Aside0.mk (Kd.R_below (zo HO481.out) hb); replace HO487 := Aside0.mk (Kd.R_below (zo HO487.out) hb); replace HO491 := Aside0.mk (Kd.R_below (zo HO491.out) hb); replace HB := zs HB hb; clear hb) | (go_at_call 22; (with_reducible refine (impl_SetSize.calls k _ _ t447 t498 _ ?side1 ?side2 A30.out).mono ?_); (case side1 => exact zI (Kd.R_reads' HO451.out).2.2); (case side2 => exact (Kd.R_reads' HO451.out).2.1); rintro e w56 ⟨rfl, hb⟩; replace HO451 := Aside0.mk (Kd.R_below (zo HO451.out) hb); replace HO455 := Aside0.mk (Kd.R_below (zo HO455.out) hb); replace HO459 := Aside0.mk (Kd.R_below (zo HO459.out) hb); replace HO463 := Aside0.mk (Kd.R_below (zo HO463.out) hb); replace HO467 := Aside0.mk (Kd.R_below (zo HO467.out) hb); replace HO471 := Aside0.mk (Kd.R_below (zo HO471.out) hb); replace HO473 := Aside0.mk (Kd.R_below (zo HO473.out) hb); replace HO477 := Aside0.mk (Kd.R_below (zo HO477.out) hb); replace HO481 := Aside0.mk (Kd.R_below (zo HO481.out) hb); replace HO487 := Aside0.mk (Kd.R_below (zo HO487.out) hb); replace HO491 := Aside0.mk (Kd.R_below (zo HO491.out) hb); replace HB := zs HB hb; clear hb) | (go_at_call 23; (with_reducible refine (spec_SetSize.calls k _ _ t447 t499 _ ?side1 ?side2 A31.out).mono ?_); (case side1 => exact zI (Kd.R_reads' HO451.out).2.2); (case side2 => exact (Kd.R_reads' HO451.out).2.1); rintro e w57 ⟨rfl, hb⟩; replace HO451 := Aside0.mk (Kd.R_below (zo HO451.out) hb); replace HO455 := Aside0.mk (Kd.R_below (zo HO455.out) hb); replace HO459 := Aside0.mk (Kd.R_below (zo HO459.out) hb); replace HO463 := Aside0.mk (Kd.R_below (zo HO463.out) hb); replace HO467 := Aside0.mk (Kd.R_below (zo HO467.out) hb); replace HO471 := Aside0.mk (Kd.R_below (zo HO471.out) hb); replace HO473 := Aside0.mk (Kd.R_below (zo HO473.out) hb); replace HO477 := Aside0.mk (Kd.R_below (zo HO477.out) hb); replace HO481 := Aside0.mk (Kd.R_below (zo HO481.out) hb); replace HO487 := Aside0.mk (Kd.R_below (zo HO487.out) hb); replace HO491 := Aside0.mk (Kd.R_below (zo HO491.out) hb); replace HB := zs HB hb; clear hb))
           go_ret
           exact ⟨ze, zw HB⟩
          ·rw [if_neg c29] at H
           have c29b0 : (t496 == t497) = false := by simpa using c29
           (try (have c29b1 : decide (t496 = t497) = false := by simpa using c29))
           (try (have c29b2 : (t496 == t497) = false := by simpa using c29))
           (try (have c29b3 : ¬ (t496 = t497) := by simpa using c29))
           clear c29
           obtain rfl := Option.some.inj H
           exact absurd HR_.out (by decide)
         ·replace c26 := Bool.eq_false_iff.mpr c26
          subst c26
          rw [if_neg (show ¬ (false = true) by decide)] at H
          obtain rfl := Option.some.inj H
          exact absurd HR_.out (by decide)
        ·rw [if_neg c24] at H
         have c24b0 : (t485 == t489) = false := by simpa using c24
         (try (have c24b1 : decide (t485 = t489) = false := by simpa using c24))
         (try (have c24b2 : (t485 == t489) = false := by simpa using c24))
         (try (have c24b3 : ¬ (t485 = t489) := by simpa using c24))
         clear c24
         obtain rfl := Option.some.inj H
         exact absurd HR_.out (by decide)
       ·replace c23 := Bool.eq_false_iff.mpr c23
        subst c23
        rw [if_neg (show ¬ (false = true) by decide)] at H
        obtain rfl := Option.some.inj H
        exact absurd HR_.out (by decide)
      ·rw [if_neg c21] at H
       have c21b0 : (t475 == t479) = false := by simpa using c21
       (try (have c21b1 : decide (t475 = t479) = false := by simpa using c21))
       (try (have c21b2 : (t475 == t479) = false := by simpa using c21))
       (try (have c21b3 : ¬ (t475 = t479) := by simpa using c21))
       clear c21
       obtain rfl := Option.some.inj H
       exact absurd HR_.out (by decide)
     ·replace c20 := Bool.eq_false_iff.mpr c20
      subst c20
      rw [if_neg (show ¬ (false = true) by decide)] at H
      obtain rfl := Option.some.inj H
      exact absurd HR_.out (by decide)
    ·rw [if_neg c18] at H
     have c18b0 : (t461 == t465) = false := by simpa using c18
     (try (have c18b1 : decide (t461 = t465) = false := by simpa using c18))
     (try (have c18b2 : (t461 == t465) = false := by simpa using c18))
     (try (have c18b3 : ¬ (t461 = t465) := by simpa using c18))
     clear c18
     obtain rfl := Option.some.inj H
     exact absurd HR_.out (by decide)
   ·replace c17 := Bool.eq_false_iff.mpr c17
    subst c17
    rw [if_neg (show ¬ (false = true) by decide)] at H
    obtain rfl := Option.some.inj H
    exact absurd HR_.out (by decide)
  ·rw [if_neg c15] at H
   have c15b0 : (t453 == t457) = false := by simpa using c15
   (try (have c15b1 : decide (t453 = t457) = false := by simpa using c15))
   (try (have c15b2 : (t453 == t457) = false := by simpa using c15))
   (try (have c15b3 : ¬ (t453 = t457) := by simpa using c15))
   clear c15
   obtain rfl := Option.some.inj H
   exact absurd HR_.out (by decide)

/-- THE ONE PURE STATEMENT of laws_FnSetsTold: yours. -/
def laws_FnSetsTold.Pure : Prop := ∀ (l0 : List Int), l0.length ≤ maxLen → l0.length * 1 ≤ 140737488351232 → (∀ x ∈ l0, (Lit.int .u8 x).wf = true) → ∃ k, laws_FnSetsTold.f k l0 = some true
theorem laws_FnSetsTold.walk (P : laws_FnSetsTold.Pure) (a0 : Option Addr) (len0 cap0 : Nat) (z0 : List Int) (w : World) (w0 : (a0 = none ∧ len0 = 0 ∧ cap0 = 0 ∧ z0 = []) ∨ ∃ x, a0 = some x ∧ len0 ≤ cap0 ∧ cap0 ≤ maxLen ∧ z0.length = cap0 ∧ (∀ i, i < z0.length → w.cell? (x.add i) = some (.int .u8 (z0.getD i 0))) ∧ ∀ n ∈ z0, (Lit.int .u8 n).wf = true) (y0 : len0 * 1 ≤ 140737488351232) (hgl : GlobOk w) :
  Calls Tryd.prog 3 #[.slice a0 len0 cap0] w fun e w' => e = .returned (.bool true) ∧ Below w.heap.size w w' := by
 obtain ⟨l0, rfl, hr0, hm0, hw0, hc0⟩ := ReadsInt.ofRowC w0
 obtain ⟨k, h⟩ := P l0 hm0 y0 hw0
 refine (laws_FnSetsTold.calls k _ _ l0 true w (Kd.C_of_reads (d := (0 : Int)) (h1 := fun _ => rfl) hr0) hc0 rfl hgl h).mono ?_
 rintro e w' ⟨rfl, hd⟩
 exact ⟨rfl, hd⟩

end Go.Proofs.YthngecooaddddaaDoor.PFnSetsTold
